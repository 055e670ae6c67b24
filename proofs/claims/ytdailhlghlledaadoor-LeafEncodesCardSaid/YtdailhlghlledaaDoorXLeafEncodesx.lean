-- Printed for this claim by a program (wip/printx) that builds on the kit's print. Not trusted: Lean checks it.
import Derived.Test.YtdailhlghlledaaDoorXLeafEncodesx0
import Derived.Test.YtdailhlghlledaaDoorXLeafEncodesx1
import Derived.Test.YtdailhlghlledaaDoorXLeafEncodesx2
import Derived.Test.YtdailhlghlledaaDoorXLeafEncodesx3
import Derived.Test.YtdailhlghlledaaDoorXLeafEncodesx4
import Derived.Test.YtdailhlghlledaaDoorXLeafEncodesx5
import Derived.Test.YtdailhlghlledaaDoorXLeafEncodesx6
import Derived.Test.YtdailhlghlledaaDoorXLeafEncodesx7
import Derived.Test.YtdailhlghlledaaDoorXLeafEncodesx8
import Derived.Test.YtdailhlghlledaaDoorXLeafEncodesx9
namespace Go.Proofs.YtdailhlghlledaaDoor.XLeafEncodes
open Go.RowKit Go.Proofs.YtdailhlghlledaaDoorW.PrintWords Go.Proofs.YtdailhlghlledaaDoorW.PrintLast Go.Proofs.YtdailhlghlledaaDoorW.PrintMore
attribute [local go_sem] max2_int min2_int max_two min_two max_three min_three max_four min_four   -- for this text's walks alone
set_option linter.unusedVariables false
set_option linter.unusedSimpArgs false

end Go.Proofs.YtdailhlghlledaaDoor.XLeafEncodes
