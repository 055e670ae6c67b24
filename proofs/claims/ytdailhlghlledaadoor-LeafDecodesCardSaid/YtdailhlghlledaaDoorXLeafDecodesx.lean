-- Printed for this claim by a program (wip/printx) that builds on the kit's print. Not trusted: Lean checks it.
import Derived.Test.YtdailhlghlledaaDoorXLeafDecodesx0
import Derived.Test.YtdailhlghlledaaDoorXLeafDecodesx1
import Derived.Test.YtdailhlghlledaaDoorXLeafDecodesx2
import Derived.Test.YtdailhlghlledaaDoorXLeafDecodesx3
import Derived.Test.YtdailhlghlledaaDoorXLeafDecodesx4
import Derived.Test.YtdailhlghlledaaDoorXLeafDecodesx5
import Derived.Test.YtdailhlghlledaaDoorXLeafDecodesx6
import Derived.Test.YtdailhlghlledaaDoorXLeafDecodesx7
import Derived.Test.YtdailhlghlledaaDoorXLeafDecodesx8
namespace Go.Proofs.YtdailhlghlledaaDoor.XLeafDecodes
open Go.RowKit Go.Proofs.YtdailhlghlledaaDoorW.PrintWords Go.Proofs.YtdailhlghlledaaDoorW.PrintLast Go.Proofs.YtdailhlghlledaaDoorW.PrintMore
attribute [local go_sem] max2_int min2_int max_two min_two max_three min_three max_four min_four   -- for this text's walks alone
set_option linter.unusedVariables false
set_option linter.unusedSimpArgs false

end Go.Proofs.YtdailhlghlledaaDoor.XLeafDecodes
