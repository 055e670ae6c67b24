-- Printed for this claim by a program (wip/printx) that builds on the kit's print. Not trusted: Lean checks it.
import Derived.Test.YtdailhlghlledaaDoorXLeafBackx0
import Derived.Test.YtdailhlghlledaaDoorXLeafBackx1
import Derived.Test.YtdailhlghlledaaDoorXLeafBackx2
import Derived.Test.YtdailhlghlledaaDoorXLeafBackx3
import Derived.Test.YtdailhlghlledaaDoorXLeafBackx4
import Derived.Test.YtdailhlghlledaaDoorXLeafBackx5
import Derived.Test.YtdailhlghlledaaDoorXLeafBackx6
import Derived.Test.YtdailhlghlledaaDoorXLeafBackx7
import Derived.Test.YtdailhlghlledaaDoorXLeafBackx8
namespace Go.Proofs.YtdailhlghlledaaDoor.XLeafBack
open Go.RowKit Go.Proofs.YtdailhlghlledaaDoorW.PrintWords Go.Proofs.YtdailhlghlledaaDoorW.PrintLast Go.Proofs.YtdailhlghlledaaDoorW.PrintMore
attribute [local go_sem] max2_int min2_int max_two min_two max_three min_three max_four min_four   -- for this text's walks alone
set_option linter.unusedVariables false
set_option linter.unusedSimpArgs false

end Go.Proofs.YtdailhlghlledaaDoor.XLeafBack
