-- Printed for this claim by a program (wip/printx) that builds on the kit's print. Not trusted: Lean checks it.
import Derived.Test.YtdailhlghlledaaXLeafFindsx0
import Derived.Test.YtdailhlghlledaaXLeafFindsx1
import Derived.Test.YtdailhlghlledaaXLeafFindsx2
import Derived.Test.YtdailhlghlledaaXLeafFindsx3
import Derived.Test.YtdailhlghlledaaXLeafFindsx4
import Derived.Test.YtdailhlghlledaaXLeafFindsx5
namespace Go.Proofs.Ytdailhlghlledaa.XLeafFinds
open Go.RowKit Go.Proofs.YtdailhlghlledaaW.PrintWords Go.Proofs.YtdailhlghlledaaW.PrintLast Go.Proofs.YtdailhlghlledaaW.PrintMore
attribute [local go_sem] max2_int min2_int max_two min_two max_three min_three max_four min_four   -- for this text's walks alone
set_option linter.unusedVariables false
set_option linter.unusedSimpArgs false

end Go.Proofs.Ytdailhlghlledaa.XLeafFinds
