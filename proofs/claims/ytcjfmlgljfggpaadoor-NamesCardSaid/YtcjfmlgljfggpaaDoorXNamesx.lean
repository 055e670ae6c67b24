-- Printed for this claim by a program (wip/printx) that builds on the kit's print. Not trusted: Lean checks it.
import Derived.Test.YtcjfmlgljfggpaaDoorXNamesx0
import Derived.Test.YtcjfmlgljfggpaaDoorXNamesx1
import Derived.Test.YtcjfmlgljfggpaaDoorXNamesx2
namespace Go.Proofs.YtcjfmlgljfggpaaDoor.XNames
open Go.RowKit Go.Proofs.YtcjfmlgljfggpaaDoorW.PrintWords Go.Proofs.YtcjfmlgljfggpaaDoorW.PrintLast Go.Proofs.YtcjfmlgljfggpaaDoorW.PrintMore
attribute [local go_sem] max2_int min2_int max_two min_two max_three min_three max_four min_four   -- for this text's walks alone
set_option linter.unusedVariables false
set_option linter.unusedSimpArgs false

end Go.Proofs.YtcjfmlgljfggpaaDoor.XNames
