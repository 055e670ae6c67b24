-- Printed for this claim by a program (wip/printx) that builds on the kit's print. Not trusted: Lean checks it.
import Derived.Test.YtcjfmlgljfggpaaDoorXCodecNewx0
import Derived.Test.YtcjfmlgljfggpaaDoorXCodecNewx1
import Derived.Test.YtcjfmlgljfggpaaDoorXCodecNewx2
import Derived.Test.YtcjfmlgljfggpaaDoorXCodecNewx3
import Derived.Test.YtcjfmlgljfggpaaDoorXCodecNewx4
namespace Go.Proofs.YtcjfmlgljfggpaaDoor.XCodecNew
open Go.RowKit Go.Proofs.YtcjfmlgljfggpaaDoorW.PrintWords Go.Proofs.YtcjfmlgljfggpaaDoorW.PrintLast Go.Proofs.YtcjfmlgljfggpaaDoorW.PrintMore
attribute [local go_sem] max2_int min2_int max_two min_two max_three min_three max_four min_four   -- for this text's walks alone
set_option linter.unusedVariables false
set_option linter.unusedSimpArgs false

end Go.Proofs.YtcjfmlgljfggpaaDoor.XCodecNew
