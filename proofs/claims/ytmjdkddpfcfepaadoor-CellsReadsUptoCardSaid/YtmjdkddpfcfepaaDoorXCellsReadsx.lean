-- Printed for this claim by a program (wip/printx) that builds on the kit's print. Not trusted: Lean checks it.
import Derived.Test.YtmjdkddpfcfepaaDoorXCellsReadsx0
import Derived.Test.YtmjdkddpfcfepaaDoorXCellsReadsx1
import Derived.Test.YtmjdkddpfcfepaaDoorXCellsReadsx2
import Derived.Test.YtmjdkddpfcfepaaDoorXCellsReadsx3
import Derived.Test.YtmjdkddpfcfepaaDoorXCellsReadsx4
namespace Go.Proofs.YtmjdkddpfcfepaaDoor.XCellsReads
open Go.RowKit Go.Proofs.YtmjdkddpfcfepaaDoorW.PrintWords Go.Proofs.YtmjdkddpfcfepaaDoorW.PrintLast Go.Proofs.YtmjdkddpfcfepaaDoorW.PrintMore
attribute [local go_sem] max2_int min2_int max_two min_two max_three min_three max_four min_four   -- for this text's walks alone
set_option linter.unusedVariables false
set_option linter.unusedSimpArgs false

end Go.Proofs.YtmjdkddpfcfepaaDoor.XCellsReads
