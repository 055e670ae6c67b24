-- Printed for this claim by a program (wip/printx/news.py) that builds on the kit's print. Not trusted: Lean checks it.
-- slim
import Derived.Test.YtdailhlghlledaaDoorXLeafNewx0
import Derived.Test.YtdailhlghlledaaDoorXLeafNewx1
import Derived.Test.YtdailhlghlledaaDoorXLeafNewx2
import Derived.Test.YtdailhlghlledaaDoorXLeafNewx3
import Derived.Test.YtdailhlghlledaaDoorXLeafNewx4
import Derived.Test.YtdailhlghlledaaDoorXLeafNewx5
import Derived.Test.YtdailhlghlledaaDoorXLeafNewx6
import Derived.Test.YtdailhlghlledaaDoorXLeafNewx7
import Derived.Test.YtdailhlghlledaaDoorXLeafNewx8
import Derived.Test.YtdailhlghlledaaDoorXLeafNewx9
import Derived.Test.YtdailhlghlledaaDoorXLeafNewx10
import Derived.Test.YtdailhlghlledaaDoorXLeafNewx11
import Derived.Test.YtdailhlghlledaaDoorXLeafNewx12
import Derived.Test.YtdailhlghlledaaDoorXLeafNewx13
import Derived.Test.YtdailhlghlledaaDoorXLeafNewx15
import Derived.Test.YtdailhlghlledaaDoorXLeafNewx91
import Derived.Test.YtdailhlghlledaaDoorXLeafNewx92
import Derived.Test.YtdailhlghlledaaDoorXLeafNewx93
namespace Go.Proofs.YtdailhlghlledaaDoor.XLeafNew
open Go.RowKit Go.Proofs.YtdailhlghlledaaDoorW.PrintWords Go.Proofs.YtdailhlghlledaaDoorW.PrintLast Go.Proofs.YtdailhlghlledaaDoorW.PrintMore
attribute [local go_sem] max2_int min2_int max_two min_two max_three min_three max_four min_four   -- for this text's walks alone
set_option linter.unusedVariables false
set_option linter.unusedSimpArgs false

end Go.Proofs.YtdailhlghlledaaDoor.XLeafNew
