-- From the print's words, those that this claim needs.
import Derived.Test.YtdailhlghlledaaDoorKWInv
import Derived.Test.YtdailhlghlledaaDoorKWFootNe
namespace Go.Proofs.YtdailhlghlledaaDoorW.PrintWords
open Go.RowKit
end Go.Proofs.YtdailhlghlledaaDoorW.PrintWords
namespace Go.Proofs.YtdailhlghlledaaDoorW.PrintLast
section
variable {ops:Array Oper} {a:Act} {o og:Oper} {g:Nat} {t:Tmp} {u:Bool}
end
end Go.Proofs.YtdailhlghlledaaDoorW.PrintLast
