-- From the print's words, those that this claim needs.
import Derived.Test.YtdailhlghlledaaDoorKWTab
namespace Go.Proofs.YtdailhlghlledaaDoorW.PrintLast
section
variable {P:Program} {ops:Array Oper} {Q:Exit→Act→World→Prop} {md:Region.Mode} {S:World→Prop} {ds:List Nat} {T:Bool×List (List Nat×List Nat)}
end
end Go.Proofs.YtdailhlghlledaaDoorW.PrintLast
