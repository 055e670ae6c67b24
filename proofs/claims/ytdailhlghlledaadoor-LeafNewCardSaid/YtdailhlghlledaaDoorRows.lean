/-
  NARROWER THAN 'FOR EVERY INPUT', by the rows' own cells (each row's printed sentence says how): LeafSizes: laid · LeafCuts: laid · LeafEncodes: laid · LeafDecodes: laid · LeafBack: laid · LeafKeeps: laid · LeafHalves: laid · LeafNew: laid.
  DERIVED. THE GIVEN ROWS OF THIS SEAT. 8 by the template 'for every input the law returns true; each argument reads behind the call as it read before'; 0 by the template 'total and deterministic' (their statements: YtdailhlghlledaaDoorTotals.lean).
  GIVEN WITH THE SEED: the statements are not yours to turn. If you find one false, say at which input.
  Laid BY PROGRAM, IN A SANDBOX (cutbox-rows.mjs): the forced cells as the released guide's own fill.sh prints them over the translation 7f85cf09ee8db79e… (all of the seat's roots in one cut). By AI agents, Wed Nov 11 2026. No macro, syntax, notation, axiom, sorry.
-/
import Derived.Test.YtdailhlghlledaaDoorChecked
import GoSem.Claim
import GoSem.ClaimJoined
import GoSem.ClaimMapViews
import Derived.JoinedTies
import Derived.KernelRfl
namespace Go.Proofs.YtdailhlghlledaaDoor
/- THE CELL 'sum', in the pinned program and in every row, IS THE sha256 OF THE DUMP (.gsa) THAT YtdailhlghlledaaDoorProg.lean LOADS. Nothing in Lean hashes anything: it is a label: what it is worth is what the hold of that sum in a sandbox is worth. -/
noncomputable def Tryd.pinned : Pinned := { name := "ytdailhlghlledaadoor", sum := "7f85cf09ee8db79e68c1401245fc127601e91e3ebf7b72e7932b6d8f33900e10", checked := Tryd.checked }
namespace Rows
def none {H : Type} : Left H := { results := [], args := [] }

/- WHAT THE LISTED PACKAGE-LEVEL VARIABLES READ AS WHEN THE CALL BEGINS. Each datum BY PROGRAM (the guide's laid-datum.mjs) off the statement by which the dump's own 'gosem.cut.vars' lays the variable. In a bare row this is a premise. The card (YtdailhlghlledaaDoorCards.lean) ties it to the program's text. -/
def laid_copse_api_ErrArg {H : Type} : DataW H := .iface "*errors.errorString" (.ptr (.agg [.lit (.string [97, 32, 110, 117, 109, 98, 101, 114, 32, 111, 114, 32, 97, 110, 32, 97, 114, 103, 117, 109, 101, 110, 116, 32, 105, 115, 32, 111, 117, 116, 32, 111, 102, 32, 105, 116, 115, 32, 112, 108, 97, 99, 101])]))
def laid_copse_api_ErrText {H : Type} : DataW H := .iface "*errors.errorString" (.ptr (.agg [.lit (.string [97, 32, 116, 101, 120, 116, 32, 111, 114, 32, 98, 121, 116, 101, 115, 32, 116, 104, 97, 116, 32, 99, 97, 110, 110, 111, 116, 32, 98, 101, 32, 114, 101, 97, 100])]))
def laid_copse_api_ErrMany {H : Type} : DataW H := .iface "*errors.errorString" (.ptr (.agg [.lit (.string [97, 98, 111, 118, 101, 32, 97, 32, 108, 105, 109, 105, 116])]))
def laid_copse_api_ErrShort {H : Type} : DataW H := .iface "*errors.errorString" (.ptr (.agg [.lit (.string [115, 111, 109, 101, 116, 104, 105, 110, 103, 32, 105, 115, 32, 109, 105, 115, 115, 105, 110, 103])]))
def laid_copse_api_ErrTwice {H : Type} : DataW H := .iface "*errors.errorString" (.ptr (.agg [.lit (.string [116, 104, 101, 114, 101, 32, 116, 119, 105, 99, 101])]))
def laid_copse_api_ErrLost {H : Type} : DataW H := .iface "*errors.errorString" (.ptr (.agg [.lit (.string [110, 111, 116, 32, 116, 104, 101, 114, 101])]))
def laid_copse_api_ErrFull {H : Type} : DataW H := .iface "*errors.errorString" (.ptr (.agg [.lit (.string [110, 111, 32, 114, 111, 111, 109, 32, 111, 110, 32, 116, 104, 101, 32, 100, 101, 118, 105, 99, 101])]))
def laid_copse_api_ErrDead {H : Type} : DataW H := .iface "*errors.errorString" (.ptr (.agg [.lit (.string [116, 104, 101, 32, 112, 111, 119, 101, 114, 32, 104, 97, 115, 32, 102, 97, 105, 108, 101, 100])]))
def laid_copse_api_ErrCorrupt {H : Type} : DataW H := .iface "*errors.errorString" (.ptr (.agg [.lit (.string [110, 111, 116, 32, 97, 32, 115, 116, 111, 114, 101])]))
def laid_copse_api_ErrStatus {H : Type} : DataW H := .iface "*errors.errorString" (.ptr (.agg [.lit (.string [110, 111, 116, 32, 110, 111, 119])]))
def laid_copse_api_ErrTxid {H : Type} : DataW H := .iface "*errors.errorString" (.ptr (.agg [.lit (.string [110, 111, 32, 102, 117, 114, 116, 104, 101, 114, 32, 116, 114, 97, 110, 115, 97, 99, 116, 105, 111, 110, 32, 104, 97, 115, 32, 97, 32, 110, 117, 109, 98, 101, 114])]))
def laid_copse_api_ErrOrder {H : Type} : DataW H := .iface "*errors.errorString" (.ptr (.agg [.lit (.string [110, 111, 116, 32, 105, 110, 32, 111, 114, 100, 101, 114])]))
def laid_copse_api_ErrKind {H : Type} : DataW H := .iface "*errors.errorString" (.ptr (.agg [.lit (.string [111, 102, 32, 97, 110, 111, 116, 104, 101, 114, 32, 107, 105, 110, 100])]))

/-- 'copselaw7.LeafSizes': WHATEVER THE INPUT: true; the input reads as it did. -/
def leafSizesSpec : ChangeSpec := { name := "leafSizes", fn := fun _ => fun
  | [d] => { results := [.lit (.bool true)], args := [d] }
  | _ => none }
def leafSizesRow : OpenClaim := { program := "ytdailhlghlledaadoor", sum := "7f85cf09ee8db79e68c1401245fc127601e91e3ebf7b72e7932b6d8f33900e10", func := "copse/copselaw7.LeafSizes", spec := "leafSizes", named := ["copse/api.ErrArg", "copse/api.ErrOrder", "copse/api.ErrMany", "copse/api.ErrShort", "copse/api.ErrText", "copse/api.ErrTwice", "copse/api.ErrLost", "copse/api.ErrFull", "copse/api.ErrDead", "copse/api.ErrCorrupt", "copse/api.ErrStatus", "copse/api.ErrTxid", "copse/api.ErrKind"], apart := false, laid := [("copse/api.ErrArg", laid_copse_api_ErrArg), ("copse/api.ErrText", laid_copse_api_ErrText), ("copse/api.ErrMany", laid_copse_api_ErrMany), ("copse/api.ErrShort", laid_copse_api_ErrShort), ("copse/api.ErrTwice", laid_copse_api_ErrTwice), ("copse/api.ErrLost", laid_copse_api_ErrLost), ("copse/api.ErrFull", laid_copse_api_ErrFull), ("copse/api.ErrDead", laid_copse_api_ErrDead), ("copse/api.ErrCorrupt", laid_copse_api_ErrCorrupt), ("copse/api.ErrStatus", laid_copse_api_ErrStatus), ("copse/api.ErrTxid", laid_copse_api_ErrTxid), ("copse/api.ErrOrder", laid_copse_api_ErrOrder), ("copse/api.ErrKind", laid_copse_api_ErrKind)] }
def LeafSizesSaid : Prop := leafSizesRow.holds Tryd.pinned (OpenSpec.ofChange leafSizesSpec)

/-- ITS FALSE NEIGHBOUR: 'it returns false'. Refute it at one input. -/
def leafSizesWrong : ChangeSpec := { name := "leafSizes", fn := fun _ => fun
  | [d] => { results := [.lit (.bool false)], args := [d] }
  | _ => none }
def LeafSizesWrongFalsely : Prop := leafSizesRow.holds Tryd.pinned (OpenSpec.ofChange leafSizesWrong)

/-- 'copselaw7.LeafCuts': WHATEVER THE INPUT: true; the input reads as it did. -/
def leafCutsSpec : ChangeSpec := { name := "leafCuts", fn := fun _ => fun
  | [d] => { results := [.lit (.bool true)], args := [d] }
  | _ => none }
def leafCutsRow : OpenClaim := { program := "ytdailhlghlledaadoor", sum := "7f85cf09ee8db79e68c1401245fc127601e91e3ebf7b72e7932b6d8f33900e10", func := "copse/copselaw7.LeafCuts", spec := "leafCuts", unfollowed := true, recurses := true, named := ["copse/api.ErrShort", "copse/api.ErrArg", "copse/api.ErrText", "copse/api.ErrMany", "copse/api.ErrTwice", "copse/api.ErrLost", "copse/api.ErrFull", "copse/api.ErrDead", "copse/api.ErrCorrupt", "copse/api.ErrStatus", "copse/api.ErrTxid", "copse/api.ErrOrder", "copse/api.ErrKind"], apart := false, laid := [("copse/api.ErrArg", laid_copse_api_ErrArg), ("copse/api.ErrText", laid_copse_api_ErrText), ("copse/api.ErrMany", laid_copse_api_ErrMany), ("copse/api.ErrShort", laid_copse_api_ErrShort), ("copse/api.ErrTwice", laid_copse_api_ErrTwice), ("copse/api.ErrLost", laid_copse_api_ErrLost), ("copse/api.ErrFull", laid_copse_api_ErrFull), ("copse/api.ErrDead", laid_copse_api_ErrDead), ("copse/api.ErrCorrupt", laid_copse_api_ErrCorrupt), ("copse/api.ErrStatus", laid_copse_api_ErrStatus), ("copse/api.ErrTxid", laid_copse_api_ErrTxid), ("copse/api.ErrOrder", laid_copse_api_ErrOrder), ("copse/api.ErrKind", laid_copse_api_ErrKind)] }
def LeafCutsSaid : Prop := leafCutsRow.holds Tryd.pinned (OpenSpec.ofChange leafCutsSpec)

/-- ITS FALSE NEIGHBOUR: 'it returns false'. Refute it at one input. -/
def leafCutsWrong : ChangeSpec := { name := "leafCuts", fn := fun _ => fun
  | [d] => { results := [.lit (.bool false)], args := [d] }
  | _ => none }
def LeafCutsWrongFalsely : Prop := leafCutsRow.holds Tryd.pinned (OpenSpec.ofChange leafCutsWrong)

/-- 'copselaw7.LeafEncodes': WHATEVER THE INPUT: true; the input reads as it did. -/
def leafEncodesSpec : ChangeSpec := { name := "leafEncodes", fn := fun _ => fun
  | [d] => { results := [.lit (.bool true)], args := [d] }
  | _ => none }
def leafEncodesRow : OpenClaim := { program := "ytdailhlghlledaadoor", sum := "7f85cf09ee8db79e68c1401245fc127601e91e3ebf7b72e7932b6d8f33900e10", func := "copse/copselaw7.LeafEncodes", spec := "leafEncodes", named := ["copse/api.ErrArg", "copse/api.ErrOrder", "copse/api.ErrMany", "copse/api.ErrShort", "copse/api.ErrText", "copse/api.ErrTwice", "copse/api.ErrLost", "copse/api.ErrFull", "copse/api.ErrDead", "copse/api.ErrCorrupt", "copse/api.ErrStatus", "copse/api.ErrTxid", "copse/api.ErrKind"], apart := false, laid := [("copse/api.ErrArg", laid_copse_api_ErrArg), ("copse/api.ErrText", laid_copse_api_ErrText), ("copse/api.ErrMany", laid_copse_api_ErrMany), ("copse/api.ErrShort", laid_copse_api_ErrShort), ("copse/api.ErrTwice", laid_copse_api_ErrTwice), ("copse/api.ErrLost", laid_copse_api_ErrLost), ("copse/api.ErrFull", laid_copse_api_ErrFull), ("copse/api.ErrDead", laid_copse_api_ErrDead), ("copse/api.ErrCorrupt", laid_copse_api_ErrCorrupt), ("copse/api.ErrStatus", laid_copse_api_ErrStatus), ("copse/api.ErrTxid", laid_copse_api_ErrTxid), ("copse/api.ErrOrder", laid_copse_api_ErrOrder), ("copse/api.ErrKind", laid_copse_api_ErrKind)] }
def LeafEncodesSaid : Prop := leafEncodesRow.holds Tryd.pinned (OpenSpec.ofChange leafEncodesSpec)

/-- ITS FALSE NEIGHBOUR: 'it returns false'. Refute it at one input. -/
def leafEncodesWrong : ChangeSpec := { name := "leafEncodes", fn := fun _ => fun
  | [d] => { results := [.lit (.bool false)], args := [d] }
  | _ => none }
def LeafEncodesWrongFalsely : Prop := leafEncodesRow.holds Tryd.pinned (OpenSpec.ofChange leafEncodesWrong)

/-- 'copselaw7.LeafDecodes': WHATEVER THE INPUT: true; the input reads as it did. -/
def leafDecodesSpec : ChangeSpec := { name := "leafDecodes", fn := fun _ => fun
  | [d] => { results := [.lit (.bool true)], args := [d] }
  | _ => none }
def leafDecodesRow : OpenClaim := { program := "ytdailhlghlledaadoor", sum := "7f85cf09ee8db79e68c1401245fc127601e91e3ebf7b72e7932b6d8f33900e10", func := "copse/copselaw7.LeafDecodes", spec := "leafDecodes", named := ["copse/api.ErrText", "copse/api.ErrArg", "copse/api.ErrOrder", "copse/api.ErrMany", "copse/api.ErrShort", "copse/api.ErrTwice", "copse/api.ErrLost", "copse/api.ErrFull", "copse/api.ErrDead", "copse/api.ErrCorrupt", "copse/api.ErrStatus", "copse/api.ErrTxid", "copse/api.ErrKind"], apart := false, laid := [("copse/api.ErrArg", laid_copse_api_ErrArg), ("copse/api.ErrText", laid_copse_api_ErrText), ("copse/api.ErrMany", laid_copse_api_ErrMany), ("copse/api.ErrShort", laid_copse_api_ErrShort), ("copse/api.ErrTwice", laid_copse_api_ErrTwice), ("copse/api.ErrLost", laid_copse_api_ErrLost), ("copse/api.ErrFull", laid_copse_api_ErrFull), ("copse/api.ErrDead", laid_copse_api_ErrDead), ("copse/api.ErrCorrupt", laid_copse_api_ErrCorrupt), ("copse/api.ErrStatus", laid_copse_api_ErrStatus), ("copse/api.ErrTxid", laid_copse_api_ErrTxid), ("copse/api.ErrOrder", laid_copse_api_ErrOrder), ("copse/api.ErrKind", laid_copse_api_ErrKind)] }
def LeafDecodesSaid : Prop := leafDecodesRow.holds Tryd.pinned (OpenSpec.ofChange leafDecodesSpec)

/-- ITS FALSE NEIGHBOUR: 'it returns false'. Refute it at one input. -/
def leafDecodesWrong : ChangeSpec := { name := "leafDecodes", fn := fun _ => fun
  | [d] => { results := [.lit (.bool false)], args := [d] }
  | _ => none }
def LeafDecodesWrongFalsely : Prop := leafDecodesRow.holds Tryd.pinned (OpenSpec.ofChange leafDecodesWrong)

/-- 'copselaw7.LeafBack': WHATEVER THE INPUT: true; the input reads as it did. -/
def leafBackSpec : ChangeSpec := { name := "leafBack", fn := fun _ => fun
  | [d] => { results := [.lit (.bool true)], args := [d] }
  | _ => none }
def leafBackRow : OpenClaim := { program := "ytdailhlghlledaadoor", sum := "7f85cf09ee8db79e68c1401245fc127601e91e3ebf7b72e7932b6d8f33900e10", func := "copse/copselaw7.LeafBack", spec := "leafBack", named := ["copse/api.ErrArg", "copse/api.ErrOrder", "copse/api.ErrMany", "copse/api.ErrShort", "copse/api.ErrText", "copse/api.ErrTwice", "copse/api.ErrLost", "copse/api.ErrFull", "copse/api.ErrDead", "copse/api.ErrCorrupt", "copse/api.ErrStatus", "copse/api.ErrTxid", "copse/api.ErrKind"], apart := false, laid := [("copse/api.ErrArg", laid_copse_api_ErrArg), ("copse/api.ErrText", laid_copse_api_ErrText), ("copse/api.ErrMany", laid_copse_api_ErrMany), ("copse/api.ErrShort", laid_copse_api_ErrShort), ("copse/api.ErrTwice", laid_copse_api_ErrTwice), ("copse/api.ErrLost", laid_copse_api_ErrLost), ("copse/api.ErrFull", laid_copse_api_ErrFull), ("copse/api.ErrDead", laid_copse_api_ErrDead), ("copse/api.ErrCorrupt", laid_copse_api_ErrCorrupt), ("copse/api.ErrStatus", laid_copse_api_ErrStatus), ("copse/api.ErrTxid", laid_copse_api_ErrTxid), ("copse/api.ErrOrder", laid_copse_api_ErrOrder), ("copse/api.ErrKind", laid_copse_api_ErrKind)] }
def LeafBackSaid : Prop := leafBackRow.holds Tryd.pinned (OpenSpec.ofChange leafBackSpec)

/-- ITS FALSE NEIGHBOUR: 'it returns false'. Refute it at one input. -/
def leafBackWrong : ChangeSpec := { name := "leafBack", fn := fun _ => fun
  | [d] => { results := [.lit (.bool false)], args := [d] }
  | _ => none }
def LeafBackWrongFalsely : Prop := leafBackRow.holds Tryd.pinned (OpenSpec.ofChange leafBackWrong)

/-- 'copselaw7.LeafKeeps': WHATEVER THE INPUT: true; the input reads as it did. -/
def leafKeepsSpec : ChangeSpec := { name := "leafKeeps", fn := fun _ => fun
  | [d] => { results := [.lit (.bool true)], args := [d] }
  | _ => none }
def leafKeepsRow : OpenClaim := { program := "ytdailhlghlledaadoor", sum := "7f85cf09ee8db79e68c1401245fc127601e91e3ebf7b72e7932b6d8f33900e10", func := "copse/copselaw7.LeafKeeps", spec := "leafKeeps", unfollowed := true, recurses := true, named := ["copse/api.ErrArg", "copse/api.ErrOrder", "copse/api.ErrMany", "copse/api.ErrShort", "copse/api.ErrText"], apart := false, laid := [("copse/api.ErrArg", laid_copse_api_ErrArg), ("copse/api.ErrText", laid_copse_api_ErrText), ("copse/api.ErrMany", laid_copse_api_ErrMany), ("copse/api.ErrShort", laid_copse_api_ErrShort), ("copse/api.ErrOrder", laid_copse_api_ErrOrder)] }
def LeafKeepsSaid : Prop := leafKeepsRow.holds Tryd.pinned (OpenSpec.ofChange leafKeepsSpec)

/-- ITS FALSE NEIGHBOUR: 'it returns false'. Refute it at one input. -/
def leafKeepsWrong : ChangeSpec := { name := "leafKeeps", fn := fun _ => fun
  | [d] => { results := [.lit (.bool false)], args := [d] }
  | _ => none }
def LeafKeepsWrongFalsely : Prop := leafKeepsRow.holds Tryd.pinned (OpenSpec.ofChange leafKeepsWrong)

/-- 'copselaw7.LeafHalves': WHATEVER THE INPUT: true; the input reads as it did. -/
def leafHalvesSpec : ChangeSpec := { name := "leafHalves", fn := fun _ => fun
  | [d] => { results := [.lit (.bool true)], args := [d] }
  | _ => none }
def leafHalvesRow : OpenClaim := { program := "ytdailhlghlledaadoor", sum := "7f85cf09ee8db79e68c1401245fc127601e91e3ebf7b72e7932b6d8f33900e10", func := "copse/copselaw7.LeafHalves", spec := "leafHalves", unfollowed := true, recurses := true, named := ["copse/api.ErrArg", "copse/api.ErrOrder", "copse/api.ErrMany", "copse/api.ErrShort", "copse/api.ErrText"], apart := false, laid := [("copse/api.ErrArg", laid_copse_api_ErrArg), ("copse/api.ErrText", laid_copse_api_ErrText), ("copse/api.ErrMany", laid_copse_api_ErrMany), ("copse/api.ErrShort", laid_copse_api_ErrShort), ("copse/api.ErrOrder", laid_copse_api_ErrOrder)] }
def LeafHalvesSaid : Prop := leafHalvesRow.holds Tryd.pinned (OpenSpec.ofChange leafHalvesSpec)

/-- ITS FALSE NEIGHBOUR: 'it returns false'. Refute it at one input. -/
def leafHalvesWrong : ChangeSpec := { name := "leafHalves", fn := fun _ => fun
  | [d] => { results := [.lit (.bool false)], args := [d] }
  | _ => none }
def LeafHalvesWrongFalsely : Prop := leafHalvesRow.holds Tryd.pinned (OpenSpec.ofChange leafHalvesWrong)

/-- 'copselaw7.LeafNew': WHATEVER THE INPUT: true; the input reads as it did. -/
def leafNewSpec : ChangeSpec := { name := "leafNew", fn := fun _ => fun
  | [d] => { results := [.lit (.bool true)], args := [d] }
  | _ => none }
def leafNewRow : OpenClaim := { program := "ytdailhlghlledaadoor", sum := "7f85cf09ee8db79e68c1401245fc127601e91e3ebf7b72e7932b6d8f33900e10", func := "copse/copselaw7.LeafNew", spec := "leafNew", unfollowed := true, recurses := true, named := ["copse/api.ErrArg", "copse/api.ErrOrder", "copse/api.ErrMany", "copse/api.ErrShort", "copse/api.ErrText", "copse/api.ErrTwice", "copse/api.ErrLost", "copse/api.ErrFull", "copse/api.ErrDead", "copse/api.ErrCorrupt", "copse/api.ErrStatus", "copse/api.ErrTxid", "copse/api.ErrKind"], apart := false, laid := [("copse/api.ErrArg", laid_copse_api_ErrArg), ("copse/api.ErrText", laid_copse_api_ErrText), ("copse/api.ErrMany", laid_copse_api_ErrMany), ("copse/api.ErrShort", laid_copse_api_ErrShort), ("copse/api.ErrTwice", laid_copse_api_ErrTwice), ("copse/api.ErrLost", laid_copse_api_ErrLost), ("copse/api.ErrFull", laid_copse_api_ErrFull), ("copse/api.ErrDead", laid_copse_api_ErrDead), ("copse/api.ErrCorrupt", laid_copse_api_ErrCorrupt), ("copse/api.ErrStatus", laid_copse_api_ErrStatus), ("copse/api.ErrTxid", laid_copse_api_ErrTxid), ("copse/api.ErrOrder", laid_copse_api_ErrOrder), ("copse/api.ErrKind", laid_copse_api_ErrKind)] }
def LeafNewSaid : Prop := leafNewRow.holds Tryd.pinned (OpenSpec.ofChange leafNewSpec)

/-- ITS FALSE NEIGHBOUR: 'it returns false'. Refute it at one input. -/
def leafNewWrong : ChangeSpec := { name := "leafNew", fn := fun _ => fun
  | [d] => { results := [.lit (.bool false)], args := [d] }
  | _ => none }
def LeafNewWrongFalsely : Prop := leafNewRow.holds Tryd.pinned (OpenSpec.ofChange leafNewWrong)

/- THE SECOND FORM. 'bulk': how many values and letters a reading holds, each counted each time it is reached (what is shared counts as often as it is met; a slice's spare places count too). A statement '..UptoSaid' is the law's where the arguments, and the package variables that the reading takes, are together of bulk at most 1048576: NARROWER than '..Said'. Prove '..Said' where nothing that the law and all that it calls make is longer than what came in: it says more and counts as full. Else prove '..UptoSaid'. A law counts once. -/
mutual
def uptoBulk {H : Type} : DataW H → Nat
  | .lit (.string bytes) => bytes.length + 1
  | .lit _ => 1
  | .nil => 1
  | .ptr d => uptoBulk d + 1
  | .slice elems spare => uptoBulkAll elems + uptoBulkAll spare + 1
  | .agg parts => uptoBulkAll parts + 1
  | .iface _ d => uptoBulk d + 1
  | .map entries => uptoBulkEntries entries + 1
  | .held _ => 1
def uptoBulkAll {H : Type} : List (DataW H) → Nat
  | [] => 0
  | d :: r => uptoBulk d + uptoBulkAll r
def uptoBulkEntries {H : Type} : List (Lit × DataW H) → Nat
  | [] => 0
  | x :: r => uptoBulkEntry x + uptoBulkEntries r
def uptoBulkEntry {H : Type} : Lit × DataW H → Nat
  | (.string bytes, d) => bytes.length + uptoBulk d + 1
  | (_, d) => uptoBulk d + 1
 end
def uptoSmall : (H : Type) → List (DataW H) → Bool := fun _ ds => decide (uptoBulkAll ds ≤ 1048576)
def OpenSpec.upto (s : _root_.Go.ChangeSpec) : _root_.Go.OpenSpec := { _root_.Go.OpenSpec.ofChange s with cond := some uptoSmall }

/-- 'copselaw7.LeafSizes', WHERE WHAT IT READS IS OF BULK AT MOST 1048576: true; the input reads as it did. -/
def leafSizesUptoRow : OpenClaim := { program := "ytdailhlghlledaadoor", sum := "7f85cf09ee8db79e68c1401245fc127601e91e3ebf7b72e7932b6d8f33900e10", func := "copse/copselaw7.LeafSizes", spec := "leafSizes", named := ["copse/api.ErrArg", "copse/api.ErrOrder", "copse/api.ErrMany", "copse/api.ErrShort", "copse/api.ErrText", "copse/api.ErrTwice", "copse/api.ErrLost", "copse/api.ErrFull", "copse/api.ErrDead", "copse/api.ErrCorrupt", "copse/api.ErrStatus", "copse/api.ErrTxid", "copse/api.ErrKind"], apart := false, laid := [("copse/api.ErrArg", laid_copse_api_ErrArg), ("copse/api.ErrText", laid_copse_api_ErrText), ("copse/api.ErrMany", laid_copse_api_ErrMany), ("copse/api.ErrShort", laid_copse_api_ErrShort), ("copse/api.ErrTwice", laid_copse_api_ErrTwice), ("copse/api.ErrLost", laid_copse_api_ErrLost), ("copse/api.ErrFull", laid_copse_api_ErrFull), ("copse/api.ErrDead", laid_copse_api_ErrDead), ("copse/api.ErrCorrupt", laid_copse_api_ErrCorrupt), ("copse/api.ErrStatus", laid_copse_api_ErrStatus), ("copse/api.ErrTxid", laid_copse_api_ErrTxid), ("copse/api.ErrOrder", laid_copse_api_ErrOrder), ("copse/api.ErrKind", laid_copse_api_ErrKind)], narrowed := true }
def LeafSizesUptoSaid : Prop := leafSizesUptoRow.holds Tryd.pinned (OpenSpec.upto leafSizesSpec)

/-- 'copselaw7.LeafCuts', WHERE WHAT IT READS IS OF BULK AT MOST 1048576: true; the input reads as it did. -/
def leafCutsUptoRow : OpenClaim := { program := "ytdailhlghlledaadoor", sum := "7f85cf09ee8db79e68c1401245fc127601e91e3ebf7b72e7932b6d8f33900e10", func := "copse/copselaw7.LeafCuts", spec := "leafCuts", unfollowed := true, recurses := true, named := ["copse/api.ErrShort", "copse/api.ErrArg", "copse/api.ErrText", "copse/api.ErrMany", "copse/api.ErrTwice", "copse/api.ErrLost", "copse/api.ErrFull", "copse/api.ErrDead", "copse/api.ErrCorrupt", "copse/api.ErrStatus", "copse/api.ErrTxid", "copse/api.ErrOrder", "copse/api.ErrKind"], apart := false, laid := [("copse/api.ErrArg", laid_copse_api_ErrArg), ("copse/api.ErrText", laid_copse_api_ErrText), ("copse/api.ErrMany", laid_copse_api_ErrMany), ("copse/api.ErrShort", laid_copse_api_ErrShort), ("copse/api.ErrTwice", laid_copse_api_ErrTwice), ("copse/api.ErrLost", laid_copse_api_ErrLost), ("copse/api.ErrFull", laid_copse_api_ErrFull), ("copse/api.ErrDead", laid_copse_api_ErrDead), ("copse/api.ErrCorrupt", laid_copse_api_ErrCorrupt), ("copse/api.ErrStatus", laid_copse_api_ErrStatus), ("copse/api.ErrTxid", laid_copse_api_ErrTxid), ("copse/api.ErrOrder", laid_copse_api_ErrOrder), ("copse/api.ErrKind", laid_copse_api_ErrKind)], narrowed := true }
def LeafCutsUptoSaid : Prop := leafCutsUptoRow.holds Tryd.pinned (OpenSpec.upto leafCutsSpec)

/-- 'copselaw7.LeafEncodes', WHERE WHAT IT READS IS OF BULK AT MOST 1048576: true; the input reads as it did. -/
def leafEncodesUptoRow : OpenClaim := { program := "ytdailhlghlledaadoor", sum := "7f85cf09ee8db79e68c1401245fc127601e91e3ebf7b72e7932b6d8f33900e10", func := "copse/copselaw7.LeafEncodes", spec := "leafEncodes", named := ["copse/api.ErrArg", "copse/api.ErrOrder", "copse/api.ErrMany", "copse/api.ErrShort", "copse/api.ErrText", "copse/api.ErrTwice", "copse/api.ErrLost", "copse/api.ErrFull", "copse/api.ErrDead", "copse/api.ErrCorrupt", "copse/api.ErrStatus", "copse/api.ErrTxid", "copse/api.ErrKind"], apart := false, laid := [("copse/api.ErrArg", laid_copse_api_ErrArg), ("copse/api.ErrText", laid_copse_api_ErrText), ("copse/api.ErrMany", laid_copse_api_ErrMany), ("copse/api.ErrShort", laid_copse_api_ErrShort), ("copse/api.ErrTwice", laid_copse_api_ErrTwice), ("copse/api.ErrLost", laid_copse_api_ErrLost), ("copse/api.ErrFull", laid_copse_api_ErrFull), ("copse/api.ErrDead", laid_copse_api_ErrDead), ("copse/api.ErrCorrupt", laid_copse_api_ErrCorrupt), ("copse/api.ErrStatus", laid_copse_api_ErrStatus), ("copse/api.ErrTxid", laid_copse_api_ErrTxid), ("copse/api.ErrOrder", laid_copse_api_ErrOrder), ("copse/api.ErrKind", laid_copse_api_ErrKind)], narrowed := true }
def LeafEncodesUptoSaid : Prop := leafEncodesUptoRow.holds Tryd.pinned (OpenSpec.upto leafEncodesSpec)

/-- 'copselaw7.LeafDecodes', WHERE WHAT IT READS IS OF BULK AT MOST 1048576: true; the input reads as it did. -/
def leafDecodesUptoRow : OpenClaim := { program := "ytdailhlghlledaadoor", sum := "7f85cf09ee8db79e68c1401245fc127601e91e3ebf7b72e7932b6d8f33900e10", func := "copse/copselaw7.LeafDecodes", spec := "leafDecodes", named := ["copse/api.ErrText", "copse/api.ErrArg", "copse/api.ErrOrder", "copse/api.ErrMany", "copse/api.ErrShort", "copse/api.ErrTwice", "copse/api.ErrLost", "copse/api.ErrFull", "copse/api.ErrDead", "copse/api.ErrCorrupt", "copse/api.ErrStatus", "copse/api.ErrTxid", "copse/api.ErrKind"], apart := false, laid := [("copse/api.ErrArg", laid_copse_api_ErrArg), ("copse/api.ErrText", laid_copse_api_ErrText), ("copse/api.ErrMany", laid_copse_api_ErrMany), ("copse/api.ErrShort", laid_copse_api_ErrShort), ("copse/api.ErrTwice", laid_copse_api_ErrTwice), ("copse/api.ErrLost", laid_copse_api_ErrLost), ("copse/api.ErrFull", laid_copse_api_ErrFull), ("copse/api.ErrDead", laid_copse_api_ErrDead), ("copse/api.ErrCorrupt", laid_copse_api_ErrCorrupt), ("copse/api.ErrStatus", laid_copse_api_ErrStatus), ("copse/api.ErrTxid", laid_copse_api_ErrTxid), ("copse/api.ErrOrder", laid_copse_api_ErrOrder), ("copse/api.ErrKind", laid_copse_api_ErrKind)], narrowed := true }
def LeafDecodesUptoSaid : Prop := leafDecodesUptoRow.holds Tryd.pinned (OpenSpec.upto leafDecodesSpec)

/-- 'copselaw7.LeafBack', WHERE WHAT IT READS IS OF BULK AT MOST 1048576: true; the input reads as it did. -/
def leafBackUptoRow : OpenClaim := { program := "ytdailhlghlledaadoor", sum := "7f85cf09ee8db79e68c1401245fc127601e91e3ebf7b72e7932b6d8f33900e10", func := "copse/copselaw7.LeafBack", spec := "leafBack", named := ["copse/api.ErrArg", "copse/api.ErrOrder", "copse/api.ErrMany", "copse/api.ErrShort", "copse/api.ErrText", "copse/api.ErrTwice", "copse/api.ErrLost", "copse/api.ErrFull", "copse/api.ErrDead", "copse/api.ErrCorrupt", "copse/api.ErrStatus", "copse/api.ErrTxid", "copse/api.ErrKind"], apart := false, laid := [("copse/api.ErrArg", laid_copse_api_ErrArg), ("copse/api.ErrText", laid_copse_api_ErrText), ("copse/api.ErrMany", laid_copse_api_ErrMany), ("copse/api.ErrShort", laid_copse_api_ErrShort), ("copse/api.ErrTwice", laid_copse_api_ErrTwice), ("copse/api.ErrLost", laid_copse_api_ErrLost), ("copse/api.ErrFull", laid_copse_api_ErrFull), ("copse/api.ErrDead", laid_copse_api_ErrDead), ("copse/api.ErrCorrupt", laid_copse_api_ErrCorrupt), ("copse/api.ErrStatus", laid_copse_api_ErrStatus), ("copse/api.ErrTxid", laid_copse_api_ErrTxid), ("copse/api.ErrOrder", laid_copse_api_ErrOrder), ("copse/api.ErrKind", laid_copse_api_ErrKind)], narrowed := true }
def LeafBackUptoSaid : Prop := leafBackUptoRow.holds Tryd.pinned (OpenSpec.upto leafBackSpec)

/-- 'copselaw7.LeafKeeps', WHERE WHAT IT READS IS OF BULK AT MOST 1048576: true; the input reads as it did. -/
def leafKeepsUptoRow : OpenClaim := { program := "ytdailhlghlledaadoor", sum := "7f85cf09ee8db79e68c1401245fc127601e91e3ebf7b72e7932b6d8f33900e10", func := "copse/copselaw7.LeafKeeps", spec := "leafKeeps", unfollowed := true, recurses := true, named := ["copse/api.ErrArg", "copse/api.ErrOrder", "copse/api.ErrMany", "copse/api.ErrShort", "copse/api.ErrText"], apart := false, laid := [("copse/api.ErrArg", laid_copse_api_ErrArg), ("copse/api.ErrText", laid_copse_api_ErrText), ("copse/api.ErrMany", laid_copse_api_ErrMany), ("copse/api.ErrShort", laid_copse_api_ErrShort), ("copse/api.ErrOrder", laid_copse_api_ErrOrder)], narrowed := true }
def LeafKeepsUptoSaid : Prop := leafKeepsUptoRow.holds Tryd.pinned (OpenSpec.upto leafKeepsSpec)

/-- 'copselaw7.LeafHalves', WHERE WHAT IT READS IS OF BULK AT MOST 1048576: true; the input reads as it did. -/
def leafHalvesUptoRow : OpenClaim := { program := "ytdailhlghlledaadoor", sum := "7f85cf09ee8db79e68c1401245fc127601e91e3ebf7b72e7932b6d8f33900e10", func := "copse/copselaw7.LeafHalves", spec := "leafHalves", unfollowed := true, recurses := true, named := ["copse/api.ErrArg", "copse/api.ErrOrder", "copse/api.ErrMany", "copse/api.ErrShort", "copse/api.ErrText"], apart := false, laid := [("copse/api.ErrArg", laid_copse_api_ErrArg), ("copse/api.ErrText", laid_copse_api_ErrText), ("copse/api.ErrMany", laid_copse_api_ErrMany), ("copse/api.ErrShort", laid_copse_api_ErrShort), ("copse/api.ErrOrder", laid_copse_api_ErrOrder)], narrowed := true }
def LeafHalvesUptoSaid : Prop := leafHalvesUptoRow.holds Tryd.pinned (OpenSpec.upto leafHalvesSpec)

/-- 'copselaw7.LeafNew', WHERE WHAT IT READS IS OF BULK AT MOST 1048576: true; the input reads as it did. -/
def leafNewUptoRow : OpenClaim := { program := "ytdailhlghlledaadoor", sum := "7f85cf09ee8db79e68c1401245fc127601e91e3ebf7b72e7932b6d8f33900e10", func := "copse/copselaw7.LeafNew", spec := "leafNew", unfollowed := true, recurses := true, named := ["copse/api.ErrArg", "copse/api.ErrOrder", "copse/api.ErrMany", "copse/api.ErrShort", "copse/api.ErrText", "copse/api.ErrTwice", "copse/api.ErrLost", "copse/api.ErrFull", "copse/api.ErrDead", "copse/api.ErrCorrupt", "copse/api.ErrStatus", "copse/api.ErrTxid", "copse/api.ErrKind"], apart := false, laid := [("copse/api.ErrArg", laid_copse_api_ErrArg), ("copse/api.ErrText", laid_copse_api_ErrText), ("copse/api.ErrMany", laid_copse_api_ErrMany), ("copse/api.ErrShort", laid_copse_api_ErrShort), ("copse/api.ErrTwice", laid_copse_api_ErrTwice), ("copse/api.ErrLost", laid_copse_api_ErrLost), ("copse/api.ErrFull", laid_copse_api_ErrFull), ("copse/api.ErrDead", laid_copse_api_ErrDead), ("copse/api.ErrCorrupt", laid_copse_api_ErrCorrupt), ("copse/api.ErrStatus", laid_copse_api_ErrStatus), ("copse/api.ErrTxid", laid_copse_api_ErrTxid), ("copse/api.ErrOrder", laid_copse_api_ErrOrder), ("copse/api.ErrKind", laid_copse_api_ErrKind)], narrowed := true }
def LeafNewUptoSaid : Prop := leafNewUptoRow.holds Tryd.pinned (OpenSpec.upto leafNewSpec)

end Rows
end Go.Proofs.YtdailhlghlledaaDoor
