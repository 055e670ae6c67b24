/-
  NARROWER THAN 'FOR EVERY INPUT', by the rows' own cells (each row's printed sentence says how): CellsLays: laid · CellsReads: laid · CellsCuts: laid · CellsBack: laid · CellsAgain: laid · CellsSpot: laid · CellsEven: laid.
  DERIVED. THE GIVEN ROWS OF THIS SEAT. 7 by the template 'for every input the law returns true; each argument reads behind the call as it read before'; 0 by the template 'total and deterministic' (their statements: YtmjdkddpfcfepaaDoorTotals.lean).
  GIVEN WITH THE SEED: the statements are not yours to turn. If you find one false, say at which input.
  Laid BY PROGRAM, IN A SANDBOX (cutbox-rows.mjs): the forced cells as the released guide's own fill.sh prints them over the translation f8bbedb4f1a76897… (all of the seat's roots in one cut). By AI agents, Wed Nov 11 2026. No macro, syntax, notation, axiom, sorry.
-/
import Derived.Test.YtmjdkddpfcfepaaDoorChecked
import GoSem.Claim
import GoSem.ClaimJoined
import GoSem.ClaimMapViews
import Derived.JoinedTies
import Derived.KernelRfl
namespace Go.Proofs.YtmjdkddpfcfepaaDoor
/- THE CELL 'sum', in the pinned program and in every row, IS THE sha256 OF THE DUMP (.gsa) THAT YtmjdkddpfcfepaaDoorProg.lean LOADS. Nothing in Lean hashes anything: it is a label: what it is worth is what the hold of that sum in a sandbox is worth. -/
noncomputable def Tryd.pinned : Pinned := { name := "ytmjdkddpfcfepaadoor", sum := "f8bbedb4f1a76897f361d31ba9b7e1434949e3e2501534ca11c98582e9de1ba6", checked := Tryd.checked }
namespace Rows
def none {H : Type} : Left H := { results := [], args := [] }

/- WHAT THE LISTED PACKAGE-LEVEL VARIABLES READ AS WHEN THE CALL BEGINS. Each datum BY PROGRAM (the guide's laid-datum.mjs) off the statement by which the dump's own 'gosem.cut.vars' lays the variable. In a bare row this is a premise. The card (YtmjdkddpfcfepaaDoorCards.lean) ties it to the program's text. -/
def laid_copse_api_ErrArg {H : Type} : DataW H := .iface "*errors.errorString" (.ptr (.agg [.lit (.string [97, 32, 110, 117, 109, 98, 101, 114, 32, 111, 114, 32, 97, 110, 32, 97, 114, 103, 117, 109, 101, 110, 116, 32, 105, 115, 32, 111, 117, 116, 32, 111, 102, 32, 105, 116, 115, 32, 112, 108, 97, 99, 101])]))
def laid_copse_api_ErrText {H : Type} : DataW H := .iface "*errors.errorString" (.ptr (.agg [.lit (.string [97, 32, 116, 101, 120, 116, 32, 111, 114, 32, 98, 121, 116, 101, 115, 32, 116, 104, 97, 116, 32, 99, 97, 110, 110, 111, 116, 32, 98, 101, 32, 114, 101, 97, 100])]))
def laid_copse_api_ErrMany {H : Type} : DataW H := .iface "*errors.errorString" (.ptr (.agg [.lit (.string [97, 98, 111, 118, 101, 32, 97, 32, 108, 105, 109, 105, 116])]))
def laid_copse_api_ErrShort {H : Type} : DataW H := .iface "*errors.errorString" (.ptr (.agg [.lit (.string [115, 111, 109, 101, 116, 104, 105, 110, 103, 32, 105, 115, 32, 109, 105, 115, 115, 105, 110, 103])]))
def laid_copse_api_ErrTwice {H : Type} : DataW H := .iface "*errors.errorString" (.ptr (.agg [.lit (.string [116, 104, 101, 114, 101, 32, 116, 119, 105, 99, 101])]))
def laid_copse_api_ErrLost {H : Type} : DataW H := .iface "*errors.errorString" (.ptr (.agg [.lit (.string [110, 111, 116, 32, 116, 104, 101, 114, 101])]))
def laid_copse_api_ErrFull {H : Type} : DataW H := .iface "*errors.errorString" (.ptr (.agg [.lit (.string [110, 111, 32, 114, 111, 111, 109, 32, 111, 110, 32, 116, 104, 101, 32, 100, 101, 118, 105, 99, 101])]))
def laid_copse_api_ErrDead {H : Type} : DataW H := .iface "*errors.errorString" (.ptr (.agg [.lit (.string [116, 104, 101, 32, 112, 111, 119, 101, 114, 32, 104, 97, 115, 32, 102, 97, 105, 108, 101, 100])]))
def laid_copse_api_ErrCorrupt {H : Type} : DataW H := .iface "*errors.errorString" (.ptr (.agg [.lit (.string [110, 111, 116, 32, 97, 32, 115, 116, 111, 114, 101])]))
def laid_copse_api_ErrStatus {H : Type} : DataW H := .iface "*errors.errorString" (.ptr (.agg [.lit (.string [110, 111, 116, 32, 110, 111, 119])]))
def laid_copse_api_ErrTxid {H : Type} : DataW H := .iface "*errors.errorString" (.ptr (.agg [.lit (.string [110, 111, 32, 102, 117, 114, 116, 104, 101, 114, 32, 116, 114, 97, 110, 115, 97, 99, 116, 105, 111, 110, 32, 104, 97, 115, 32, 97, 32, 110, 117, 109, 98, 101, 114])]))
def laid_copse_api_ErrOrder {H : Type} : DataW H := .iface "*errors.errorString" (.ptr (.agg [.lit (.string [110, 111, 116, 32, 105, 110, 32, 111, 114, 100, 101, 114])]))
def laid_copse_api_ErrKind {H : Type} : DataW H := .iface "*errors.errorString" (.ptr (.agg [.lit (.string [111, 102, 32, 97, 110, 111, 116, 104, 101, 114, 32, 107, 105, 110, 100])]))

/-- 'copselaw6.CellsLays': WHATEVER THE INPUT: true; the input reads as it did. -/
def cellsLaysSpec : ChangeSpec := { name := "cellsLays", fn := fun _ => fun
  | [d] => { results := [.lit (.bool true)], args := [d] }
  | _ => none }
def cellsLaysRow : OpenClaim := { program := "ytmjdkddpfcfepaadoor", sum := "f8bbedb4f1a76897f361d31ba9b7e1434949e3e2501534ca11c98582e9de1ba6", func := "copse/copselaw6.CellsLays", spec := "cellsLays", named := ["copse/api.ErrMany", "copse/api.ErrArg", "copse/api.ErrText", "copse/api.ErrShort", "copse/api.ErrTwice", "copse/api.ErrLost", "copse/api.ErrFull", "copse/api.ErrDead", "copse/api.ErrCorrupt", "copse/api.ErrStatus", "copse/api.ErrTxid", "copse/api.ErrOrder", "copse/api.ErrKind"], apart := false, laid := [("copse/api.ErrArg", laid_copse_api_ErrArg), ("copse/api.ErrText", laid_copse_api_ErrText), ("copse/api.ErrMany", laid_copse_api_ErrMany), ("copse/api.ErrShort", laid_copse_api_ErrShort), ("copse/api.ErrTwice", laid_copse_api_ErrTwice), ("copse/api.ErrLost", laid_copse_api_ErrLost), ("copse/api.ErrFull", laid_copse_api_ErrFull), ("copse/api.ErrDead", laid_copse_api_ErrDead), ("copse/api.ErrCorrupt", laid_copse_api_ErrCorrupt), ("copse/api.ErrStatus", laid_copse_api_ErrStatus), ("copse/api.ErrTxid", laid_copse_api_ErrTxid), ("copse/api.ErrOrder", laid_copse_api_ErrOrder), ("copse/api.ErrKind", laid_copse_api_ErrKind)] }
def CellsLaysSaid : Prop := cellsLaysRow.holds Tryd.pinned (OpenSpec.ofChange cellsLaysSpec)

/-- ITS FALSE NEIGHBOUR: 'it returns false'. Refute it at one input. -/
def cellsLaysWrong : ChangeSpec := { name := "cellsLays", fn := fun _ => fun
  | [d] => { results := [.lit (.bool false)], args := [d] }
  | _ => none }
def CellsLaysWrongFalsely : Prop := cellsLaysRow.holds Tryd.pinned (OpenSpec.ofChange cellsLaysWrong)

/-- 'copselaw6.CellsReads': WHATEVER THE INPUT: true; the input reads as it did. -/
def cellsReadsSpec : ChangeSpec := { name := "cellsReads", fn := fun _ => fun
  | [d] => { results := [.lit (.bool true)], args := [d] }
  | _ => none }
def cellsReadsRow : OpenClaim := { program := "ytmjdkddpfcfepaadoor", sum := "f8bbedb4f1a76897f361d31ba9b7e1434949e3e2501534ca11c98582e9de1ba6", func := "copse/copselaw6.CellsReads", spec := "cellsReads", named := ["copse/api.ErrText", "copse/api.ErrArg", "copse/api.ErrMany", "copse/api.ErrShort", "copse/api.ErrTwice", "copse/api.ErrLost", "copse/api.ErrFull", "copse/api.ErrDead", "copse/api.ErrCorrupt", "copse/api.ErrStatus", "copse/api.ErrTxid", "copse/api.ErrOrder", "copse/api.ErrKind"], apart := false, laid := [("copse/api.ErrArg", laid_copse_api_ErrArg), ("copse/api.ErrText", laid_copse_api_ErrText), ("copse/api.ErrMany", laid_copse_api_ErrMany), ("copse/api.ErrShort", laid_copse_api_ErrShort), ("copse/api.ErrTwice", laid_copse_api_ErrTwice), ("copse/api.ErrLost", laid_copse_api_ErrLost), ("copse/api.ErrFull", laid_copse_api_ErrFull), ("copse/api.ErrDead", laid_copse_api_ErrDead), ("copse/api.ErrCorrupt", laid_copse_api_ErrCorrupt), ("copse/api.ErrStatus", laid_copse_api_ErrStatus), ("copse/api.ErrTxid", laid_copse_api_ErrTxid), ("copse/api.ErrOrder", laid_copse_api_ErrOrder), ("copse/api.ErrKind", laid_copse_api_ErrKind)] }
def CellsReadsSaid : Prop := cellsReadsRow.holds Tryd.pinned (OpenSpec.ofChange cellsReadsSpec)

/-- ITS FALSE NEIGHBOUR: 'it returns false'. Refute it at one input. -/
def cellsReadsWrong : ChangeSpec := { name := "cellsReads", fn := fun _ => fun
  | [d] => { results := [.lit (.bool false)], args := [d] }
  | _ => none }
def CellsReadsWrongFalsely : Prop := cellsReadsRow.holds Tryd.pinned (OpenSpec.ofChange cellsReadsWrong)

/-- 'copselaw6.CellsCuts': WHATEVER THE INPUT: true; the input reads as it did. -/
def cellsCutsSpec : ChangeSpec := { name := "cellsCuts", fn := fun _ => fun
  | [d] => { results := [.lit (.bool true)], args := [d] }
  | _ => none }
def cellsCutsRow : OpenClaim := { program := "ytmjdkddpfcfepaadoor", sum := "f8bbedb4f1a76897f361d31ba9b7e1434949e3e2501534ca11c98582e9de1ba6", func := "copse/copselaw6.CellsCuts", spec := "cellsCuts", unfollowed := true, recurses := true, named := ["copse/api.ErrShort", "copse/api.ErrArg", "copse/api.ErrText", "copse/api.ErrMany", "copse/api.ErrTwice", "copse/api.ErrLost", "copse/api.ErrFull", "copse/api.ErrDead", "copse/api.ErrCorrupt", "copse/api.ErrStatus", "copse/api.ErrTxid", "copse/api.ErrOrder", "copse/api.ErrKind"], apart := false, laid := [("copse/api.ErrArg", laid_copse_api_ErrArg), ("copse/api.ErrText", laid_copse_api_ErrText), ("copse/api.ErrMany", laid_copse_api_ErrMany), ("copse/api.ErrShort", laid_copse_api_ErrShort), ("copse/api.ErrTwice", laid_copse_api_ErrTwice), ("copse/api.ErrLost", laid_copse_api_ErrLost), ("copse/api.ErrFull", laid_copse_api_ErrFull), ("copse/api.ErrDead", laid_copse_api_ErrDead), ("copse/api.ErrCorrupt", laid_copse_api_ErrCorrupt), ("copse/api.ErrStatus", laid_copse_api_ErrStatus), ("copse/api.ErrTxid", laid_copse_api_ErrTxid), ("copse/api.ErrOrder", laid_copse_api_ErrOrder), ("copse/api.ErrKind", laid_copse_api_ErrKind)] }
def CellsCutsSaid : Prop := cellsCutsRow.holds Tryd.pinned (OpenSpec.ofChange cellsCutsSpec)

/-- ITS FALSE NEIGHBOUR: 'it returns false'. Refute it at one input. -/
def cellsCutsWrong : ChangeSpec := { name := "cellsCuts", fn := fun _ => fun
  | [d] => { results := [.lit (.bool false)], args := [d] }
  | _ => none }
def CellsCutsWrongFalsely : Prop := cellsCutsRow.holds Tryd.pinned (OpenSpec.ofChange cellsCutsWrong)

/-- 'copselaw6.CellsBack': WHATEVER THE INPUT: true; the input reads as it did. -/
def cellsBackSpec : ChangeSpec := { name := "cellsBack", fn := fun _ => fun
  | [d] => { results := [.lit (.bool true)], args := [d] }
  | _ => none }
def cellsBackRow : OpenClaim := { program := "ytmjdkddpfcfepaadoor", sum := "f8bbedb4f1a76897f361d31ba9b7e1434949e3e2501534ca11c98582e9de1ba6", func := "copse/copselaw6.CellsBack", spec := "cellsBack", unfollowed := true, recurses := true, named := ["copse/api.ErrMany", "copse/api.ErrText", "copse/api.ErrShort", "copse/api.ErrArg"], apart := false, laid := [("copse/api.ErrArg", laid_copse_api_ErrArg), ("copse/api.ErrText", laid_copse_api_ErrText), ("copse/api.ErrMany", laid_copse_api_ErrMany), ("copse/api.ErrShort", laid_copse_api_ErrShort)] }
def CellsBackSaid : Prop := cellsBackRow.holds Tryd.pinned (OpenSpec.ofChange cellsBackSpec)

/-- ITS FALSE NEIGHBOUR: 'it returns false'. Refute it at one input. -/
def cellsBackWrong : ChangeSpec := { name := "cellsBack", fn := fun _ => fun
  | [d] => { results := [.lit (.bool false)], args := [d] }
  | _ => none }
def CellsBackWrongFalsely : Prop := cellsBackRow.holds Tryd.pinned (OpenSpec.ofChange cellsBackWrong)

/-- 'copselaw6.CellsAgain': WHATEVER THE INPUT: true; the input reads as it did. -/
def cellsAgainSpec : ChangeSpec := { name := "cellsAgain", fn := fun _ => fun
  | [d] => { results := [.lit (.bool true)], args := [d] }
  | _ => none }
def cellsAgainRow : OpenClaim := { program := "ytmjdkddpfcfepaadoor", sum := "f8bbedb4f1a76897f361d31ba9b7e1434949e3e2501534ca11c98582e9de1ba6", func := "copse/copselaw6.CellsAgain", spec := "cellsAgain", unfollowed := true, recurses := true, named := ["copse/api.ErrText", "copse/api.ErrMany", "copse/api.ErrShort", "copse/api.ErrArg"], apart := false, laid := [("copse/api.ErrArg", laid_copse_api_ErrArg), ("copse/api.ErrText", laid_copse_api_ErrText), ("copse/api.ErrMany", laid_copse_api_ErrMany), ("copse/api.ErrShort", laid_copse_api_ErrShort)] }
def CellsAgainSaid : Prop := cellsAgainRow.holds Tryd.pinned (OpenSpec.ofChange cellsAgainSpec)

/-- ITS FALSE NEIGHBOUR: 'it returns false'. Refute it at one input. -/
def cellsAgainWrong : ChangeSpec := { name := "cellsAgain", fn := fun _ => fun
  | [d] => { results := [.lit (.bool false)], args := [d] }
  | _ => none }
def CellsAgainWrongFalsely : Prop := cellsAgainRow.holds Tryd.pinned (OpenSpec.ofChange cellsAgainWrong)

/-- 'copselaw6.CellsSpot': WHATEVER THE INPUT: true; the input reads as it did. -/
def cellsSpotSpec : ChangeSpec := { name := "cellsSpot", fn := fun _ => fun
  | [d] => { results := [.lit (.bool true)], args := [d] }
  | _ => none }
def cellsSpotRow : OpenClaim := { program := "ytmjdkddpfcfepaadoor", sum := "f8bbedb4f1a76897f361d31ba9b7e1434949e3e2501534ca11c98582e9de1ba6", func := "copse/copselaw6.CellsSpot", spec := "cellsSpot", unfollowed := true, recurses := true, named := ["copse/api.ErrText", "copse/api.ErrMany", "copse/api.ErrShort", "copse/api.ErrArg"], apart := false, laid := [("copse/api.ErrArg", laid_copse_api_ErrArg), ("copse/api.ErrText", laid_copse_api_ErrText), ("copse/api.ErrMany", laid_copse_api_ErrMany), ("copse/api.ErrShort", laid_copse_api_ErrShort)] }
def CellsSpotSaid : Prop := cellsSpotRow.holds Tryd.pinned (OpenSpec.ofChange cellsSpotSpec)

/-- ITS FALSE NEIGHBOUR: 'it returns false'. Refute it at one input. -/
def cellsSpotWrong : ChangeSpec := { name := "cellsSpot", fn := fun _ => fun
  | [d] => { results := [.lit (.bool false)], args := [d] }
  | _ => none }
def CellsSpotWrongFalsely : Prop := cellsSpotRow.holds Tryd.pinned (OpenSpec.ofChange cellsSpotWrong)

/-- 'copselaw6.CellsEven': WHATEVER THE INPUT: true; the input reads as it did. -/
def cellsEvenSpec : ChangeSpec := { name := "cellsEven", fn := fun _ => fun
  | [d] => { results := [.lit (.bool true)], args := [d] }
  | _ => none }
def cellsEvenRow : OpenClaim := { program := "ytmjdkddpfcfepaadoor", sum := "f8bbedb4f1a76897f361d31ba9b7e1434949e3e2501534ca11c98582e9de1ba6", func := "copse/copselaw6.CellsEven", spec := "cellsEven", unfollowed := true, recurses := true, named := ["copse/api.ErrMany", "copse/api.ErrText", "copse/api.ErrShort", "copse/api.ErrArg"], apart := false, laid := [("copse/api.ErrArg", laid_copse_api_ErrArg), ("copse/api.ErrText", laid_copse_api_ErrText), ("copse/api.ErrMany", laid_copse_api_ErrMany), ("copse/api.ErrShort", laid_copse_api_ErrShort)] }
def CellsEvenSaid : Prop := cellsEvenRow.holds Tryd.pinned (OpenSpec.ofChange cellsEvenSpec)

/-- ITS FALSE NEIGHBOUR: 'it returns false'. Refute it at one input. -/
def cellsEvenWrong : ChangeSpec := { name := "cellsEven", fn := fun _ => fun
  | [d] => { results := [.lit (.bool false)], args := [d] }
  | _ => none }
def CellsEvenWrongFalsely : Prop := cellsEvenRow.holds Tryd.pinned (OpenSpec.ofChange cellsEvenWrong)

/- THE SECOND FORM. 'bulk': how many values and letters a reading holds, each counted each time it is reached (what is shared counts as often as it is met; a slice's spare places count too). A statement '..UptoSaid' is the law's where the arguments, and the package variables that the reading takes, are together of bulk at most 1048576: NARROWER than '..Said'. Prove '..Said' where nothing that the law and all that it calls make is longer than what came in: it says more and counts as full. Else prove '..UptoSaid'. A law counts once. -/
mutual
def uptoBulk {H : Type} : DataW H → Nat
  | .lit (.string bytes) => bytes.length + 1
  | .lit _ => 1
  | .nil => 1
  | .ptr d => uptoBulk d + 1
  | .slice elems spare => uptoBulkAll elems + uptoBulkAll spare + 1
  | .agg parts => uptoBulkAll parts + 1
  | .iface _ d => uptoBulk d + 1
  | .map entries => uptoBulkEntries entries + 1
  | .held _ => 1
def uptoBulkAll {H : Type} : List (DataW H) → Nat
  | [] => 0
  | d :: r => uptoBulk d + uptoBulkAll r
def uptoBulkEntries {H : Type} : List (Lit × DataW H) → Nat
  | [] => 0
  | x :: r => uptoBulkEntry x + uptoBulkEntries r
def uptoBulkEntry {H : Type} : Lit × DataW H → Nat
  | (.string bytes, d) => bytes.length + uptoBulk d + 1
  | (_, d) => uptoBulk d + 1
 end
def uptoSmall : (H : Type) → List (DataW H) → Bool := fun _ ds => decide (uptoBulkAll ds ≤ 1048576)
def OpenSpec.upto (s : _root_.Go.ChangeSpec) : _root_.Go.OpenSpec := { _root_.Go.OpenSpec.ofChange s with cond := some uptoSmall }

/-- 'copselaw6.CellsLays', WHERE WHAT IT READS IS OF BULK AT MOST 1048576: true; the input reads as it did. -/
def cellsLaysUptoRow : OpenClaim := { program := "ytmjdkddpfcfepaadoor", sum := "f8bbedb4f1a76897f361d31ba9b7e1434949e3e2501534ca11c98582e9de1ba6", func := "copse/copselaw6.CellsLays", spec := "cellsLays", named := ["copse/api.ErrMany", "copse/api.ErrArg", "copse/api.ErrText", "copse/api.ErrShort", "copse/api.ErrTwice", "copse/api.ErrLost", "copse/api.ErrFull", "copse/api.ErrDead", "copse/api.ErrCorrupt", "copse/api.ErrStatus", "copse/api.ErrTxid", "copse/api.ErrOrder", "copse/api.ErrKind"], apart := false, laid := [("copse/api.ErrArg", laid_copse_api_ErrArg), ("copse/api.ErrText", laid_copse_api_ErrText), ("copse/api.ErrMany", laid_copse_api_ErrMany), ("copse/api.ErrShort", laid_copse_api_ErrShort), ("copse/api.ErrTwice", laid_copse_api_ErrTwice), ("copse/api.ErrLost", laid_copse_api_ErrLost), ("copse/api.ErrFull", laid_copse_api_ErrFull), ("copse/api.ErrDead", laid_copse_api_ErrDead), ("copse/api.ErrCorrupt", laid_copse_api_ErrCorrupt), ("copse/api.ErrStatus", laid_copse_api_ErrStatus), ("copse/api.ErrTxid", laid_copse_api_ErrTxid), ("copse/api.ErrOrder", laid_copse_api_ErrOrder), ("copse/api.ErrKind", laid_copse_api_ErrKind)], narrowed := true }
def CellsLaysUptoSaid : Prop := cellsLaysUptoRow.holds Tryd.pinned (OpenSpec.upto cellsLaysSpec)

/-- 'copselaw6.CellsReads', WHERE WHAT IT READS IS OF BULK AT MOST 1048576: true; the input reads as it did. -/
def cellsReadsUptoRow : OpenClaim := { program := "ytmjdkddpfcfepaadoor", sum := "f8bbedb4f1a76897f361d31ba9b7e1434949e3e2501534ca11c98582e9de1ba6", func := "copse/copselaw6.CellsReads", spec := "cellsReads", named := ["copse/api.ErrText", "copse/api.ErrArg", "copse/api.ErrMany", "copse/api.ErrShort", "copse/api.ErrTwice", "copse/api.ErrLost", "copse/api.ErrFull", "copse/api.ErrDead", "copse/api.ErrCorrupt", "copse/api.ErrStatus", "copse/api.ErrTxid", "copse/api.ErrOrder", "copse/api.ErrKind"], apart := false, laid := [("copse/api.ErrArg", laid_copse_api_ErrArg), ("copse/api.ErrText", laid_copse_api_ErrText), ("copse/api.ErrMany", laid_copse_api_ErrMany), ("copse/api.ErrShort", laid_copse_api_ErrShort), ("copse/api.ErrTwice", laid_copse_api_ErrTwice), ("copse/api.ErrLost", laid_copse_api_ErrLost), ("copse/api.ErrFull", laid_copse_api_ErrFull), ("copse/api.ErrDead", laid_copse_api_ErrDead), ("copse/api.ErrCorrupt", laid_copse_api_ErrCorrupt), ("copse/api.ErrStatus", laid_copse_api_ErrStatus), ("copse/api.ErrTxid", laid_copse_api_ErrTxid), ("copse/api.ErrOrder", laid_copse_api_ErrOrder), ("copse/api.ErrKind", laid_copse_api_ErrKind)], narrowed := true }
def CellsReadsUptoSaid : Prop := cellsReadsUptoRow.holds Tryd.pinned (OpenSpec.upto cellsReadsSpec)

/-- 'copselaw6.CellsCuts', WHERE WHAT IT READS IS OF BULK AT MOST 1048576: true; the input reads as it did. -/
def cellsCutsUptoRow : OpenClaim := { program := "ytmjdkddpfcfepaadoor", sum := "f8bbedb4f1a76897f361d31ba9b7e1434949e3e2501534ca11c98582e9de1ba6", func := "copse/copselaw6.CellsCuts", spec := "cellsCuts", unfollowed := true, recurses := true, named := ["copse/api.ErrShort", "copse/api.ErrArg", "copse/api.ErrText", "copse/api.ErrMany", "copse/api.ErrTwice", "copse/api.ErrLost", "copse/api.ErrFull", "copse/api.ErrDead", "copse/api.ErrCorrupt", "copse/api.ErrStatus", "copse/api.ErrTxid", "copse/api.ErrOrder", "copse/api.ErrKind"], apart := false, laid := [("copse/api.ErrArg", laid_copse_api_ErrArg), ("copse/api.ErrText", laid_copse_api_ErrText), ("copse/api.ErrMany", laid_copse_api_ErrMany), ("copse/api.ErrShort", laid_copse_api_ErrShort), ("copse/api.ErrTwice", laid_copse_api_ErrTwice), ("copse/api.ErrLost", laid_copse_api_ErrLost), ("copse/api.ErrFull", laid_copse_api_ErrFull), ("copse/api.ErrDead", laid_copse_api_ErrDead), ("copse/api.ErrCorrupt", laid_copse_api_ErrCorrupt), ("copse/api.ErrStatus", laid_copse_api_ErrStatus), ("copse/api.ErrTxid", laid_copse_api_ErrTxid), ("copse/api.ErrOrder", laid_copse_api_ErrOrder), ("copse/api.ErrKind", laid_copse_api_ErrKind)], narrowed := true }
def CellsCutsUptoSaid : Prop := cellsCutsUptoRow.holds Tryd.pinned (OpenSpec.upto cellsCutsSpec)

/-- 'copselaw6.CellsBack', WHERE WHAT IT READS IS OF BULK AT MOST 1048576: true; the input reads as it did. -/
def cellsBackUptoRow : OpenClaim := { program := "ytmjdkddpfcfepaadoor", sum := "f8bbedb4f1a76897f361d31ba9b7e1434949e3e2501534ca11c98582e9de1ba6", func := "copse/copselaw6.CellsBack", spec := "cellsBack", unfollowed := true, recurses := true, named := ["copse/api.ErrMany", "copse/api.ErrText", "copse/api.ErrShort", "copse/api.ErrArg"], apart := false, laid := [("copse/api.ErrArg", laid_copse_api_ErrArg), ("copse/api.ErrText", laid_copse_api_ErrText), ("copse/api.ErrMany", laid_copse_api_ErrMany), ("copse/api.ErrShort", laid_copse_api_ErrShort)], narrowed := true }
def CellsBackUptoSaid : Prop := cellsBackUptoRow.holds Tryd.pinned (OpenSpec.upto cellsBackSpec)

/-- 'copselaw6.CellsAgain', WHERE WHAT IT READS IS OF BULK AT MOST 1048576: true; the input reads as it did. -/
def cellsAgainUptoRow : OpenClaim := { program := "ytmjdkddpfcfepaadoor", sum := "f8bbedb4f1a76897f361d31ba9b7e1434949e3e2501534ca11c98582e9de1ba6", func := "copse/copselaw6.CellsAgain", spec := "cellsAgain", unfollowed := true, recurses := true, named := ["copse/api.ErrText", "copse/api.ErrMany", "copse/api.ErrShort", "copse/api.ErrArg"], apart := false, laid := [("copse/api.ErrArg", laid_copse_api_ErrArg), ("copse/api.ErrText", laid_copse_api_ErrText), ("copse/api.ErrMany", laid_copse_api_ErrMany), ("copse/api.ErrShort", laid_copse_api_ErrShort)], narrowed := true }
def CellsAgainUptoSaid : Prop := cellsAgainUptoRow.holds Tryd.pinned (OpenSpec.upto cellsAgainSpec)

/-- 'copselaw6.CellsSpot', WHERE WHAT IT READS IS OF BULK AT MOST 1048576: true; the input reads as it did. -/
def cellsSpotUptoRow : OpenClaim := { program := "ytmjdkddpfcfepaadoor", sum := "f8bbedb4f1a76897f361d31ba9b7e1434949e3e2501534ca11c98582e9de1ba6", func := "copse/copselaw6.CellsSpot", spec := "cellsSpot", unfollowed := true, recurses := true, named := ["copse/api.ErrText", "copse/api.ErrMany", "copse/api.ErrShort", "copse/api.ErrArg"], apart := false, laid := [("copse/api.ErrArg", laid_copse_api_ErrArg), ("copse/api.ErrText", laid_copse_api_ErrText), ("copse/api.ErrMany", laid_copse_api_ErrMany), ("copse/api.ErrShort", laid_copse_api_ErrShort)], narrowed := true }
def CellsSpotUptoSaid : Prop := cellsSpotUptoRow.holds Tryd.pinned (OpenSpec.upto cellsSpotSpec)

/-- 'copselaw6.CellsEven', WHERE WHAT IT READS IS OF BULK AT MOST 1048576: true; the input reads as it did. -/
def cellsEvenUptoRow : OpenClaim := { program := "ytmjdkddpfcfepaadoor", sum := "f8bbedb4f1a76897f361d31ba9b7e1434949e3e2501534ca11c98582e9de1ba6", func := "copse/copselaw6.CellsEven", spec := "cellsEven", unfollowed := true, recurses := true, named := ["copse/api.ErrMany", "copse/api.ErrText", "copse/api.ErrShort", "copse/api.ErrArg"], apart := false, laid := [("copse/api.ErrArg", laid_copse_api_ErrArg), ("copse/api.ErrText", laid_copse_api_ErrText), ("copse/api.ErrMany", laid_copse_api_ErrMany), ("copse/api.ErrShort", laid_copse_api_ErrShort)], narrowed := true }
def CellsEvenUptoSaid : Prop := cellsEvenUptoRow.holds Tryd.pinned (OpenSpec.upto cellsEvenSpec)

end Rows
end Go.Proofs.YtmjdkddpfcfepaaDoor
