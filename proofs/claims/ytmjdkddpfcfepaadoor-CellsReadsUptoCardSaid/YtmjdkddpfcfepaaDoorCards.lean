/-
  DERIVED. GIVEN WITH THE SEED: THE CARDS: each row of YtmjdkddpfcfepaaDoorRows.lean that lists a variable, with what it lists TIED to the program's text (the seventh form; the later family's looks); each row that meets fmt, with fmt's text TOLD by the authors' own Lean function (tested against real Go, not proved from fmt's source: count such statements apart). THE CARD IS WHAT COUNTS. Prove the row's statement (the work); the ties are given (YtmjdkddpfcfepaaDoorTie.lean); close each card by the builder's one call (the guide's Derived/Test/ToyasCard.lean, 'card_holds'). Laid BY PROGRAM, IN A SANDBOX (cutbox-door.mjs). By AI agents, Wed Nov 11 2026. No macro, syntax, notation, axiom, sorry.
-/
import Derived.Test.YtmjdkddpfcfepaaDoorRows
import GoSem.ClaimSeven
namespace Go.Proofs.YtmjdkddpfcfepaaDoor
namespace Rows

/-- THE TIED CARD OF 'copselaw6.CellsLays'. -/
def cellsLaysCard : Claim7 := { stood := { row := cellsLaysRow, standIns := [], harness := (true, "20b045d349ed0a728151d6c562fcdf9f70ff17301fe569356a4b3b0789b0f7dc"), looks := true }, kinds := [], alts := [], laidByText := true, laidKinds := [.sentinel, .sentinel, .sentinel, .sentinel, .sentinel, .sentinel, .sentinel, .sentinel, .sentinel, .sentinel, .sentinel, .sentinel, .sentinel], laidTests := true, laidLooks := .later }
def CellsLaysCardSaid : Prop := Claim7.holds Tryd.pinned (.plain (OpenSpec.ofChange cellsLaysSpec)) cellsLaysCard

/-- THE TIED CARD OF 'copselaw6.CellsReads'. -/
def cellsReadsCard : Claim7 := { stood := { row := cellsReadsRow, standIns := [], harness := (true, "20b045d349ed0a728151d6c562fcdf9f70ff17301fe569356a4b3b0789b0f7dc"), looks := true }, kinds := [], alts := [], laidByText := true, laidKinds := [.sentinel, .sentinel, .sentinel, .sentinel, .sentinel, .sentinel, .sentinel, .sentinel, .sentinel, .sentinel, .sentinel, .sentinel, .sentinel], laidTests := true, laidLooks := .later }
def CellsReadsCardSaid : Prop := Claim7.holds Tryd.pinned (.plain (OpenSpec.ofChange cellsReadsSpec)) cellsReadsCard

/-- THE TIED CARD OF 'copselaw6.CellsCuts'. -/
def cellsCutsCard : Claim7 := { stood := { row := cellsCutsRow, standIns := [], harness := (true, "20b045d349ed0a728151d6c562fcdf9f70ff17301fe569356a4b3b0789b0f7dc"), looks := true }, kinds := [], alts := [], laidByText := true, laidKinds := [.sentinel, .sentinel, .sentinel, .sentinel, .sentinel, .sentinel, .sentinel, .sentinel, .sentinel, .sentinel, .sentinel, .sentinel, .sentinel], laidTests := true, laidLooks := .later }
def CellsCutsCardSaid : Prop := Claim7.holds Tryd.pinned (.plain (OpenSpec.ofChange cellsCutsSpec)) cellsCutsCard

/-- THE TIED CARD OF 'copselaw6.CellsBack'. -/
def cellsBackCard : Claim7 := { stood := { row := cellsBackRow, standIns := [], harness := (true, "20b045d349ed0a728151d6c562fcdf9f70ff17301fe569356a4b3b0789b0f7dc"), looks := true }, kinds := [], alts := [], laidByText := true, laidKinds := [.sentinel, .sentinel, .sentinel, .sentinel], laidTests := true, laidLooks := .later }
def CellsBackCardSaid : Prop := Claim7.holds Tryd.pinned (.plain (OpenSpec.ofChange cellsBackSpec)) cellsBackCard

/-- THE TIED CARD OF 'copselaw6.CellsAgain'. -/
def cellsAgainCard : Claim7 := { stood := { row := cellsAgainRow, standIns := [], harness := (true, "20b045d349ed0a728151d6c562fcdf9f70ff17301fe569356a4b3b0789b0f7dc"), looks := true }, kinds := [], alts := [], laidByText := true, laidKinds := [.sentinel, .sentinel, .sentinel, .sentinel], laidTests := true, laidLooks := .later }
def CellsAgainCardSaid : Prop := Claim7.holds Tryd.pinned (.plain (OpenSpec.ofChange cellsAgainSpec)) cellsAgainCard

/-- THE TIED CARD OF 'copselaw6.CellsSpot'. -/
def cellsSpotCard : Claim7 := { stood := { row := cellsSpotRow, standIns := [], harness := (true, "20b045d349ed0a728151d6c562fcdf9f70ff17301fe569356a4b3b0789b0f7dc"), looks := true }, kinds := [], alts := [], laidByText := true, laidKinds := [.sentinel, .sentinel, .sentinel, .sentinel], laidTests := true, laidLooks := .later }
def CellsSpotCardSaid : Prop := Claim7.holds Tryd.pinned (.plain (OpenSpec.ofChange cellsSpotSpec)) cellsSpotCard

/-- THE TIED CARD OF 'copselaw6.CellsEven'. -/
def cellsEvenCard : Claim7 := { stood := { row := cellsEvenRow, standIns := [], harness := (true, "20b045d349ed0a728151d6c562fcdf9f70ff17301fe569356a4b3b0789b0f7dc"), looks := true }, kinds := [], alts := [], laidByText := true, laidKinds := [.sentinel, .sentinel, .sentinel, .sentinel], laidTests := true, laidLooks := .later }
def CellsEvenCardSaid : Prop := Claim7.holds Tryd.pinned (.plain (OpenSpec.ofChange cellsEvenSpec)) cellsEvenCard

/-- THE SECOND FORM's CARD OF 'copselaw6.CellsLays'. -/
def cellsLaysUptoCard : Claim7 := { stood := { row := cellsLaysUptoRow, standIns := [], harness := (true, "20b045d349ed0a728151d6c562fcdf9f70ff17301fe569356a4b3b0789b0f7dc"), looks := true }, kinds := [], alts := [], laidByText := true, laidKinds := [.sentinel, .sentinel, .sentinel, .sentinel, .sentinel, .sentinel, .sentinel, .sentinel, .sentinel, .sentinel, .sentinel, .sentinel, .sentinel], laidTests := true, laidLooks := .later }
def CellsLaysUptoCardSaid : Prop := Claim7.holds Tryd.pinned (.plain (OpenSpec.upto cellsLaysSpec)) cellsLaysUptoCard

/-- THE SECOND FORM's CARD OF 'copselaw6.CellsReads'. -/
def cellsReadsUptoCard : Claim7 := { stood := { row := cellsReadsUptoRow, standIns := [], harness := (true, "20b045d349ed0a728151d6c562fcdf9f70ff17301fe569356a4b3b0789b0f7dc"), looks := true }, kinds := [], alts := [], laidByText := true, laidKinds := [.sentinel, .sentinel, .sentinel, .sentinel, .sentinel, .sentinel, .sentinel, .sentinel, .sentinel, .sentinel, .sentinel, .sentinel, .sentinel], laidTests := true, laidLooks := .later }
def CellsReadsUptoCardSaid : Prop := Claim7.holds Tryd.pinned (.plain (OpenSpec.upto cellsReadsSpec)) cellsReadsUptoCard

/-- THE SECOND FORM's CARD OF 'copselaw6.CellsCuts'. -/
def cellsCutsUptoCard : Claim7 := { stood := { row := cellsCutsUptoRow, standIns := [], harness := (true, "20b045d349ed0a728151d6c562fcdf9f70ff17301fe569356a4b3b0789b0f7dc"), looks := true }, kinds := [], alts := [], laidByText := true, laidKinds := [.sentinel, .sentinel, .sentinel, .sentinel, .sentinel, .sentinel, .sentinel, .sentinel, .sentinel, .sentinel, .sentinel, .sentinel, .sentinel], laidTests := true, laidLooks := .later }
def CellsCutsUptoCardSaid : Prop := Claim7.holds Tryd.pinned (.plain (OpenSpec.upto cellsCutsSpec)) cellsCutsUptoCard

/-- THE SECOND FORM's CARD OF 'copselaw6.CellsBack'. -/
def cellsBackUptoCard : Claim7 := { stood := { row := cellsBackUptoRow, standIns := [], harness := (true, "20b045d349ed0a728151d6c562fcdf9f70ff17301fe569356a4b3b0789b0f7dc"), looks := true }, kinds := [], alts := [], laidByText := true, laidKinds := [.sentinel, .sentinel, .sentinel, .sentinel], laidTests := true, laidLooks := .later }
def CellsBackUptoCardSaid : Prop := Claim7.holds Tryd.pinned (.plain (OpenSpec.upto cellsBackSpec)) cellsBackUptoCard

/-- THE SECOND FORM's CARD OF 'copselaw6.CellsAgain'. -/
def cellsAgainUptoCard : Claim7 := { stood := { row := cellsAgainUptoRow, standIns := [], harness := (true, "20b045d349ed0a728151d6c562fcdf9f70ff17301fe569356a4b3b0789b0f7dc"), looks := true }, kinds := [], alts := [], laidByText := true, laidKinds := [.sentinel, .sentinel, .sentinel, .sentinel], laidTests := true, laidLooks := .later }
def CellsAgainUptoCardSaid : Prop := Claim7.holds Tryd.pinned (.plain (OpenSpec.upto cellsAgainSpec)) cellsAgainUptoCard

/-- THE SECOND FORM's CARD OF 'copselaw6.CellsSpot'. -/
def cellsSpotUptoCard : Claim7 := { stood := { row := cellsSpotUptoRow, standIns := [], harness := (true, "20b045d349ed0a728151d6c562fcdf9f70ff17301fe569356a4b3b0789b0f7dc"), looks := true }, kinds := [], alts := [], laidByText := true, laidKinds := [.sentinel, .sentinel, .sentinel, .sentinel], laidTests := true, laidLooks := .later }
def CellsSpotUptoCardSaid : Prop := Claim7.holds Tryd.pinned (.plain (OpenSpec.upto cellsSpotSpec)) cellsSpotUptoCard

/-- THE SECOND FORM's CARD OF 'copselaw6.CellsEven'. -/
def cellsEvenUptoCard : Claim7 := { stood := { row := cellsEvenUptoRow, standIns := [], harness := (true, "20b045d349ed0a728151d6c562fcdf9f70ff17301fe569356a4b3b0789b0f7dc"), looks := true }, kinds := [], alts := [], laidByText := true, laidKinds := [.sentinel, .sentinel, .sentinel, .sentinel], laidTests := true, laidLooks := .later }
def CellsEvenUptoCardSaid : Prop := Claim7.holds Tryd.pinned (.plain (OpenSpec.upto cellsEvenSpec)) cellsEvenUptoCard
end Rows
end Go.Proofs.YtmjdkddpfcfepaaDoor
