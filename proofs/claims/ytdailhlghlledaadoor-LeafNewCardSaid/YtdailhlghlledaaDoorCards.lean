/-
  DERIVED. GIVEN WITH THE SEED: THE CARDS: each row of YtdailhlghlledaaDoorRows.lean that lists a variable, with what it lists TIED to the program's text (the seventh form; the later family's looks); each row that meets fmt, with fmt's text TOLD by the authors' own Lean function (tested against real Go, not proved from fmt's source: count such statements apart). THE CARD IS WHAT COUNTS. Prove the row's statement (the work); the ties are given (YtdailhlghlledaaDoorTie.lean); close each card by the builder's one call (the guide's Derived/Test/ToyasCard.lean, 'card_holds'). Laid BY PROGRAM, IN A SANDBOX (cutbox-door.mjs). By AI agents, Wed Nov 11 2026. No macro, syntax, notation, axiom, sorry.
-/
import Derived.Test.YtdailhlghlledaaDoorRows
import GoSem.ClaimSeven
namespace Go.Proofs.YtdailhlghlledaaDoor
namespace Rows

/-- THE TIED CARD OF 'copselaw7.LeafSizes'. -/
def leafSizesCard : Claim7 := { stood := { row := leafSizesRow, standIns := [], harness := (true, "ccb72032882b97dd20305dce6f2e8c873a780bb66c8a3374397d0b1906e123c4"), looks := true }, kinds := [], alts := [], laidByText := true, laidKinds := [.sentinel, .sentinel, .sentinel, .sentinel, .sentinel, .sentinel, .sentinel, .sentinel, .sentinel, .sentinel, .sentinel, .sentinel, .sentinel], laidTests := true, laidLooks := .later }
def LeafSizesCardSaid : Prop := Claim7.holds Tryd.pinned (.plain (OpenSpec.ofChange leafSizesSpec)) leafSizesCard

/-- THE TIED CARD OF 'copselaw7.LeafCuts'. -/
def leafCutsCard : Claim7 := { stood := { row := leafCutsRow, standIns := [], harness := (true, "ccb72032882b97dd20305dce6f2e8c873a780bb66c8a3374397d0b1906e123c4"), looks := true }, kinds := [], alts := [], laidByText := true, laidKinds := [.sentinel, .sentinel, .sentinel, .sentinel, .sentinel, .sentinel, .sentinel, .sentinel, .sentinel, .sentinel, .sentinel, .sentinel, .sentinel], laidTests := true, laidLooks := .later }
def LeafCutsCardSaid : Prop := Claim7.holds Tryd.pinned (.plain (OpenSpec.ofChange leafCutsSpec)) leafCutsCard

/-- THE TIED CARD OF 'copselaw7.LeafEncodes'. -/
def leafEncodesCard : Claim7 := { stood := { row := leafEncodesRow, standIns := [], harness := (true, "ccb72032882b97dd20305dce6f2e8c873a780bb66c8a3374397d0b1906e123c4"), looks := true }, kinds := [], alts := [], laidByText := true, laidKinds := [.sentinel, .sentinel, .sentinel, .sentinel, .sentinel, .sentinel, .sentinel, .sentinel, .sentinel, .sentinel, .sentinel, .sentinel, .sentinel], laidTests := true, laidLooks := .later }
def LeafEncodesCardSaid : Prop := Claim7.holds Tryd.pinned (.plain (OpenSpec.ofChange leafEncodesSpec)) leafEncodesCard

/-- THE TIED CARD OF 'copselaw7.LeafDecodes'. -/
def leafDecodesCard : Claim7 := { stood := { row := leafDecodesRow, standIns := [], harness := (true, "ccb72032882b97dd20305dce6f2e8c873a780bb66c8a3374397d0b1906e123c4"), looks := true }, kinds := [], alts := [], laidByText := true, laidKinds := [.sentinel, .sentinel, .sentinel, .sentinel, .sentinel, .sentinel, .sentinel, .sentinel, .sentinel, .sentinel, .sentinel, .sentinel, .sentinel], laidTests := true, laidLooks := .later }
def LeafDecodesCardSaid : Prop := Claim7.holds Tryd.pinned (.plain (OpenSpec.ofChange leafDecodesSpec)) leafDecodesCard

/-- THE TIED CARD OF 'copselaw7.LeafBack'. -/
def leafBackCard : Claim7 := { stood := { row := leafBackRow, standIns := [], harness := (true, "ccb72032882b97dd20305dce6f2e8c873a780bb66c8a3374397d0b1906e123c4"), looks := true }, kinds := [], alts := [], laidByText := true, laidKinds := [.sentinel, .sentinel, .sentinel, .sentinel, .sentinel, .sentinel, .sentinel, .sentinel, .sentinel, .sentinel, .sentinel, .sentinel, .sentinel], laidTests := true, laidLooks := .later }
def LeafBackCardSaid : Prop := Claim7.holds Tryd.pinned (.plain (OpenSpec.ofChange leafBackSpec)) leafBackCard

/-- THE TIED CARD OF 'copselaw7.LeafKeeps'. -/
def leafKeepsCard : Claim7 := { stood := { row := leafKeepsRow, standIns := [], harness := (true, "ccb72032882b97dd20305dce6f2e8c873a780bb66c8a3374397d0b1906e123c4"), looks := true }, kinds := [], alts := [], laidByText := true, laidKinds := [.sentinel, .sentinel, .sentinel, .sentinel, .sentinel], laidTests := true, laidLooks := .later }
def LeafKeepsCardSaid : Prop := Claim7.holds Tryd.pinned (.plain (OpenSpec.ofChange leafKeepsSpec)) leafKeepsCard

/-- THE TIED CARD OF 'copselaw7.LeafHalves'. -/
def leafHalvesCard : Claim7 := { stood := { row := leafHalvesRow, standIns := [], harness := (true, "ccb72032882b97dd20305dce6f2e8c873a780bb66c8a3374397d0b1906e123c4"), looks := true }, kinds := [], alts := [], laidByText := true, laidKinds := [.sentinel, .sentinel, .sentinel, .sentinel, .sentinel], laidTests := true, laidLooks := .later }
def LeafHalvesCardSaid : Prop := Claim7.holds Tryd.pinned (.plain (OpenSpec.ofChange leafHalvesSpec)) leafHalvesCard

/-- THE TIED CARD OF 'copselaw7.LeafNew'. -/
def leafNewCard : Claim7 := { stood := { row := leafNewRow, standIns := [], harness := (true, "ccb72032882b97dd20305dce6f2e8c873a780bb66c8a3374397d0b1906e123c4"), looks := true }, kinds := [], alts := [], laidByText := true, laidKinds := [.sentinel, .sentinel, .sentinel, .sentinel, .sentinel, .sentinel, .sentinel, .sentinel, .sentinel, .sentinel, .sentinel, .sentinel, .sentinel], laidTests := true, laidLooks := .later }
def LeafNewCardSaid : Prop := Claim7.holds Tryd.pinned (.plain (OpenSpec.ofChange leafNewSpec)) leafNewCard

/-- THE SECOND FORM's CARD OF 'copselaw7.LeafSizes'. -/
def leafSizesUptoCard : Claim7 := { stood := { row := leafSizesUptoRow, standIns := [], harness := (true, "ccb72032882b97dd20305dce6f2e8c873a780bb66c8a3374397d0b1906e123c4"), looks := true }, kinds := [], alts := [], laidByText := true, laidKinds := [.sentinel, .sentinel, .sentinel, .sentinel, .sentinel, .sentinel, .sentinel, .sentinel, .sentinel, .sentinel, .sentinel, .sentinel, .sentinel], laidTests := true, laidLooks := .later }
def LeafSizesUptoCardSaid : Prop := Claim7.holds Tryd.pinned (.plain (OpenSpec.upto leafSizesSpec)) leafSizesUptoCard

/-- THE SECOND FORM's CARD OF 'copselaw7.LeafCuts'. -/
def leafCutsUptoCard : Claim7 := { stood := { row := leafCutsUptoRow, standIns := [], harness := (true, "ccb72032882b97dd20305dce6f2e8c873a780bb66c8a3374397d0b1906e123c4"), looks := true }, kinds := [], alts := [], laidByText := true, laidKinds := [.sentinel, .sentinel, .sentinel, .sentinel, .sentinel, .sentinel, .sentinel, .sentinel, .sentinel, .sentinel, .sentinel, .sentinel, .sentinel], laidTests := true, laidLooks := .later }
def LeafCutsUptoCardSaid : Prop := Claim7.holds Tryd.pinned (.plain (OpenSpec.upto leafCutsSpec)) leafCutsUptoCard

/-- THE SECOND FORM's CARD OF 'copselaw7.LeafEncodes'. -/
def leafEncodesUptoCard : Claim7 := { stood := { row := leafEncodesUptoRow, standIns := [], harness := (true, "ccb72032882b97dd20305dce6f2e8c873a780bb66c8a3374397d0b1906e123c4"), looks := true }, kinds := [], alts := [], laidByText := true, laidKinds := [.sentinel, .sentinel, .sentinel, .sentinel, .sentinel, .sentinel, .sentinel, .sentinel, .sentinel, .sentinel, .sentinel, .sentinel, .sentinel], laidTests := true, laidLooks := .later }
def LeafEncodesUptoCardSaid : Prop := Claim7.holds Tryd.pinned (.plain (OpenSpec.upto leafEncodesSpec)) leafEncodesUptoCard

/-- THE SECOND FORM's CARD OF 'copselaw7.LeafDecodes'. -/
def leafDecodesUptoCard : Claim7 := { stood := { row := leafDecodesUptoRow, standIns := [], harness := (true, "ccb72032882b97dd20305dce6f2e8c873a780bb66c8a3374397d0b1906e123c4"), looks := true }, kinds := [], alts := [], laidByText := true, laidKinds := [.sentinel, .sentinel, .sentinel, .sentinel, .sentinel, .sentinel, .sentinel, .sentinel, .sentinel, .sentinel, .sentinel, .sentinel, .sentinel], laidTests := true, laidLooks := .later }
def LeafDecodesUptoCardSaid : Prop := Claim7.holds Tryd.pinned (.plain (OpenSpec.upto leafDecodesSpec)) leafDecodesUptoCard

/-- THE SECOND FORM's CARD OF 'copselaw7.LeafBack'. -/
def leafBackUptoCard : Claim7 := { stood := { row := leafBackUptoRow, standIns := [], harness := (true, "ccb72032882b97dd20305dce6f2e8c873a780bb66c8a3374397d0b1906e123c4"), looks := true }, kinds := [], alts := [], laidByText := true, laidKinds := [.sentinel, .sentinel, .sentinel, .sentinel, .sentinel, .sentinel, .sentinel, .sentinel, .sentinel, .sentinel, .sentinel, .sentinel, .sentinel], laidTests := true, laidLooks := .later }
def LeafBackUptoCardSaid : Prop := Claim7.holds Tryd.pinned (.plain (OpenSpec.upto leafBackSpec)) leafBackUptoCard

/-- THE SECOND FORM's CARD OF 'copselaw7.LeafKeeps'. -/
def leafKeepsUptoCard : Claim7 := { stood := { row := leafKeepsUptoRow, standIns := [], harness := (true, "ccb72032882b97dd20305dce6f2e8c873a780bb66c8a3374397d0b1906e123c4"), looks := true }, kinds := [], alts := [], laidByText := true, laidKinds := [.sentinel, .sentinel, .sentinel, .sentinel, .sentinel], laidTests := true, laidLooks := .later }
def LeafKeepsUptoCardSaid : Prop := Claim7.holds Tryd.pinned (.plain (OpenSpec.upto leafKeepsSpec)) leafKeepsUptoCard

/-- THE SECOND FORM's CARD OF 'copselaw7.LeafHalves'. -/
def leafHalvesUptoCard : Claim7 := { stood := { row := leafHalvesUptoRow, standIns := [], harness := (true, "ccb72032882b97dd20305dce6f2e8c873a780bb66c8a3374397d0b1906e123c4"), looks := true }, kinds := [], alts := [], laidByText := true, laidKinds := [.sentinel, .sentinel, .sentinel, .sentinel, .sentinel], laidTests := true, laidLooks := .later }
def LeafHalvesUptoCardSaid : Prop := Claim7.holds Tryd.pinned (.plain (OpenSpec.upto leafHalvesSpec)) leafHalvesUptoCard

/-- THE SECOND FORM's CARD OF 'copselaw7.LeafNew'. -/
def leafNewUptoCard : Claim7 := { stood := { row := leafNewUptoRow, standIns := [], harness := (true, "ccb72032882b97dd20305dce6f2e8c873a780bb66c8a3374397d0b1906e123c4"), looks := true }, kinds := [], alts := [], laidByText := true, laidKinds := [.sentinel, .sentinel, .sentinel, .sentinel, .sentinel, .sentinel, .sentinel, .sentinel, .sentinel, .sentinel, .sentinel, .sentinel, .sentinel], laidTests := true, laidLooks := .later }
def LeafNewUptoCardSaid : Prop := Claim7.holds Tryd.pinned (.plain (OpenSpec.upto leafNewSpec)) leafNewUptoCard
end Rows
end Go.Proofs.YtdailhlghlledaaDoor
