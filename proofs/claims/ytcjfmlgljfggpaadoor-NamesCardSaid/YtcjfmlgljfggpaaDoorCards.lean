/-
  DERIVED. GIVEN WITH THE SEED: THE CARDS: each row of YtcjfmlgljfggpaaDoorRows.lean that lists a variable, with what it lists TIED to the program's text (the seventh form; the later family's looks); each row that meets fmt, with fmt's text TOLD by the authors' own Lean function (tested against real Go, not proved from fmt's source: count such statements apart). THE CARD IS WHAT COUNTS. Prove the row's statement (the work); the ties are given (YtcjfmlgljfggpaaDoorTie.lean); close each card by the builder's one call (the guide's Derived/Test/ToyasCard.lean, 'card_holds'). Laid BY PROGRAM, IN A SANDBOX (cutbox-door.mjs). By AI agents, Wed Nov 11 2026. No macro, syntax, notation, axiom, sorry.
-/
import Derived.Test.YtcjfmlgljfggpaaDoorRows
import GoSem.ClaimSeven
namespace Go.Proofs.YtcjfmlgljfggpaaDoor
namespace Rows

/-- THE TIED CARD OF 'copselaw0.Names'. -/
def namesCard : Claim7 := { stood := { row := namesRow, standIns := [], harness := (true, "6a006d9bc1524fb94d6a691e95941fcdd0688aab3e048579ea70006e9bfb382f"), looks := true }, kinds := [], alts := [], laidByText := true, laidKinds := [.sentinel, .sentinel, .sentinel, .sentinel, .sentinel, .sentinel, .sentinel, .sentinel, .sentinel, .sentinel, .sentinel, .sentinel, .sentinel, .data, .data, .data, .data], laidTests := true, laidLooks := .later }
def NamesCardSaid : Prop := Claim7.holds Tryd.pinned (.plain (OpenSpec.ofChange namesSpec)) namesCard

/-- THE TIED CARD OF 'copselaw1.CodecSums'. -/
def codecSumsCard : Claim7 := { stood := { row := codecSumsRow, standIns := [], harness := (true, "6a006d9bc1524fb94d6a691e95941fcdd0688aab3e048579ea70006e9bfb382f"), looks := true }, kinds := [], alts := [], laidByText := true, laidKinds := [.data], laidTests := true, laidLooks := .later }
def CodecSumsCardSaid : Prop := Claim7.holds Tryd.pinned (.plain (OpenSpec.ofChange codecSumsSpec)) codecSumsCard

/-- THE TIED CARD OF 'copselaw1.CodecParts'. -/
def codecPartsCard : Claim7 := { stood := { row := codecPartsRow, standIns := [], harness := (true, "6a006d9bc1524fb94d6a691e95941fcdd0688aab3e048579ea70006e9bfb382f"), looks := true }, kinds := [], alts := [], laidByText := true, laidKinds := [.data], laidTests := true, laidLooks := .later }
def CodecPartsCardSaid : Prop := Claim7.holds Tryd.pinned (.plain (OpenSpec.ofChange codecPartsSpec)) codecPartsCard

/-- THE TIED CARD OF 'copselaw1.CodecBursts'. -/
def codecBurstsCard : Claim7 := { stood := { row := codecBurstsRow, standIns := [], harness := (true, "6a006d9bc1524fb94d6a691e95941fcdd0688aab3e048579ea70006e9bfb382f"), looks := true }, kinds := [], alts := [], laidByText := true, laidKinds := [.data], laidTests := true, laidLooks := .later }
def CodecBurstsCardSaid : Prop := Claim7.holds Tryd.pinned (.plain (OpenSpec.ofChange codecBurstsSpec)) codecBurstsCard

/-- THE TIED CARD OF 'copselaw1.CodecLike'. -/
def codecLikeCard : Claim7 := { stood := { row := codecLikeRow, standIns := [], harness := (true, "6a006d9bc1524fb94d6a691e95941fcdd0688aab3e048579ea70006e9bfb382f"), looks := true }, kinds := [], alts := [], laidByText := true, laidKinds := [.data], laidTests := true, laidLooks := .later }
def CodecLikeCardSaid : Prop := Claim7.holds Tryd.pinned (.plain (OpenSpec.ofChange codecLikeSpec)) codecLikeCard

/-- THE TIED CARD OF 'copselaw1.CodecGets'. -/
def codecGetsCard : Claim7 := { stood := { row := codecGetsRow, standIns := [], harness := (true, "6a006d9bc1524fb94d6a691e95941fcdd0688aab3e048579ea70006e9bfb382f"), looks := true }, kinds := [], alts := [], laidByText := true, laidKinds := [.sentinel, .sentinel, .sentinel, .sentinel, .sentinel, .sentinel, .sentinel, .sentinel, .sentinel, .sentinel, .sentinel, .sentinel, .sentinel], laidTests := true, laidLooks := .later }
def CodecGetsCardSaid : Prop := Claim7.holds Tryd.pinned (.plain (OpenSpec.ofChange codecGetsSpec)) codecGetsCard

/-- THE TIED CARD OF 'copselaw1.CodecPuts'. -/
def codecPutsCard : Claim7 := { stood := { row := codecPutsRow, standIns := [], harness := (true, "6a006d9bc1524fb94d6a691e95941fcdd0688aab3e048579ea70006e9bfb382f"), looks := true }, kinds := [], alts := [], laidByText := true, laidKinds := [.sentinel, .sentinel, .sentinel, .sentinel, .sentinel, .sentinel, .sentinel, .sentinel, .sentinel, .sentinel, .sentinel, .sentinel, .sentinel], laidTests := true, laidLooks := .later }
def CodecPutsCardSaid : Prop := Claim7.holds Tryd.pinned (.plain (OpenSpec.ofChange codecPutsSpec)) codecPutsCard

/-- THE TIED CARD OF 'copselaw1.CodecNew'. -/
def codecNewCard : Claim7 := { stood := { row := codecNewRow, standIns := [], harness := (true, "6a006d9bc1524fb94d6a691e95941fcdd0688aab3e048579ea70006e9bfb382f"), looks := true }, kinds := [], alts := [], laidByText := true, laidKinds := [.sentinel, .sentinel, .sentinel, .sentinel, .sentinel, .sentinel, .sentinel, .sentinel, .sentinel, .sentinel, .sentinel, .sentinel, .sentinel], laidTests := true, laidLooks := .later }
def CodecNewCardSaid : Prop := Claim7.holds Tryd.pinned (.plain (OpenSpec.ofChange codecNewSpec)) codecNewCard

/-- THE TIED CARD OF 'copselaw1.CodecBack'. -/
def codecBackCard : Claim7 := { stood := { row := codecBackRow, standIns := [], harness := (true, "6a006d9bc1524fb94d6a691e95941fcdd0688aab3e048579ea70006e9bfb382f"), looks := true }, kinds := [], alts := [], laidByText := true, laidKinds := [.sentinel], laidTests := true, laidLooks := .later }
def CodecBackCardSaid : Prop := Claim7.holds Tryd.pinned (.plain (OpenSpec.ofChange codecBackSpec)) codecBackCard

/-- THE SECOND FORM's CARD OF 'copselaw0.Names'. -/
def namesUptoCard : Claim7 := { stood := { row := namesUptoRow, standIns := [], harness := (true, "6a006d9bc1524fb94d6a691e95941fcdd0688aab3e048579ea70006e9bfb382f"), looks := true }, kinds := [], alts := [], laidByText := true, laidKinds := [.sentinel, .sentinel, .sentinel, .sentinel, .sentinel, .sentinel, .sentinel, .sentinel, .sentinel, .sentinel, .sentinel, .sentinel, .sentinel, .data, .data, .data, .data], laidTests := true, laidLooks := .later }
def NamesUptoCardSaid : Prop := Claim7.holds Tryd.pinned (.plain (OpenSpec.upto namesSpec)) namesUptoCard

/-- THE SECOND FORM's CARD OF 'copselaw1.CodecSums'. -/
def codecSumsUptoCard : Claim7 := { stood := { row := codecSumsUptoRow, standIns := [], harness := (true, "6a006d9bc1524fb94d6a691e95941fcdd0688aab3e048579ea70006e9bfb382f"), looks := true }, kinds := [], alts := [], laidByText := true, laidKinds := [.data], laidTests := true, laidLooks := .later }
def CodecSumsUptoCardSaid : Prop := Claim7.holds Tryd.pinned (.plain (OpenSpec.upto codecSumsSpec)) codecSumsUptoCard

/-- THE SECOND FORM's CARD OF 'copselaw1.CodecParts'. -/
def codecPartsUptoCard : Claim7 := { stood := { row := codecPartsUptoRow, standIns := [], harness := (true, "6a006d9bc1524fb94d6a691e95941fcdd0688aab3e048579ea70006e9bfb382f"), looks := true }, kinds := [], alts := [], laidByText := true, laidKinds := [.data], laidTests := true, laidLooks := .later }
def CodecPartsUptoCardSaid : Prop := Claim7.holds Tryd.pinned (.plain (OpenSpec.upto codecPartsSpec)) codecPartsUptoCard

/-- THE SECOND FORM's CARD OF 'copselaw1.CodecBursts'. -/
def codecBurstsUptoCard : Claim7 := { stood := { row := codecBurstsUptoRow, standIns := [], harness := (true, "6a006d9bc1524fb94d6a691e95941fcdd0688aab3e048579ea70006e9bfb382f"), looks := true }, kinds := [], alts := [], laidByText := true, laidKinds := [.data], laidTests := true, laidLooks := .later }
def CodecBurstsUptoCardSaid : Prop := Claim7.holds Tryd.pinned (.plain (OpenSpec.upto codecBurstsSpec)) codecBurstsUptoCard

/-- THE SECOND FORM's CARD OF 'copselaw1.CodecLike'. -/
def codecLikeUptoCard : Claim7 := { stood := { row := codecLikeUptoRow, standIns := [], harness := (true, "6a006d9bc1524fb94d6a691e95941fcdd0688aab3e048579ea70006e9bfb382f"), looks := true }, kinds := [], alts := [], laidByText := true, laidKinds := [.data], laidTests := true, laidLooks := .later }
def CodecLikeUptoCardSaid : Prop := Claim7.holds Tryd.pinned (.plain (OpenSpec.upto codecLikeSpec)) codecLikeUptoCard

/-- THE SECOND FORM's CARD OF 'copselaw1.CodecGets'. -/
def codecGetsUptoCard : Claim7 := { stood := { row := codecGetsUptoRow, standIns := [], harness := (true, "6a006d9bc1524fb94d6a691e95941fcdd0688aab3e048579ea70006e9bfb382f"), looks := true }, kinds := [], alts := [], laidByText := true, laidKinds := [.sentinel, .sentinel, .sentinel, .sentinel, .sentinel, .sentinel, .sentinel, .sentinel, .sentinel, .sentinel, .sentinel, .sentinel, .sentinel], laidTests := true, laidLooks := .later }
def CodecGetsUptoCardSaid : Prop := Claim7.holds Tryd.pinned (.plain (OpenSpec.upto codecGetsSpec)) codecGetsUptoCard

/-- THE SECOND FORM's CARD OF 'copselaw1.CodecPuts'. -/
def codecPutsUptoCard : Claim7 := { stood := { row := codecPutsUptoRow, standIns := [], harness := (true, "6a006d9bc1524fb94d6a691e95941fcdd0688aab3e048579ea70006e9bfb382f"), looks := true }, kinds := [], alts := [], laidByText := true, laidKinds := [.sentinel, .sentinel, .sentinel, .sentinel, .sentinel, .sentinel, .sentinel, .sentinel, .sentinel, .sentinel, .sentinel, .sentinel, .sentinel], laidTests := true, laidLooks := .later }
def CodecPutsUptoCardSaid : Prop := Claim7.holds Tryd.pinned (.plain (OpenSpec.upto codecPutsSpec)) codecPutsUptoCard

/-- THE SECOND FORM's CARD OF 'copselaw1.CodecNew'. -/
def codecNewUptoCard : Claim7 := { stood := { row := codecNewUptoRow, standIns := [], harness := (true, "6a006d9bc1524fb94d6a691e95941fcdd0688aab3e048579ea70006e9bfb382f"), looks := true }, kinds := [], alts := [], laidByText := true, laidKinds := [.sentinel, .sentinel, .sentinel, .sentinel, .sentinel, .sentinel, .sentinel, .sentinel, .sentinel, .sentinel, .sentinel, .sentinel, .sentinel], laidTests := true, laidLooks := .later }
def CodecNewUptoCardSaid : Prop := Claim7.holds Tryd.pinned (.plain (OpenSpec.upto codecNewSpec)) codecNewUptoCard

/-- THE SECOND FORM's CARD OF 'copselaw1.CodecBack'. -/
def codecBackUptoCard : Claim7 := { stood := { row := codecBackUptoRow, standIns := [], harness := (true, "6a006d9bc1524fb94d6a691e95941fcdd0688aab3e048579ea70006e9bfb382f"), looks := true }, kinds := [], alts := [], laidByText := true, laidKinds := [.sentinel], laidTests := true, laidLooks := .later }
def CodecBackUptoCardSaid : Prop := Claim7.holds Tryd.pinned (.plain (OpenSpec.upto codecBackSpec)) codecBackUptoCard
end Rows
end Go.Proofs.YtcjfmlgljfggpaaDoor
