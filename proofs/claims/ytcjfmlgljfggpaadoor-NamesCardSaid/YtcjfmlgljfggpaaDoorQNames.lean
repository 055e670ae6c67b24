/- The pure side of Names. -/
import Derived.Test.YtcjfmlgljfggpaaDoorXNamesx
set_option linter.unusedVariables false
namespace Go.Proofs.YtcjfmlgljfggpaaDoor.XNames
open Go.RowKit Go.Proofs.YtcjfmlgljfggpaaDoorW.PrintWords Go.Proofs.YtcjfmlgljfggpaaDoorW.PrintLast

theorem pure_side : ∃ k, copselaw0_Names.f k  = some true := by
  exact ⟨100, by kernel_rfl⟩
end Go.Proofs.YtcjfmlgljfggpaaDoor.XNames
