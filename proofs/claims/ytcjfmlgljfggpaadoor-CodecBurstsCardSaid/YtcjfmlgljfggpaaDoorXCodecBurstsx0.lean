-- Printed for this claim by a program (wip/printx) that builds on the kit's print. Not trusted: Lean checks it.
import Derived.Test.YtcjfmlgljfggpaaDoorProg
import Derived.Below
import Derived.Deep.Draws
import Derived.Deep.AppendLies
import Derived.Maps.AppendAt
import Derived.OwnWalk
import Derived.Laws.BytesArg
import Derived.Laws.MakeOwn
import Derived.Laws.OwnMore
import Derived.Deep.OwnRows
import Derived.Tactics
import Derived.Lib.ConvBytes
import Derived.Laws.Slices
import Derived.WalkKit
import Derived.KernelRfl
import Derived.RowKit3
import Derived.Deep.LoopGhost
import Derived.Deep.QuietTactic
import Derived.BigQuiet
import Derived.WideLaws
import Derived.Deep.DeepCutAuto
import Derived.Deep.CutBlock
import Derived.Deep.RegionHeld3
import Derived.Laws.Rows
import Derived.Lib.AppendStr
import Derived.ArgAppend
import Derived.Laws.IdiomCopy
import Derived.OrdersHeld
import Derived.Laws.BitsLemmas
import Derived.RowKit
import Derived.LaidEql
import Derived.Test.YtcjfmlgljfggpaaDoorWWords
import Derived.Test.YtcjfmlgljfggpaaDoorWLast
import Derived.Test.YtcjfmlgljfggpaaDoorWTab
import Derived.Test.YtcjfmlgljfggpaaDoorWFour
import Derived.Test.YtcjfmlgljfggpaaDoorWQPut
import Derived.Test.YtcjfmlgljfggpaaDoorWApart
import Derived.Test.YtcjfmlgljfggpaaDoorWArr
import Derived.Test.YtcjfmlgljfggpaaDoorWZeros
import Derived.Test.YtcjfmlgljfggpaaDoorWFoot
import Derived.Test.YtcjfmlgljfggpaaDoorWKept
import Derived.Test.YtcjfmlgljfggpaaDoorWShare
import Derived.Test.YtcjfmlgljfggpaaDoorWN
import Derived.Test.YtcjfmlgljfggpaaDoorWFootNe
import Derived.Test.YtcjfmlgljfggpaaDoorWAt
import Derived.Test.YtcjfmlgljfggpaaDoorWEqStruct
import Derived.Test.YtcjfmlgljfggpaaDoorWRepsOne
import Derived.Test.YtcjfmlgljfggpaaDoorWInv
import Derived.Test.YtcjfmlgljfggpaaDoorWInvWords
import Derived.Test.YtcjfmlgljfggpaaDoorWGuard
import Derived.Test.YtcjfmlgljfggpaaDoorWNEv
import Derived.Test.YtcjfmlgljfggpaaDoorWMore
namespace Go.Proofs.YtcjfmlgljfggpaaDoor.XCodecBursts
open Go.RowKit Go.Proofs.YtcjfmlgljfggpaaDoorW.PrintWords Go.Proofs.YtcjfmlgljfggpaaDoorW.PrintLast Go.Proofs.YtcjfmlgljfggpaaDoorW.PrintMore
attribute [local go_sem] max2_int min2_int max_two min_two max_three min_three max_four min_four   -- for this text's walks alone
set_option linter.unusedVariables false
set_option linter.unusedSimpArgs false



def errW (E : Int → Addr) : Option Int → Value
  | none => .nilIface
  | some c => .iface 0 (.pointer (some (E c)))
theorem errW_none (E : Int → Addr) : errW E none = .nilIface := rfl
theorem errW_some (E : Int → Addr) (c : Int) : errW E (some c) = .iface 0 (.pointer (some (E c))) := rfl
def tab17 : List Int := [0, 274646895, 549293790, 820201905, 1098587580, 1361435347, 1640403810, 1905808397, 2197175160, 2460548119, 2722870694, 2987750089, 3280807620, 3553878443, 3811616794, 4084100981]
/-- Where the package-level variables lie, and what they hold. -/
structure Glob (E : Int → Addr) (w : World) : Prop where
  t17 : ∀ i, i < 16 → w.cell? ⟨17, i, none⟩ = some (.int .u32 (tab17.getD i 0))
theorem Glob.below {E : Int → Addr} {w0 w : World} (h : Glob E w0) (hb : Below w0.heap.size w0 w) : Glob E w where
  t17 := fun i hi => pw_cell_below hb (h.t17 i hi)
theorem Glob.drewN {E : Int → Addr} {w : World} (h : Glob E w) (n : Nat) : Glob E (w.drewN n) := h.below (pw_below_drewN (Below.refl _ _) n)
theorem Glob.drew {E : Int → Addr} {w : World} (h : Glob E w) : Glob E w.drew := h.below (below_drew (Below.refl _ _))
theorem Glob.alloc {E : Int → Addr} {w : World} (h : Glob E w) (o : Obj) : Glob E (w.alloc o) := h.below (below_alloc (Below.refl _ _) o)

theorem info5 : (Tryd.prog.info? 5).map (fun i => (i.zero, i.size, i.bytes)) = some (some (.int .u8 0), 1, 1) := by kernel_rfl
-- the values' own types

end Go.Proofs.YtcjfmlgljfggpaaDoor.XCodecBursts
