-- Printed for this claim by a program (wip/printx) that builds on the kit's print. Not trusted: Lean checks it.
import Derived.Test.YtcjfmlgljfggpaaDoorProg
import Derived.Below
import Derived.Deep.Draws
import Derived.Deep.AppendLies
import Derived.Maps.AppendAt
import Derived.OwnWalk
import Derived.Laws.BytesArg
import Derived.Laws.MakeOwn
import Derived.Laws.OwnMore
import Derived.Deep.OwnRows
import Derived.Tactics
import Derived.Lib.ConvBytes
import Derived.Laws.Slices
import Derived.WalkKit
import Derived.KernelRfl
import Derived.RowKit3
import Derived.Deep.LoopGhost
import Derived.Deep.QuietTactic
import Derived.BigQuiet
import Derived.WideLaws
import Derived.Deep.DeepCutAuto
import Derived.Deep.CutBlock
import Derived.Deep.RegionHeld3
import Derived.Laws.Rows
import Derived.Lib.AppendStr
import Derived.ArgAppend
import Derived.Laws.IdiomCopy
import Derived.OrdersHeld
import Derived.Laws.BitsLemmas
import Derived.RowKit
import Derived.LaidEql
import Derived.Laws.CopyOwn
import Derived.Laws.Cover1
import Derived.Lib.BufferWrite
import Derived.Test.YtcjfmlgljfggpaaDoorWWords
import Derived.Test.YtcjfmlgljfggpaaDoorWLast
import Derived.Test.YtcjfmlgljfggpaaDoorWTab
import Derived.Test.YtcjfmlgljfggpaaDoorWFour
import Derived.Test.YtcjfmlgljfggpaaDoorWQPut
import Derived.Test.YtcjfmlgljfggpaaDoorWApart
import Derived.Test.YtcjfmlgljfggpaaDoorWArr
import Derived.Test.YtcjfmlgljfggpaaDoorWZeros
import Derived.Test.YtcjfmlgljfggpaaDoorWFoot
import Derived.Test.YtcjfmlgljfggpaaDoorWKept
import Derived.Test.YtcjfmlgljfggpaaDoorWShare
import Derived.Test.YtcjfmlgljfggpaaDoorWN
import Derived.Test.YtcjfmlgljfggpaaDoorWFootNe
import Derived.Test.YtcjfmlgljfggpaaDoorWAt
import Derived.Test.YtcjfmlgljfggpaaDoorWEqStruct
import Derived.Test.YtcjfmlgljfggpaaDoorWRepsOne
import Derived.Test.YtcjfmlgljfggpaaDoorWInv
import Derived.Test.YtcjfmlgljfggpaaDoorWInvWords
import Derived.Test.YtcjfmlgljfggpaaDoorWGuard
import Derived.Test.YtcjfmlgljfggpaaDoorWNEv
import Derived.Test.YtcjfmlgljfggpaaDoorWMore
namespace Go.Proofs.YtcjfmlgljfggpaaDoor.XNames
open Go.RowKit Go.Proofs.YtcjfmlgljfggpaaDoorW.PrintWords Go.Proofs.YtcjfmlgljfggpaaDoorW.PrintLast Go.Proofs.YtcjfmlgljfggpaaDoorW.PrintMore
attribute [local go_sem] max2_int min2_int max_two min_two max_three min_three max_four min_four   -- for this text's walks alone
set_option linter.unusedVariables false
set_option linter.unusedSimpArgs false



/-- A refusal's value, by the address of what its variable holds. -/
def errW (E : Int → Addr) : Option Int → Value
  | none => .nilIface
  | some c => .iface 71 (.pointer (some (E c)))
theorem errW_none (E : Int → Addr) : errW E none = .nilIface := rfl
theorem errW_some (E : Int → Addr) (c : Int) : errW E (some c) = .iface 71 (.pointer (some (E c))) := rfl
/-- The numbers of the refusals that are known here (any other counts as the first). -/
def en (q : Int) : Int := if q = 2 then 2 else if q = 3 then 3 else if q = 4 then 4 else if q = 5 then 5 else if q = 6 then 6 else if q = 7 then 7 else if q = 8 then 8 else if q = 9 then 9 else if q = 10 then 10 else if q = 11 then 11 else if q = 12 then 12 else if q = 13 then 13 else 1
def tab0 : List Int := [512, 8, 4096, 24, 4072, 4, 1048576, 8388615, 255, 700, 1556, 1777, 8, 1000, 16, 4, 32, 8, 4, 65536, 16, 16, 600, 1048576, 64, 32, 1099511627776]
def tab1 : List Int := [512, 8, 4096, 24, 4072, 4, 1048576, 8388615, 255, 700, 1556, 1777, 8, 1000, 16, 4, 32, 8, 4, 65536, 16, 16, 600, 1048576, 64, 32, 1099511627776]
def tab2 : List Int := [66, 76, 0, 1, 2, 3, 4, 1, 2, 3, 1, 2, 3, 4, 5, 1, 2, 3, 4, 5, 6, 7, 8, 9, 10, 1, 2, 3, 4, 5, 1, 2, 3, 4, 5, 6, 1, 2, 3, 4, 4096, 1556, 1777, 255, 700]
def tab3 : List Int := [66, 76, 0, 1, 2, 3, 4, 1, 2, 3, 1, 2, 3, 4, 5, 1, 2, 3, 4, 5, 6, 7, 8, 9, 10, 1, 2, 3, 4, 5, 1, 2, 3, 4, 5, 6, 1, 2, 3, 4, 4096, 1556, 1777, 255, 700]
/-- Where the package-level variables lie, and what they hold. -/
structure Glob (E : Int → Addr) (w : World) : Prop where
  c4 : w.cell? ⟨4, 0, none⟩ = some (errW E (some 1))
  c5 : w.cell? ⟨5, 0, none⟩ = some (errW E (some 2))
  c6 : w.cell? ⟨6, 0, none⟩ = some (errW E (some 3))
  c7 : w.cell? ⟨7, 0, none⟩ = some (errW E (some 4))
  c8 : w.cell? ⟨8, 0, none⟩ = some (errW E (some 5))
  c9 : w.cell? ⟨9, 0, none⟩ = some (errW E (some 6))
  c10 : w.cell? ⟨10, 0, none⟩ = some (errW E (some 7))
  c11 : w.cell? ⟨11, 0, none⟩ = some (errW E (some 8))
  c12 : w.cell? ⟨12, 0, none⟩ = some (errW E (some 9))
  c13 : w.cell? ⟨13, 0, none⟩ = some (errW E (some 10))
  c14 : w.cell? ⟨14, 0, none⟩ = some (errW E (some 11))
  c15 : w.cell? ⟨15, 0, none⟩ = some (errW E (some 12))
  c16 : w.cell? ⟨16, 0, none⟩ = some (errW E (some 13))
  at_ : ∀ q, E q = E (en q)
  inj : ∀ q r, E q = E r → en q = en r
  blk : ∀ q, ∃ ca ta, w.heap[(E q).block]? = some (.cells ca ta (0, 0))
  t0 : ∀ i, i < 27 → w.cell? ⟨0, i, none⟩ = some (.int .i64 (tab0.getD i 0))
  t1 : ∀ i, i < 27 → w.cell? ⟨1, i, none⟩ = some (.int .i64 (tab1.getD i 0))
  t2 : ∀ i, i < 45 → w.cell? ⟨2, i, none⟩ = some (.int .i64 (tab2.getD i 0))
  t3 : ∀ i, i < 45 → w.cell? ⟨3, i, none⟩ = some (.int .i64 (tab3.getD i 0))
theorem Glob.below {E : Int → Addr} {w0 w : World} (h : Glob E w0) (hb : Below w0.heap.size w0 w) : Glob E w where
  c4 := pw_cell_below hb h.c4
  c5 := pw_cell_below hb h.c5
  c6 := pw_cell_below hb h.c6
  c7 := pw_cell_below hb h.c7
  c8 := pw_cell_below hb h.c8
  c9 := pw_cell_below hb h.c9
  c10 := pw_cell_below hb h.c10
  c11 := pw_cell_below hb h.c11
  c12 := pw_cell_below hb h.c12
  c13 := pw_cell_below hb h.c13
  c14 := pw_cell_below hb h.c14
  c15 := pw_cell_below hb h.c15
  c16 := pw_cell_below hb h.c16
  at_ := h.at_
  inj := h.inj
  blk := fun q => by obtain ⟨ca, ta, hh⟩ := h.blk q; exact ⟨ca, ta, (hb.block _ (Array.getElem?_eq_some_iff.1 hh).1).trans hh⟩
  t0 := fun i hi => pw_cell_below hb (h.t0 i hi)
  t1 := fun i hi => pw_cell_below hb (h.t1 i hi)
  t2 := fun i hi => pw_cell_below hb (h.t2 i hi)
  t3 := fun i hi => pw_cell_below hb (h.t3 i hi)
theorem Glob.drewN {E : Int → Addr} {w : World} (h : Glob E w) (n : Nat) : Glob E (w.drewN n) := h.below (pw_below_drewN (Below.refl _ _) n)
theorem Glob.drew {E : Int → Addr} {w : World} (h : Glob E w) : Glob E w.drew := h.below (below_drew (Below.refl _ _))
theorem Glob.alloc {E : Int → Addr} {w : World} (h : Glob E w) (o : Obj) : Glob E (w.alloc o) := h.below (below_alloc (Below.refl _ _) o)
theorem cmpPT : (Tryd.prog.info? 71).map (·.comparable) = some true := by kernel_rfl
theorem sizES : (Tryd.prog.info? 88).map (·.size) = some 1 := by kernel_rfl
theorem Glob.eql {E : Int → Addr} {w : World} (h : Glob E w) (p q : Int) : (binOp .eql 48 (errW E (some p)) (errW E (some q))).run Tryd.prog w = .ok (.bool (en p == en q)) w := by
  obtain ⟨i, hi, hc⟩ := Option.map_eq_some_iff.1 cmpPT
  obtain ⟨j, hj, hs⟩ := Option.map_eq_some_iff.1 sizES
  simp only [errW_some]
  by_cases e : en p = en q
  · rw [show E p = E q by rw [h.at_ p, h.at_ q, e], e, beq_self_eq_true]
    exact run_eql_iface_ptr_same w _ Tryd.underlying48 Tryd.underlying71 hi hc hj
  · obtain ⟨ca, ta, h1⟩ := h.blk p
    obtain ⟨cb, tb, h2⟩ := h.blk q
    rw [beq_eq_false_iff_ne.2 e]
    exact run_eql_iface_ptr_other w Tryd.underlying48 Tryd.underlying71 hi hc hj (by omega) (fun e' => e (h.inj _ _ e')) h1 h2
theorem Glob.eql_drewN {E : Int → Addr} {w : World} (h : Glob E w) (n : Nat) (p q : Int) : (binOp .eql 48 (errW E (some p)) (errW E (some q))).run Tryd.prog (w.drewN n) = .ok (.bool (en p == en q)) (w.drewN n) := (h.drewN n).eql p q

theorem info3 : (Tryd.prog.info? 3).map (fun i => (i.zero, i.size, i.bytes)) = some (some (.int .i64 0), 1, 8) := by kernel_rfl
-- the values' own types

end Go.Proofs.YtcjfmlgljfggpaaDoor.XNames
