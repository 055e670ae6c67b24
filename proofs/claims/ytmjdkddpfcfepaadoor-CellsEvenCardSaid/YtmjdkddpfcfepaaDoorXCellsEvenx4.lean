-- Printed for this claim by a program (wip/printx) that builds on the kit's print. Not trusted: Lean checks it.
import Derived.Test.YtmjdkddpfcfepaaDoorXCellsEvenx0
import Derived.Test.YtmjdkddpfcfepaaDoorXCellsEvenx1
import Derived.Test.YtmjdkddpfcfepaaDoorXCellsEvenx2
import Derived.Test.YtmjdkddpfcfepaaDoorXCellsEvenx3
namespace Go.Proofs.YtmjdkddpfcfepaaDoor.XCellsEven
open Go.RowKit Go.Proofs.YtmjdkddpfcfepaaDoorW.PrintWords Go.Proofs.YtmjdkddpfcfepaaDoorW.PrintLast Go.Proofs.YtmjdkddpfcfepaaDoorW.PrintMore
attribute [local go_sem] max2_int min2_int max_two min_two max_three min_three max_four min_four   -- for this text's walks alone
set_option linter.unusedVariables false
set_option linter.unusedSimpArgs false
set_option linter.unnecessarySimpa false

/-! ### copselaw6_CellsEven: function 9 -/
mutual
def copselaw6_CellsEven.j0 : Nat → List Int → Int → Option Int → Int → Option Int → Bool → Option (Bool)
  | 0, _, _, _, _, _, _ => none
  | k + 1, x0, x5, x6, x7, x8, x57 => if x57 = true then (some false) else ((copselaw6_greatest.f k x0).bind fun t158 => (if x6.isNone = true then (if x5 < 1 then (copselaw6_CellsEven.j1 k x0 x5 x7 x8 (x0.length : Int) t158 true) else (copselaw6_CellsEven.j1 k x0 x5 x7 x8 (x0.length : Int) t158 (decide (x5 > (wrap64 ((x0.length : Int) - 1)))))) else (if x8.isNone = true then (if x7 < 1 then (copselaw6_CellsEven.j5 k x0 x7 (x0.length : Int) t158 true) else (copselaw6_CellsEven.j5 k x0 x7 (x0.length : Int) t158 (decide (x7 > (wrap64 ((x0.length : Int) - 2)))))) else (some true))))
def copselaw6_CellsEven.j1 : Nat → List Int → Int → Int → Option Int → Int → Int → Bool → Option (Bool)
  | 0, _, _, _, _, _, _, _ => none
  | k + 1, x0, x5, x7, x8, x10, x11, x71 => if x71 = true then (some false) else ((copselaw6_sums.f k x0 0 x5).bind fun t160 => ((copselaw6_sums.f k x0 x5 x10).bind fun t161 => ((copselaw6_apart.f t160 t161).bind fun t162 => (if t162 > x11 then (some false) else (copselaw6_CellsEven.l0 k x0 x5 x7 x8 x10 x11 t162 1)))))
def copselaw6_CellsEven.l0 : Nat → List Int → Int → Int → Option Int → Int → Int → Int → Int → Option (Bool)
  | 0, _, _, _, _, _, _, _, _ => none
  | k + 1, x0, x5, x7, x8, x10, x11, x12, x13 => if x13 < x10 then ((copselaw6_sums.f k x0 0 x13).bind fun t163 => ((copselaw6_sums.f k x0 x13 x10).bind fun t164 => ((copselaw6_apart.f t163 t164).bind fun t165 => (if t165 < x12 then (some false) else (if x13 < x5 then (if t165 = x12 then (some false) else (copselaw6_CellsEven.l0 k x0 x5 x7 x8 x10 x11 x12 (wrap64 (x13 + 1)))) else (copselaw6_CellsEven.l0 k x0 x5 x7 x8 x10 x11 x12 (wrap64 (x13 + 1)))))))) else (if x8.isNone = true then (if x7 < 1 then (copselaw6_CellsEven.j3 k x0 x7 x10 x11 true) else (copselaw6_CellsEven.j3 k x0 x7 x10 x11 (decide (x7 > (wrap64 (x10 - 2)))))) else (some true))
def copselaw6_CellsEven.j3 : Nat → List Int → Int → Int → Int → Bool → Option (Bool)
  | 0, _, _, _, _, _ => none
  | k + 1, x0, x7, x10, x11, x118 => if x118 = true then (some false) else ((copselaw6_sums.f k x0 0 x7).bind fun t167 => ((copselaw6_sums.f k x0 (wrap64 (x7 + 1)) x10).bind fun t168 => ((copselaw6_apart.f t167 t168).bind fun t169 => (if t169 > x11 then (some false) else (copselaw6_CellsEven.l1 k x0 x7 x10 t169 1)))))
def copselaw6_CellsEven.l1 : Nat → List Int → Int → Int → Int → Int → Option (Bool)
  | 0, _, _, _, _, _ => none
  | k + 1, x0, x7, x10, x15, x16 => if x16 < (wrap64 (x10 - 1)) then ((copselaw6_sums.f k x0 0 x16).bind fun t170 => ((copselaw6_sums.f k x0 (wrap64 (x16 + 1)) x10).bind fun t171 => ((copselaw6_apart.f t170 t171).bind fun t172 => (if t172 < x15 then (some false) else (if x16 < x7 then (if t172 = x15 then (some false) else (copselaw6_CellsEven.l1 k x0 x7 x10 x15 (wrap64 (x16 + 1)))) else (copselaw6_CellsEven.l1 k x0 x7 x10 x15 (wrap64 (x16 + 1)))))))) else (some true)
def copselaw6_CellsEven.j5 : Nat → List Int → Int → Int → Int → Bool → Option (Bool)
  | 0, _, _, _, _, _ => none
  | k + 1, x0, x7, x10, x11, x118 => if x118 = true then (some false) else ((copselaw6_sums.f k x0 0 x7).bind fun t174 => ((copselaw6_sums.f k x0 (wrap64 (x7 + 1)) x10).bind fun t175 => ((copselaw6_apart.f t174 t175).bind fun t176 => (if t176 > x11 then (some false) else (copselaw6_CellsEven.l1 k x0 x7 x10 t176 1)))))
end
def copselaw6_CellsEven.f (k : Nat) (l0 : List Int) : Option (Bool) := (copselaw6_begun.f k).bind fun t141 => (if t141 = true then (if ([] : List Int).length + l0.length < 17592186044416 then ((cells_Cut.f k (([] : List Int) ++ l0)).bind fun bt148 => ((cells_Pivot.f k (([] : List Int) ++ l0)).bind fun bt150 => ((copselaw6_fine.f k l0).bind fun t152 => (if bt148.2.isNone = true then (if t152 = true then (if (true != (decide ((l0.length : Int) ≥ 2))) = true then (copselaw6_CellsEven.j0 k l0 bt148.1 none bt150.1 bt150.2 true) else (if bt150.2.isNone = true then (copselaw6_CellsEven.j0 k l0 bt148.1 none bt150.1 none (true != (decide ((l0.length : Int) ≥ 3)))) else (copselaw6_CellsEven.j0 k l0 bt148.1 none bt150.1 (some (bt150.2.getD 0)) (false != (decide ((l0.length : Int) ≥ 3)))))) else (if (true != false) = true then (copselaw6_CellsEven.j0 k l0 bt148.1 none bt150.1 bt150.2 true) else (if bt150.2.isNone = true then (copselaw6_CellsEven.j0 k l0 bt148.1 none bt150.1 none (true != false)) else (copselaw6_CellsEven.j0 k l0 bt148.1 none bt150.1 (some (bt150.2.getD 0)) (false != false))))) else (if t152 = true then (if (false != (decide ((l0.length : Int) ≥ 2))) = true then (copselaw6_CellsEven.j0 k l0 bt148.1 (some (bt148.2.getD 0)) bt150.1 bt150.2 true) else (if bt150.2.isNone = true then (copselaw6_CellsEven.j0 k l0 bt148.1 (some (bt148.2.getD 0)) bt150.1 none (true != (decide ((l0.length : Int) ≥ 3)))) else (copselaw6_CellsEven.j0 k l0 bt148.1 (some (bt148.2.getD 0)) bt150.1 (some (bt150.2.getD 0)) (false != (decide ((l0.length : Int) ≥ 3)))))) else (if (false != false) = true then (copselaw6_CellsEven.j0 k l0 bt148.1 (some (bt148.2.getD 0)) bt150.1 bt150.2 true) else (if bt150.2.isNone = true then (copselaw6_CellsEven.j0 k l0 bt148.1 (some (bt148.2.getD 0)) bt150.1 none (true != false)) else (copselaw6_CellsEven.j0 k l0 bt148.1 (some (bt148.2.getD 0)) bt150.1 (some (bt150.2.getD 0)) (false != false))))))))) else (none)) else (some false))
theorem copselaw6_CellsEven.mono_l : ∀ k, (∀ y0 y1 y2 y3 y4 y5, LeO (copselaw6_CellsEven.j0 k y0 y1 y2 y3 y4 y5) (copselaw6_CellsEven.j0 (k + 1) y0 y1 y2 y3 y4 y5)) ∧ (∀ y0 y1 y2 y3 y4 y5 y6, LeO (copselaw6_CellsEven.j1 k y0 y1 y2 y3 y4 y5 y6) (copselaw6_CellsEven.j1 (k + 1) y0 y1 y2 y3 y4 y5 y6)) ∧ (∀ y0 y1 y2 y3 y4 y5 y6 y7, LeO (copselaw6_CellsEven.l0 k y0 y1 y2 y3 y4 y5 y6 y7) (copselaw6_CellsEven.l0 (k + 1) y0 y1 y2 y3 y4 y5 y6 y7)) ∧ (∀ y0 y1 y2 y3 y4, LeO (copselaw6_CellsEven.j3 k y0 y1 y2 y3 y4) (copselaw6_CellsEven.j3 (k + 1) y0 y1 y2 y3 y4)) ∧ (∀ y0 y1 y2 y3 y4, LeO (copselaw6_CellsEven.l1 k y0 y1 y2 y3 y4) (copselaw6_CellsEven.l1 (k + 1) y0 y1 y2 y3 y4)) ∧ (∀ y0 y1 y2 y3 y4, LeO (copselaw6_CellsEven.j5 k y0 y1 y2 y3 y4) (copselaw6_CellsEven.j5 (k + 1) y0 y1 y2 y3 y4))
  | 0 => ⟨fun _ _ _ _ _ _ r h => by simp [copselaw6_CellsEven.j0] at h, fun _ _ _ _ _ _ _ r h => by simp [copselaw6_CellsEven.j1] at h, fun _ _ _ _ _ _ _ _ r h => by simp [copselaw6_CellsEven.l0] at h, fun _ _ _ _ _ r h => by simp [copselaw6_CellsEven.j3] at h, fun _ _ _ _ _ r h => by simp [copselaw6_CellsEven.l1] at h, fun _ _ _ _ _ r h => by simp [copselaw6_CellsEven.j5] at h⟩
  | k + 1 => by
    obtain ⟨ih0, ih1, ih2, ih3, ih4, ih5⟩ := copselaw6_CellsEven.mono_l k
    refine ⟨?_, ?_, ?_, ?_, ?_, ?_⟩
    · intro y0 y1 y2 y3 y4 y5
      unfold copselaw6_CellsEven.j0
      repeat' first
      | (with_reducible exact ih0 _ _ _ _ _ _)
      | (with_reducible exact ih1 _ _ _ _ _ _ _)
      | (with_reducible exact ih2 _ _ _ _ _ _ _ _)
      | (with_reducible exact ih3 _ _ _ _ _)
      | (with_reducible exact ih4 _ _ _ _ _)
      | (with_reducible exact ih5 _ _ _ _ _)
      | (with_reducible exact cells_Cut.mono _ _)
      | (with_reducible exact cells_Pivot.mono _ _)
      | (with_reducible exact copselaw6_begun.mono _)
      | (with_reducible exact copselaw6_fine.mono _ _)
      | (with_reducible exact copselaw6_greatest.mono _ _)
      | (with_reducible exact copselaw6_sums.mono _ _ _ _)
      | (with_reducible exact LeO.refl _)
      | (with_reducible exact LeO.none _)
      | (with_reducible refine LeO.ite ?_ ?_)
      | (with_reducible refine LeO.bind ?_ (fun _ => ?_))
      | exact ih0 _ _ _ _ _ _
      | exact ih1 _ _ _ _ _ _ _
      | exact ih2 _ _ _ _ _ _ _ _
      | exact ih3 _ _ _ _ _
      | exact ih4 _ _ _ _ _
      | exact ih5 _ _ _ _ _
      | exact cells_Cut.mono _ _
      | exact cells_Pivot.mono _ _
      | exact copselaw6_begun.mono _
      | exact copselaw6_fine.mono _ _
      | exact copselaw6_greatest.mono _ _
      | exact copselaw6_sums.mono _ _ _ _
      | exact LeO.none _
      | refine LeO.ite ?_ ?_
      | refine LeO.bind ?_ (fun _ => ?_)
    · intro y0 y1 y2 y3 y4 y5 y6
      unfold copselaw6_CellsEven.j1
      repeat' first
      | (with_reducible exact ih0 _ _ _ _ _ _)
      | (with_reducible exact ih1 _ _ _ _ _ _ _)
      | (with_reducible exact ih2 _ _ _ _ _ _ _ _)
      | (with_reducible exact ih3 _ _ _ _ _)
      | (with_reducible exact ih4 _ _ _ _ _)
      | (with_reducible exact ih5 _ _ _ _ _)
      | (with_reducible exact cells_Cut.mono _ _)
      | (with_reducible exact cells_Pivot.mono _ _)
      | (with_reducible exact copselaw6_begun.mono _)
      | (with_reducible exact copselaw6_fine.mono _ _)
      | (with_reducible exact copselaw6_greatest.mono _ _)
      | (with_reducible exact copselaw6_sums.mono _ _ _ _)
      | (with_reducible exact LeO.refl _)
      | (with_reducible exact LeO.none _)
      | (with_reducible refine LeO.ite ?_ ?_)
      | (with_reducible refine LeO.bind ?_ (fun _ => ?_))
      | exact ih0 _ _ _ _ _ _
      | exact ih1 _ _ _ _ _ _ _
      | exact ih2 _ _ _ _ _ _ _ _
      | exact ih3 _ _ _ _ _
      | exact ih4 _ _ _ _ _
      | exact ih5 _ _ _ _ _
      | exact cells_Cut.mono _ _
      | exact cells_Pivot.mono _ _
      | exact copselaw6_begun.mono _
      | exact copselaw6_fine.mono _ _
      | exact copselaw6_greatest.mono _ _
      | exact copselaw6_sums.mono _ _ _ _
      | exact LeO.none _
      | refine LeO.ite ?_ ?_
      | refine LeO.bind ?_ (fun _ => ?_)
    · intro y0 y1 y2 y3 y4 y5 y6 y7
      unfold copselaw6_CellsEven.l0
      repeat' first
      | (with_reducible exact ih0 _ _ _ _ _ _)
      | (with_reducible exact ih1 _ _ _ _ _ _ _)
      | (with_reducible exact ih2 _ _ _ _ _ _ _ _)
      | (with_reducible exact ih3 _ _ _ _ _)
      | (with_reducible exact ih4 _ _ _ _ _)
      | (with_reducible exact ih5 _ _ _ _ _)
      | (with_reducible exact cells_Cut.mono _ _)
      | (with_reducible exact cells_Pivot.mono _ _)
      | (with_reducible exact copselaw6_begun.mono _)
      | (with_reducible exact copselaw6_fine.mono _ _)
      | (with_reducible exact copselaw6_greatest.mono _ _)
      | (with_reducible exact copselaw6_sums.mono _ _ _ _)
      | (with_reducible exact LeO.refl _)
      | (with_reducible exact LeO.none _)
      | (with_reducible refine LeO.ite ?_ ?_)
      | (with_reducible refine LeO.bind ?_ (fun _ => ?_))
      | exact ih0 _ _ _ _ _ _
      | exact ih1 _ _ _ _ _ _ _
      | exact ih2 _ _ _ _ _ _ _ _
      | exact ih3 _ _ _ _ _
      | exact ih4 _ _ _ _ _
      | exact ih5 _ _ _ _ _
      | exact cells_Cut.mono _ _
      | exact cells_Pivot.mono _ _
      | exact copselaw6_begun.mono _
      | exact copselaw6_fine.mono _ _
      | exact copselaw6_greatest.mono _ _
      | exact copselaw6_sums.mono _ _ _ _
      | exact LeO.none _
      | refine LeO.ite ?_ ?_
      | refine LeO.bind ?_ (fun _ => ?_)
    · intro y0 y1 y2 y3 y4
      unfold copselaw6_CellsEven.j3
      repeat' first
      | (with_reducible exact ih0 _ _ _ _ _ _)
      | (with_reducible exact ih1 _ _ _ _ _ _ _)
      | (with_reducible exact ih2 _ _ _ _ _ _ _ _)
      | (with_reducible exact ih3 _ _ _ _ _)
      | (with_reducible exact ih4 _ _ _ _ _)
      | (with_reducible exact ih5 _ _ _ _ _)
      | (with_reducible exact cells_Cut.mono _ _)
      | (with_reducible exact cells_Pivot.mono _ _)
      | (with_reducible exact copselaw6_begun.mono _)
      | (with_reducible exact copselaw6_fine.mono _ _)
      | (with_reducible exact copselaw6_greatest.mono _ _)
      | (with_reducible exact copselaw6_sums.mono _ _ _ _)
      | (with_reducible exact LeO.refl _)
      | (with_reducible exact LeO.none _)
      | (with_reducible refine LeO.ite ?_ ?_)
      | (with_reducible refine LeO.bind ?_ (fun _ => ?_))
      | exact ih0 _ _ _ _ _ _
      | exact ih1 _ _ _ _ _ _ _
      | exact ih2 _ _ _ _ _ _ _ _
      | exact ih3 _ _ _ _ _
      | exact ih4 _ _ _ _ _
      | exact ih5 _ _ _ _ _
      | exact cells_Cut.mono _ _
      | exact cells_Pivot.mono _ _
      | exact copselaw6_begun.mono _
      | exact copselaw6_fine.mono _ _
      | exact copselaw6_greatest.mono _ _
      | exact copselaw6_sums.mono _ _ _ _
      | exact LeO.none _
      | refine LeO.ite ?_ ?_
      | refine LeO.bind ?_ (fun _ => ?_)
    · intro y0 y1 y2 y3 y4
      unfold copselaw6_CellsEven.l1
      repeat' first
      | (with_reducible exact ih0 _ _ _ _ _ _)
      | (with_reducible exact ih1 _ _ _ _ _ _ _)
      | (with_reducible exact ih2 _ _ _ _ _ _ _ _)
      | (with_reducible exact ih3 _ _ _ _ _)
      | (with_reducible exact ih4 _ _ _ _ _)
      | (with_reducible exact ih5 _ _ _ _ _)
      | (with_reducible exact cells_Cut.mono _ _)
      | (with_reducible exact cells_Pivot.mono _ _)
      | (with_reducible exact copselaw6_begun.mono _)
      | (with_reducible exact copselaw6_fine.mono _ _)
      | (with_reducible exact copselaw6_greatest.mono _ _)
      | (with_reducible exact copselaw6_sums.mono _ _ _ _)
      | (with_reducible exact LeO.refl _)
      | (with_reducible exact LeO.none _)
      | (with_reducible refine LeO.ite ?_ ?_)
      | (with_reducible refine LeO.bind ?_ (fun _ => ?_))
      | exact ih0 _ _ _ _ _ _
      | exact ih1 _ _ _ _ _ _ _
      | exact ih2 _ _ _ _ _ _ _ _
      | exact ih3 _ _ _ _ _
      | exact ih4 _ _ _ _ _
      | exact ih5 _ _ _ _ _
      | exact cells_Cut.mono _ _
      | exact cells_Pivot.mono _ _
      | exact copselaw6_begun.mono _
      | exact copselaw6_fine.mono _ _
      | exact copselaw6_greatest.mono _ _
      | exact copselaw6_sums.mono _ _ _ _
      | exact LeO.none _
      | refine LeO.ite ?_ ?_
      | refine LeO.bind ?_ (fun _ => ?_)
    · intro y0 y1 y2 y3 y4
      unfold copselaw6_CellsEven.j5
      repeat' first
      | (with_reducible exact ih0 _ _ _ _ _ _)
      | (with_reducible exact ih1 _ _ _ _ _ _ _)
      | (with_reducible exact ih2 _ _ _ _ _ _ _ _)
      | (with_reducible exact ih3 _ _ _ _ _)
      | (with_reducible exact ih4 _ _ _ _ _)
      | (with_reducible exact ih5 _ _ _ _ _)
      | (with_reducible exact cells_Cut.mono _ _)
      | (with_reducible exact cells_Pivot.mono _ _)
      | (with_reducible exact copselaw6_begun.mono _)
      | (with_reducible exact copselaw6_fine.mono _ _)
      | (with_reducible exact copselaw6_greatest.mono _ _)
      | (with_reducible exact copselaw6_sums.mono _ _ _ _)
      | (with_reducible exact LeO.refl _)
      | (with_reducible exact LeO.none _)
      | (with_reducible refine LeO.ite ?_ ?_)
      | (with_reducible refine LeO.bind ?_ (fun _ => ?_))
      | exact ih0 _ _ _ _ _ _
      | exact ih1 _ _ _ _ _ _ _
      | exact ih2 _ _ _ _ _ _ _ _
      | exact ih3 _ _ _ _ _
      | exact ih4 _ _ _ _ _
      | exact ih5 _ _ _ _ _
      | exact cells_Cut.mono _ _
      | exact cells_Pivot.mono _ _
      | exact copselaw6_begun.mono _
      | exact copselaw6_fine.mono _ _
      | exact copselaw6_greatest.mono _ _
      | exact copselaw6_sums.mono _ _ _ _
      | exact LeO.none _
      | refine LeO.ite ?_ ?_
      | refine LeO.bind ?_ (fun _ => ?_)
theorem copselaw6_CellsEven.mono : ∀ a0 k, LeO (copselaw6_CellsEven.f k a0) (copselaw6_CellsEven.f (k + 1) a0) := by
  intro a0 k
  obtain ⟨ih0, ih1, ih2, ih3, ih4, ih5⟩ := copselaw6_CellsEven.mono_l k
  unfold copselaw6_CellsEven.f
  repeat' first
      | (with_reducible exact ih0 _ _ _ _ _ _)
      | (with_reducible exact ih1 _ _ _ _ _ _ _)
      | (with_reducible exact ih2 _ _ _ _ _ _ _ _)
      | (with_reducible exact ih3 _ _ _ _ _)
      | (with_reducible exact ih4 _ _ _ _ _)
      | (with_reducible exact ih5 _ _ _ _ _)
      | (with_reducible exact cells_Cut.mono _ _)
      | (with_reducible exact cells_Pivot.mono _ _)
      | (with_reducible exact copselaw6_begun.mono _)
      | (with_reducible exact copselaw6_fine.mono _ _)
      | (with_reducible exact copselaw6_greatest.mono _ _)
      | (with_reducible exact copselaw6_sums.mono _ _ _ _)
      | (with_reducible exact LeO.refl _)
      | (with_reducible exact LeO.none _)
      | (with_reducible refine LeO.ite ?_ ?_)
      | (with_reducible refine LeO.bind ?_ (fun _ => ?_))
      | exact ih0 _ _ _ _ _ _
      | exact ih1 _ _ _ _ _ _ _
      | exact ih2 _ _ _ _ _ _ _ _
      | exact ih3 _ _ _ _ _
      | exact ih4 _ _ _ _ _
      | exact ih5 _ _ _ _ _
      | exact cells_Cut.mono _ _
      | exact cells_Pivot.mono _ _
      | exact copselaw6_begun.mono _
      | exact copselaw6_fine.mono _ _
      | exact copselaw6_greatest.mono _ _
      | exact copselaw6_sums.mono _ _ _ _
      | exact LeO.none _
      | refine LeO.ite ?_ ?_
      | refine LeO.bind ?_ (fun _ => ?_)
set_option maxHeartbeats 8000000 in
set_option maxRecDepth 100000 in
theorem copselaw6_CellsEven.calls (k : Nat) (E : Int → Addr) (A0 : Option Addr) (c0 : Nat) (l0 : List Int) (r : Bool) (w : World) (hG : Glob E w) (hr0 : Kd.C (Kd.int .i64) w A0 l0.length l0) (hc0 : l0.length ≤ c0) (h : copselaw6_CellsEven.f k l0 = some r) :
    Calls Tryd.prog 9 #[.slice A0 l0.length c0] w fun e w' => e = .returned (.bool r) ∧ Below w.heap.size w w' := by
  have hu26 := Tryd.underlying26
  have hu62 := Tryd.underlying62
  have HR0 := Aside0.mk hr0
  have HC0 := Aside0.mk hc0
  clear hr0 hc0
  have HB := Aside0.mk (Below.refl w.heap.size w)
  have HG := Aside0.mk hG
  clear hG
  have H : ((copselaw6_begun.f k).bind fun t141 => (if t141 = true then (if ([] : List Int).length + l0.length < 17592186044416 then ((cells_Cut.f k (([] : List Int) ++ l0)).bind fun bt148 => ((cells_Pivot.f k (([] : List Int) ++ l0)).bind fun bt150 => ((copselaw6_fine.f k l0).bind fun t152 => (if bt148.2.isNone = true then (if t152 = true then (if (true != (decide ((l0.length : Int) ≥ 2))) = true then (copselaw6_CellsEven.j0 k l0 bt148.1 none bt150.1 bt150.2 true) else (if bt150.2.isNone = true then (copselaw6_CellsEven.j0 k l0 bt148.1 none bt150.1 none (true != (decide ((l0.length : Int) ≥ 3)))) else (copselaw6_CellsEven.j0 k l0 bt148.1 none bt150.1 (some (bt150.2.getD 0)) (false != (decide ((l0.length : Int) ≥ 3)))))) else (if (true != false) = true then (copselaw6_CellsEven.j0 k l0 bt148.1 none bt150.1 bt150.2 true) else (if bt150.2.isNone = true then (copselaw6_CellsEven.j0 k l0 bt148.1 none bt150.1 none (true != false)) else (copselaw6_CellsEven.j0 k l0 bt148.1 none bt150.1 (some (bt150.2.getD 0)) (false != false))))) else (if t152 = true then (if (false != (decide ((l0.length : Int) ≥ 2))) = true then (copselaw6_CellsEven.j0 k l0 bt148.1 (some (bt148.2.getD 0)) bt150.1 bt150.2 true) else (if bt150.2.isNone = true then (copselaw6_CellsEven.j0 k l0 bt148.1 (some (bt148.2.getD 0)) bt150.1 none (true != (decide ((l0.length : Int) ≥ 3)))) else (copselaw6_CellsEven.j0 k l0 bt148.1 (some (bt148.2.getD 0)) bt150.1 (some (bt150.2.getD 0)) (false != (decide ((l0.length : Int) ≥ 3)))))) else (if (false != false) = true then (copselaw6_CellsEven.j0 k l0 bt148.1 (some (bt148.2.getD 0)) bt150.1 bt150.2 true) else (if bt150.2.isNone = true then (copselaw6_CellsEven.j0 k l0 bt148.1 (some (bt148.2.getD 0)) bt150.1 none (true != false)) else (copselaw6_CellsEven.j0 k l0 bt148.1 (some (bt148.2.getD 0)) bt150.1 (some (bt150.2.getD 0)) (false != false))))))))) else (none)) else (some false))) = some r := h
  clear h
  replace H := Option.bind_eq_some_iff.mp H
  obtain ⟨t141, A20, H⟩ := H
  replace H : (if t141 = true then (if ([] : List Int).length + l0.length < 17592186044416 then ((cells_Cut.f k (([] : List Int) ++ l0)).bind fun bt148 => ((cells_Pivot.f k (([] : List Int) ++ l0)).bind fun bt150 => ((copselaw6_fine.f k l0).bind fun t152 => (if bt148.2.isNone = true then (if t152 = true then (if (true != (decide ((l0.length : Int) ≥ 2))) = true then (copselaw6_CellsEven.j0 k l0 bt148.1 none bt150.1 bt150.2 true) else (if bt150.2.isNone = true then (copselaw6_CellsEven.j0 k l0 bt148.1 none bt150.1 none (true != (decide ((l0.length : Int) ≥ 3)))) else (copselaw6_CellsEven.j0 k l0 bt148.1 none bt150.1 (some (bt150.2.getD 0)) (false != (decide ((l0.length : Int) ≥ 3)))))) else (if (true != false) = true then (copselaw6_CellsEven.j0 k l0 bt148.1 none bt150.1 bt150.2 true) else (if bt150.2.isNone = true then (copselaw6_CellsEven.j0 k l0 bt148.1 none bt150.1 none (true != false)) else (copselaw6_CellsEven.j0 k l0 bt148.1 none bt150.1 (some (bt150.2.getD 0)) (false != false))))) else (if t152 = true then (if (false != (decide ((l0.length : Int) ≥ 2))) = true then (copselaw6_CellsEven.j0 k l0 bt148.1 (some (bt148.2.getD 0)) bt150.1 bt150.2 true) else (if bt150.2.isNone = true then (copselaw6_CellsEven.j0 k l0 bt148.1 (some (bt148.2.getD 0)) bt150.1 none (true != (decide ((l0.length : Int) ≥ 3)))) else (copselaw6_CellsEven.j0 k l0 bt148.1 (some (bt148.2.getD 0)) bt150.1 (some (bt150.2.getD 0)) (false != (decide ((l0.length : Int) ≥ 3)))))) else (if (false != false) = true then (copselaw6_CellsEven.j0 k l0 bt148.1 (some (bt148.2.getD 0)) bt150.1 bt150.2 true) else (if bt150.2.isNone = true then (copselaw6_CellsEven.j0 k l0 bt148.1 (some (bt148.2.getD 0)) bt150.1 none (true != false)) else (copselaw6_CellsEven.j0 k l0 bt148.1 (some (bt148.2.getD 0)) bt150.1 (some (bt150.2.getD 0)) (false != false))))))))) else (none)) else (some false)) = some r := H
  have A2 := Aside0.mk A20
  clear A20
  by_cases c3 : t141 = true
  · subst c3
    have H1 : (if ([] : List Int).length + l0.length < 17592186044416 then ((cells_Cut.f k (([] : List Int) ++ l0)).bind fun bt148 => ((cells_Pivot.f k (([] : List Int) ++ l0)).bind fun bt150 => ((copselaw6_fine.f k l0).bind fun t152 => (if bt148.2.isNone = true then (if t152 = true then (if (true != (decide ((l0.length : Int) ≥ 2))) = true then (copselaw6_CellsEven.j0 k l0 bt148.1 none bt150.1 bt150.2 true) else (if bt150.2.isNone = true then (copselaw6_CellsEven.j0 k l0 bt148.1 none bt150.1 none (true != (decide ((l0.length : Int) ≥ 3)))) else (copselaw6_CellsEven.j0 k l0 bt148.1 none bt150.1 (some (bt150.2.getD 0)) (false != (decide ((l0.length : Int) ≥ 3)))))) else (if (true != false) = true then (copselaw6_CellsEven.j0 k l0 bt148.1 none bt150.1 bt150.2 true) else (if bt150.2.isNone = true then (copselaw6_CellsEven.j0 k l0 bt148.1 none bt150.1 none (true != false)) else (copselaw6_CellsEven.j0 k l0 bt148.1 none bt150.1 (some (bt150.2.getD 0)) (false != false))))) else (if t152 = true then (if (false != (decide ((l0.length : Int) ≥ 2))) = true then (copselaw6_CellsEven.j0 k l0 bt148.1 (some (bt148.2.getD 0)) bt150.1 bt150.2 true) else (if bt150.2.isNone = true then (copselaw6_CellsEven.j0 k l0 bt148.1 (some (bt148.2.getD 0)) bt150.1 none (true != (decide ((l0.length : Int) ≥ 3)))) else (copselaw6_CellsEven.j0 k l0 bt148.1 (some (bt148.2.getD 0)) bt150.1 (some (bt150.2.getD 0)) (false != (decide ((l0.length : Int) ≥ 3)))))) else (if (false != false) = true then (copselaw6_CellsEven.j0 k l0 bt148.1 (some (bt148.2.getD 0)) bt150.1 bt150.2 true) else (if bt150.2.isNone = true then (copselaw6_CellsEven.j0 k l0 bt148.1 (some (bt148.2.getD 0)) bt150.1 none (true != false)) else (copselaw6_CellsEven.j0 k l0 bt148.1 (some (bt148.2.getD 0)) bt150.1 (some (bt150.2.getD 0)) (false != false))))))))) else (none)) = some r := by rw [if_pos rfl] at H; exact H
    clear H
    have H := H1
    clear H1
    by_cases c4 : ([] : List Int).length + l0.length < 17592186044416
    · rw [if_pos c4] at H
      have LMc4 := Aside0.mk c4
      clear c4
      obtain ⟨y142, hy142⟩ : ∃ y_ : List Int, y_ = (([] : List Int) ++ l0) := ⟨_, rfl⟩
      replace H : ((cells_Cut.f k y142).bind fun bt148 => ((cells_Pivot.f k (([] : List Int) ++ l0)).bind fun bt150 => ((copselaw6_fine.f k l0).bind fun t152 => (if bt148.2.isNone = true then (if t152 = true then (if (true != (decide ((l0.length : Int) ≥ 2))) = true then (copselaw6_CellsEven.j0 k l0 bt148.1 none bt150.1 bt150.2 true) else (if bt150.2.isNone = true then (copselaw6_CellsEven.j0 k l0 bt148.1 none bt150.1 none (true != (decide ((l0.length : Int) ≥ 3)))) else (copselaw6_CellsEven.j0 k l0 bt148.1 none bt150.1 (some (bt150.2.getD 0)) (false != (decide ((l0.length : Int) ≥ 3)))))) else (if (true != false) = true then (copselaw6_CellsEven.j0 k l0 bt148.1 none bt150.1 bt150.2 true) else (if bt150.2.isNone = true then (copselaw6_CellsEven.j0 k l0 bt148.1 none bt150.1 none (true != false)) else (copselaw6_CellsEven.j0 k l0 bt148.1 none bt150.1 (some (bt150.2.getD 0)) (false != false))))) else (if t152 = true then (if (false != (decide ((l0.length : Int) ≥ 2))) = true then (copselaw6_CellsEven.j0 k l0 bt148.1 (some (bt148.2.getD 0)) bt150.1 bt150.2 true) else (if bt150.2.isNone = true then (copselaw6_CellsEven.j0 k l0 bt148.1 (some (bt148.2.getD 0)) bt150.1 none (true != (decide ((l0.length : Int) ≥ 3)))) else (copselaw6_CellsEven.j0 k l0 bt148.1 (some (bt148.2.getD 0)) bt150.1 (some (bt150.2.getD 0)) (false != (decide ((l0.length : Int) ≥ 3)))))) else (if (false != false) = true then (copselaw6_CellsEven.j0 k l0 bt148.1 (some (bt148.2.getD 0)) bt150.1 bt150.2 true) else (if bt150.2.isNone = true then (copselaw6_CellsEven.j0 k l0 bt148.1 (some (bt148.2.getD 0)) bt150.1 none (true != false)) else (copselaw6_CellsEven.j0 k l0 bt148.1 (some (bt148.2.getD 0)) bt150.1 (some (bt150.2.getD 0)) (false != false))))))))) = some r := by first | (rw [hy142]; with_reducible exact H) | (have H2_ := (Option.bind_some _ _).symm.trans H; rw [hy142]; with_reducible exact H2_) | (have H2_ := (Option.bind_some _ _).symm.trans H; with_reducible exact H2_) | with_reducible exact H | (rw [hy142]; exact H) | exact H
      have Ny142 := Aside0.mk hy142
      clear hy142
      obtain ⟨y145, hy145⟩ : ∃ y_ : List Int, y_ = (([] : List Int) ++ l0) := ⟨_, rfl⟩
      replace H : ((cells_Cut.f k y142).bind fun bt148 => ((cells_Pivot.f k y145).bind fun bt150 => ((copselaw6_fine.f k l0).bind fun t152 => (if bt148.2.isNone = true then (if t152 = true then (if (true != (decide ((l0.length : Int) ≥ 2))) = true then (copselaw6_CellsEven.j0 k l0 bt148.1 none bt150.1 bt150.2 true) else (if bt150.2.isNone = true then (copselaw6_CellsEven.j0 k l0 bt148.1 none bt150.1 none (true != (decide ((l0.length : Int) ≥ 3)))) else (copselaw6_CellsEven.j0 k l0 bt148.1 none bt150.1 (some (bt150.2.getD 0)) (false != (decide ((l0.length : Int) ≥ 3)))))) else (if (true != false) = true then (copselaw6_CellsEven.j0 k l0 bt148.1 none bt150.1 bt150.2 true) else (if bt150.2.isNone = true then (copselaw6_CellsEven.j0 k l0 bt148.1 none bt150.1 none (true != false)) else (copselaw6_CellsEven.j0 k l0 bt148.1 none bt150.1 (some (bt150.2.getD 0)) (false != false))))) else (if t152 = true then (if (false != (decide ((l0.length : Int) ≥ 2))) = true then (copselaw6_CellsEven.j0 k l0 bt148.1 (some (bt148.2.getD 0)) bt150.1 bt150.2 true) else (if bt150.2.isNone = true then (copselaw6_CellsEven.j0 k l0 bt148.1 (some (bt148.2.getD 0)) bt150.1 none (true != (decide ((l0.length : Int) ≥ 3)))) else (copselaw6_CellsEven.j0 k l0 bt148.1 (some (bt148.2.getD 0)) bt150.1 (some (bt150.2.getD 0)) (false != (decide ((l0.length : Int) ≥ 3)))))) else (if (false != false) = true then (copselaw6_CellsEven.j0 k l0 bt148.1 (some (bt148.2.getD 0)) bt150.1 bt150.2 true) else (if bt150.2.isNone = true then (copselaw6_CellsEven.j0 k l0 bt148.1 (some (bt148.2.getD 0)) bt150.1 none (true != false)) else (copselaw6_CellsEven.j0 k l0 bt148.1 (some (bt148.2.getD 0)) bt150.1 (some (bt150.2.getD 0)) (false != false))))))))) = some r := by first | (rw [hy145]; with_reducible exact H) | (have H2_ := (Option.bind_some _ _).symm.trans H; rw [hy145]; with_reducible exact H2_) | (have H2_ := (Option.bind_some _ _).symm.trans H; with_reducible exact H2_) | with_reducible exact H | (rw [hy145]; exact H) | exact H
      have Ny145 := Aside0.mk hy145
      clear hy145
      first | (have YEy145 := Aside0.mk (Ny145.out.trans Ny142.out.symm)) | skip
      replace H := Option.bind_eq_some_iff.mp H
      obtain ⟨⟨t148, t149⟩, A50, H⟩ := H
      replace H : ((cells_Pivot.f k y145).bind fun bt150 => ((copselaw6_fine.f k l0).bind fun t152 => (if t149.isNone = true then (if t152 = true then (if (true != (decide ((l0.length : Int) ≥ 2))) = true then (copselaw6_CellsEven.j0 k l0 t148 none bt150.1 bt150.2 true) else (if bt150.2.isNone = true then (copselaw6_CellsEven.j0 k l0 t148 none bt150.1 none (true != (decide ((l0.length : Int) ≥ 3)))) else (copselaw6_CellsEven.j0 k l0 t148 none bt150.1 (some (bt150.2.getD 0)) (false != (decide ((l0.length : Int) ≥ 3)))))) else (if (true != false) = true then (copselaw6_CellsEven.j0 k l0 t148 none bt150.1 bt150.2 true) else (if bt150.2.isNone = true then (copselaw6_CellsEven.j0 k l0 t148 none bt150.1 none (true != false)) else (copselaw6_CellsEven.j0 k l0 t148 none bt150.1 (some (bt150.2.getD 0)) (false != false))))) else (if t152 = true then (if (false != (decide ((l0.length : Int) ≥ 2))) = true then (copselaw6_CellsEven.j0 k l0 t148 (some (t149.getD 0)) bt150.1 bt150.2 true) else (if bt150.2.isNone = true then (copselaw6_CellsEven.j0 k l0 t148 (some (t149.getD 0)) bt150.1 none (true != (decide ((l0.length : Int) ≥ 3)))) else (copselaw6_CellsEven.j0 k l0 t148 (some (t149.getD 0)) bt150.1 (some (bt150.2.getD 0)) (false != (decide ((l0.length : Int) ≥ 3)))))) else (if (false != false) = true then (copselaw6_CellsEven.j0 k l0 t148 (some (t149.getD 0)) bt150.1 bt150.2 true) else (if bt150.2.isNone = true then (copselaw6_CellsEven.j0 k l0 t148 (some (t149.getD 0)) bt150.1 none (true != false)) else (copselaw6_CellsEven.j0 k l0 t148 (some (t149.getD 0)) bt150.1 (some (bt150.2.getD 0)) (false != false)))))))) = some r := H
      have A5 := Aside0.mk A50
      clear A50
      replace H := Option.bind_eq_some_iff.mp H
      obtain ⟨⟨t150, t151⟩, A60, H⟩ := H
      replace H : ((copselaw6_fine.f k l0).bind fun t152 => (if t149.isNone = true then (if t152 = true then (if (true != (decide ((l0.length : Int) ≥ 2))) = true then (copselaw6_CellsEven.j0 k l0 t148 none t150 t151 true) else (if t151.isNone = true then (copselaw6_CellsEven.j0 k l0 t148 none t150 none (true != (decide ((l0.length : Int) ≥ 3)))) else (copselaw6_CellsEven.j0 k l0 t148 none t150 (some (t151.getD 0)) (false != (decide ((l0.length : Int) ≥ 3)))))) else (if (true != false) = true then (copselaw6_CellsEven.j0 k l0 t148 none t150 t151 true) else (if t151.isNone = true then (copselaw6_CellsEven.j0 k l0 t148 none t150 none (true != false)) else (copselaw6_CellsEven.j0 k l0 t148 none t150 (some (t151.getD 0)) (false != false))))) else (if t152 = true then (if (false != (decide ((l0.length : Int) ≥ 2))) = true then (copselaw6_CellsEven.j0 k l0 t148 (some (t149.getD 0)) t150 t151 true) else (if t151.isNone = true then (copselaw6_CellsEven.j0 k l0 t148 (some (t149.getD 0)) t150 none (true != (decide ((l0.length : Int) ≥ 3)))) else (copselaw6_CellsEven.j0 k l0 t148 (some (t149.getD 0)) t150 (some (t151.getD 0)) (false != (decide ((l0.length : Int) ≥ 3)))))) else (if (false != false) = true then (copselaw6_CellsEven.j0 k l0 t148 (some (t149.getD 0)) t150 t151 true) else (if t151.isNone = true then (copselaw6_CellsEven.j0 k l0 t148 (some (t149.getD 0)) t150 none (true != false)) else (copselaw6_CellsEven.j0 k l0 t148 (some (t149.getD 0)) t150 (some (t151.getD 0)) (false != false))))))) = some r := H
      have A6 := Aside0.mk A60
      clear A60
      replace H := Option.bind_eq_some_iff.mp H
      obtain ⟨t152, A70, H⟩ := H
      replace H : (if t149.isNone = true then (if t152 = true then (if (true != (decide ((l0.length : Int) ≥ 2))) = true then (copselaw6_CellsEven.j0 k l0 t148 none t150 t151 true) else (if t151.isNone = true then (copselaw6_CellsEven.j0 k l0 t148 none t150 none (true != (decide ((l0.length : Int) ≥ 3)))) else (copselaw6_CellsEven.j0 k l0 t148 none t150 (some (t151.getD 0)) (false != (decide ((l0.length : Int) ≥ 3)))))) else (if (true != false) = true then (copselaw6_CellsEven.j0 k l0 t148 none t150 t151 true) else (if t151.isNone = true then (copselaw6_CellsEven.j0 k l0 t148 none t150 none (true != false)) else (copselaw6_CellsEven.j0 k l0 t148 none t150 (some (t151.getD 0)) (false != false))))) else (if t152 = true then (if (false != (decide ((l0.length : Int) ≥ 2))) = true then (copselaw6_CellsEven.j0 k l0 t148 (some (t149.getD 0)) t150 t151 true) else (if t151.isNone = true then (copselaw6_CellsEven.j0 k l0 t148 (some (t149.getD 0)) t150 none (true != (decide ((l0.length : Int) ≥ 3)))) else (copselaw6_CellsEven.j0 k l0 t148 (some (t149.getD 0)) t150 (some (t151.getD 0)) (false != (decide ((l0.length : Int) ≥ 3)))))) else (if (false != false) = true then (copselaw6_CellsEven.j0 k l0 t148 (some (t149.getD 0)) t150 t151 true) else (if t151.isNone = true then (copselaw6_CellsEven.j0 k l0 t148 (some (t149.getD 0)) t150 none (true != false)) else (copselaw6_CellsEven.j0 k l0 t148 (some (t149.getD 0)) t150 (some (t151.getD 0)) (false != false)))))) = some r := H
      have A7 := Aside0.mk A70
      clear A70
      have HC8 := Aside0.mk H
      clear H
      go_enter Tryd.func9, Tryd.ntmps9
      go_upto_region 9 with (first | ((with_reducible refine gate_callee (f := 26) rfl ?_); refine goesL_ (some 18) rfl rfl Tryd.func26 (by kernel_rfl) rfl #[] rfl (by (try simp only [List.map_toArray, List.map_cons, List.map_nil]); first | done | rfl | (simp only [List.length_drop, List.length_take]; rfl) | (simp only [YEy145.out]; rfl)) ?_; (with_reducible refine (copselaw6_begun.calls k E  true _ ?side1 A2.out).mono ?_); (case side1 => exact (Glob.below HG.out (by repeat (first | (with_reducible first | exact HB.out | apply below_alloc | apply pw_below_drewN | apply below_drew1) | exact HB.out)))); rintro e w9 ⟨rfl, hb⟩; refine ⟨_, rfl, ?_⟩; have n0_ := Aside0.mk (below_step (by repeat (first | (with_reducible first | exact HB.out | apply below_alloc | apply pw_below_drewN | apply below_drew1) | exact HB.out)) hb); clear HB; have HB := n0_; clear n0_; (try clear hb); (try clear hb2); (try clear hk); (try clear hi)) | ((with_reducible refine gate_builtin (b := .append) (xs := #[.tmp 20, .tmp 21]) rfl ?_); (try (refine gate_guard (by rfl) ?_; dsimp only)); at_builtin; refine Kd.R_append_rows (Kd.int .i64) (w0 := w) w.heap.size rfl (.tmp 20) (.tmp 21) 43 3 (.int .i64 0) 8 rfl Tryd.underlying43 info3 rfl (by decide) (by omega) (.slice none 0 0) ([] : List Int) l0 _ _ _ (fun _ => True) (fun _ => False) rfl rfl ?aO ?aR (fun _ _ h => h) (fun _ h => h.elim) ?aF ?aB ?aS ?aL ?_; (case aR => repeat (first | exact (Kd.C_below HR0.out HB.out) | (with_reducible refine Kd.C_alloc ?_ _) | (with_reducible refine Kd.C_drewN ?_ _) | (with_reducible refine Kd.C_drew ?_))); (case aB => exact (by repeat (first | (with_reducible first | exact HB.out | apply below_alloc | apply pw_below_drewN | apply below_drew1) | exact HB.out))); (case aF => exact (fun _ _ => trivial)); (case aO => exact ((Kd.R_nil _ _ _ _ (fun _ => True)))); (case aS => exact (below_size (by repeat (first | (with_reducible first | exact HB.out | apply below_alloc | apply pw_below_drewN | apply below_drew1) | exact HB.out)))); (case aL => have := LMc4.out; omega); intro v143 w10 ho hb hg hat; rw [← Ny142.out] at ho; have n0_ := Aside0.mk (hb); have n1_ := Aside0.mk (ho); clear HB; have HB := n0_; have HO144 := n1_; clear n0_ n1_; clear ho hb hg hat) | ((with_reducible refine gate_builtin (b := .append) (xs := #[.tmp 23, .tmp 24]) rfl ?_); (try (refine gate_guard (by rfl) ?_; dsimp only)); at_builtin; refine Kd.R_append_rows (Kd.int .i64) (w0 := w) w.heap.size rfl (.tmp 23) (.tmp 24) 43 3 (.int .i64 0) 8 rfl Tryd.underlying43 info3 rfl (by decide) (by omega) (.slice none 0 0) ([] : List Int) l0 _ _ _ (fun k_ => some k_ ≠ (v143 : Value).ownBlock) (fun _ => False) rfl rfl ?aO ?aR (fun _ _ h => h) (fun _ h => h.elim) ?aF ?aB ?aS ?aL ?_; (case aR => repeat (first | exact (Kd.C_below HR0.out HB.out) | (with_reducible refine Kd.C_alloc ?_ _) | (with_reducible refine Kd.C_drewN ?_ _) | (with_reducible refine Kd.C_drew ?_))); (case aB => exact (by repeat (first | (with_reducible first | exact HB.out | apply below_alloc | apply pw_below_drewN | apply below_drew1) | exact HB.out))); (case aF => exact (fun k_ hk => Kd.fresh' (Kd.R_lt (by (with_reducible repeat (first | apply Kd.R_alloc | apply Kd.R_drewN | apply Kd.R_drew)); exact HO144.out)) k_ hk)); (case aO => exact ((Kd.R_nil _ _ _ _ (fun k_ => some k_ ≠ (v143 : Value).ownBlock)))); (case aS => exact (below_size (by repeat (first | (with_reducible first | exact HB.out | apply below_alloc | apply pw_below_drewN | apply below_drew1) | exact HB.out)))); (case aL => have := LMc4.out; omega); intro v146 w11 ho hb hg hat; rw [← Ny145.out] at ho; have n0_ := Aside0.mk (Kd.R_after (Kd.R_apart_nil (by (with_reducible repeat (first | apply Kd.R_alloc | apply Kd.R_drewN | apply Kd.R_drew)); exact HO144.out)) hg hat); have n1_ := Aside0.mk (hb); have n2_ := Aside0.mk (ho); clear HO144; clear HB; have HO144 := n0_; have HB := n1_; have HO147 := n2_; clear n0_ n1_ n2_; clear ho hb hg hat; obtain ⟨Ao12, co12, eo12⟩ := Kd.R_slice HO144.out; subst eo12) | ((with_reducible refine gate_callee (f := 21) rfl ?_); refine goesL_ (some 28) rfl rfl Tryd.func21 (by kernel_rfl) rfl #[.slice Ao12 y142.length co12] rfl (by (try simp only [List.map_toArray, List.map_cons, List.map_nil]); first | done | rfl | (simp only [List.length_drop, List.length_take]; rfl) | (simp only [YEy145.out]; rfl)) ?_; (with_reducible refine (cells_Cut.calls k E _ _ y142 t148 t149 _ ?side1 ?side2 ?side3 A5.out).mono ?_); (case side1 => exact (Glob.below HG.out (by repeat (first | (with_reducible first | exact HB.out | apply below_alloc | apply pw_below_drewN | apply below_drew1) | exact HB.out)))); (case side2 => repeat (first | exact (Kd.R_reads' HO144.out).2.2 | (with_reducible refine Kd.C_alloc ?_ _) | (with_reducible refine Kd.C_drewN ?_ _) | (with_reducible refine Kd.C_drew ?_))); (case side3 => exact (Kd.R_reads' HO144.out).2.1); rintro e w13 ⟨rfl, hb⟩; refine ⟨_, rfl, ?_⟩; have n0_ := Aside0.mk (Kd.R_below (by (with_reducible repeat (first | apply Kd.R_alloc | apply Kd.R_drewN | apply Kd.R_drew)); exact HO144.out) hb); have n1_ := Aside0.mk (Kd.R_below (by (with_reducible repeat (first | apply Kd.R_alloc | apply Kd.R_drewN | apply Kd.R_drew)); exact HO147.out) hb); have n2_ := Aside0.mk (below_step (by repeat (first | (with_reducible first | exact HB.out | apply below_alloc | apply pw_below_drewN | apply below_drew1) | exact HB.out)) hb); clear HO144; clear HO147; clear HB; have HO144 := n0_; have HO147 := n1_; have HB := n2_; clear n0_ n1_ n2_; (try clear hb); (try clear hb2); (try clear hk); (try clear hi); (try simp only [errW_none, errW_some]); obtain ⟨Ao14, co14, eo14⟩ := Kd.R_slice HO147.out; subst eo14) | ((with_reducible refine gate_callee (f := 22) rfl ?_); refine goesL_ (some 33) rfl rfl Tryd.func22 (by kernel_rfl) rfl #[.slice Ao14 y145.length co14] rfl (by (try simp only [List.map_toArray, List.map_cons, List.map_nil]); first | done | rfl | (simp only [List.length_drop, List.length_take]; rfl) | (simp only [YEy145.out]; rfl)) ?_; (with_reducible refine (cells_Pivot.calls k E _ _ y145 t150 t151 _ ?side1 ?side2 ?side3 A6.out).mono ?_); (case side1 => exact (Glob.below HG.out (by repeat (first | (with_reducible first | exact HB.out | apply below_alloc | apply pw_below_drewN | apply below_drew1) | exact HB.out)))); (case side2 => repeat (first | exact (Kd.R_reads' HO147.out).2.2 | (with_reducible refine Kd.C_alloc ?_ _) | (with_reducible refine Kd.C_drewN ?_ _) | (with_reducible refine Kd.C_drew ?_))); (case side3 => exact (Kd.R_reads' HO147.out).2.1); rintro e w15 ⟨rfl, hb⟩; refine ⟨_, rfl, ?_⟩; have n0_ := Aside0.mk (Kd.R_below (by (with_reducible repeat (first | apply Kd.R_alloc | apply Kd.R_drewN | apply Kd.R_drew)); exact HO144.out) hb); have n1_ := Aside0.mk (Kd.R_below (by (with_reducible repeat (first | apply Kd.R_alloc | apply Kd.R_drewN | apply Kd.R_drew)); exact HO147.out) hb); have n2_ := Aside0.mk (below_step (by repeat (first | (with_reducible first | exact HB.out | apply below_alloc | apply pw_below_drewN | apply below_drew1) | exact HB.out)) hb); clear HO144; clear HO147; clear HB; have HO144 := n0_; have HO147 := n1_; have HB := n2_; clear n0_ n1_ n2_; (try clear hb); (try clear hb2); (try clear hk); (try clear hi); (try simp only [errW_none, errW_some])) | ((with_reducible refine gate_callee (f := 27) rfl ?_); refine goesL_ (some 37) rfl rfl Tryd.func27 (by kernel_rfl) rfl #[.slice A0 l0.length c0] rfl (by (try simp only [List.map_toArray, List.map_cons, List.map_nil]); first | done | rfl | (simp only [List.length_drop, List.length_take]; rfl) | (simp only [YEy145.out]; rfl)) ?_; (with_reducible refine (copselaw6_fine.calls k _ _ l0 t152 _ ?side1 ?side2 A7.out).mono ?_); (case side1 => repeat (first | exact (Kd.C_below HR0.out HB.out) | (with_reducible refine Kd.C_alloc ?_ _) | (with_reducible refine Kd.C_drewN ?_ _) | (with_reducible refine Kd.C_drew ?_))); (case side2 => exact HC0.out); rintro e w' ⟨rfl, ⟨nd, rfl⟩⟩; refine ⟨_, rfl, ?_⟩))
      (try simp only [Act.put, List.setIfInBounds_toArray, List.set_cons_zero, List.set_cons_succ])
      go_cut [57] (fun v57 wc => ∃ (kq : Nat) (x57_7 : Bool), v57 = .bool x57_7 ∧ Aside0 (copselaw6_CellsEven.j0 kq l0 t148 t149 t150 t151 x57_7 = some r) ∧ Aside0 (kq ≤ k) ∧ Aside0 (Below w.heap.size w wc))
      case first =>
        have H := HC8.out
        clear HC8
        rcases t149 with _ | q153
        · have H1 : (if t152 = true then (if (true != (decide ((l0.length : Int) ≥ 2))) = true then (copselaw6_CellsEven.j0 k l0 t148 none t150 t151 true) else (if t151.isNone = true then (copselaw6_CellsEven.j0 k l0 t148 none t150 none (true != (decide ((l0.length : Int) ≥ 3)))) else (copselaw6_CellsEven.j0 k l0 t148 none t150 (some (t151.getD 0)) (false != (decide ((l0.length : Int) ≥ 3)))))) else (if (true != false) = true then (copselaw6_CellsEven.j0 k l0 t148 none t150 t151 true) else (if t151.isNone = true then (copselaw6_CellsEven.j0 k l0 t148 none t150 none (true != false)) else (copselaw6_CellsEven.j0 k l0 t148 none t150 (some (t151.getD 0)) (false != false))))) = some r := by rw [if_pos (show (none : Option Int).isNone = true by rfl)] at H; exact H
          clear H
          have H := H1
          clear H1
          try simp only [errW_none, errW_some]
          by_cases c16 : t152 = true
          · subst c16
            have H1 : (if (true != (decide ((l0.length : Int) ≥ 2))) = true then (copselaw6_CellsEven.j0 k l0 t148 none t150 t151 true) else (if t151.isNone = true then (copselaw6_CellsEven.j0 k l0 t148 none t150 none (true != (decide ((l0.length : Int) ≥ 3)))) else (copselaw6_CellsEven.j0 k l0 t148 none t150 (some (t151.getD 0)) (false != (decide ((l0.length : Int) ≥ 3)))))) = some r := by rw [if_pos rfl] at H; exact H
            clear H
            have H := H1
            clear H1
            by_cases c17 : (true != (decide ((l0.length : Int) ≥ 2))) = true
            · rw [if_pos c17] at H
              have c17b0 : (true != (decide ((l0.length : Int) ≥ 2))) = true := c17
              (try (have c17b1 : decide (true = (decide ((l0.length : Int) ≥ 2))) = false := by simpa using c17))
              (try (have c17b2 : (true == (decide ((l0.length : Int) ≥ 2))) = false := by simpa using c17))
              (try (have c17b3 : ¬ (true = (decide ((l0.length : Int) ≥ 2))) := by simpa using c17))
              clear c17
              (first | rw [c17b0] | (simp only [i64_w, i32_w]; rw [c17b0]) | skip)
              have H' := Aside0.mk H
              clear H
              go_wp2
              go_meet
              case rel => exact ⟨_, (true), (by first | rfl | (simp; done) | (simp [*]; done)), H', ⟨by first | omega | exact Nat.le_refl _⟩, ⟨by repeat (first | (with_reducible first | exact HB.out | apply below_alloc | apply pw_below_drewN | apply below_drew1) | exact HB.out)⟩⟩
            · rw [if_neg c17] at H
              have c17b0 : (true != (decide ((l0.length : Int) ≥ 2))) = false := by simpa using c17
              (try (have c17b1 : decide (true = (decide ((l0.length : Int) ≥ 2))) = true := by simpa using c17))
              (try (have c17b2 : (true == (decide ((l0.length : Int) ≥ 2))) = true := by simpa using c17))
              clear c17
              (first | rw [c17b0] | (simp only [i64_w, i32_w]; rw [c17b0]) | skip)
              rcases t151 with _ | q154
              · have H1 : (copselaw6_CellsEven.j0 k l0 t148 none t150 none (true != (decide ((l0.length : Int) ≥ 3)))) = some r := by rw [if_pos (show (none : Option Int).isNone = true by rfl)] at H; exact H
                clear H
                have H := H1
                clear H1
                try simp only [errW_none, errW_some]
                have H' := Aside0.mk H
                clear H
                go_wp2
                go_meet
                case rel => exact ⟨_, ((true != (decide ((l0.length : Int) ≥ 3)))), (by first | rfl | (simp; done) | (simp [*]; done)), H', ⟨by first | omega | exact Nat.le_refl _⟩, ⟨by repeat (first | (with_reducible first | exact HB.out | apply below_alloc | apply pw_below_drewN | apply below_drew1) | exact HB.out)⟩⟩
              · have H1 : (copselaw6_CellsEven.j0 k l0 t148 none t150 (some q154) (false != (decide ((l0.length : Int) ≥ 3)))) = some r := by rw [if_neg (show ¬ (some q154).isNone = true by simp)] at H; exact H
                clear H
                have H := H1
                clear H1
                try simp only [errW_none, errW_some]
                have H' := Aside0.mk H
                clear H
                go_wp2
                go_meet
                case rel => exact ⟨_, ((false != (decide ((l0.length : Int) ≥ 3)))), (by first | rfl | (simp; done) | (simp [*]; done)), H', ⟨by first | omega | exact Nat.le_refl _⟩, ⟨by repeat (first | (with_reducible first | exact HB.out | apply below_alloc | apply pw_below_drewN | apply below_drew1) | exact HB.out)⟩⟩
          · replace c16 := Bool.eq_false_iff.mpr c16
            subst c16
            have H1 : (if (true != false) = true then (copselaw6_CellsEven.j0 k l0 t148 none t150 t151 true) else (if t151.isNone = true then (copselaw6_CellsEven.j0 k l0 t148 none t150 none (true != false)) else (copselaw6_CellsEven.j0 k l0 t148 none t150 (some (t151.getD 0)) (false != false)))) = some r := by rw [if_neg (show ¬ (false = true) by decide)] at H; exact H
            clear H
            have H := H1
            clear H1
            by_cases c18 : (true != false) = true
            · rw [if_pos c18] at H
              have c18b0 : (true != false) = true := c18
              (try (have c18b1 : decide (true = false) = false := by simpa using c18))
              (try (have c18b2 : (true == false) = false := by simpa using c18))
              (try (have c18b3 : ¬ (true = false) := by simpa using c18))
              clear c18
              have H' := Aside0.mk H
              clear H
              go_wp2
              go_meet
              case rel => exact ⟨_, (true), (by first | rfl | (simp; done) | (simp [*]; done)), H', ⟨by first | omega | exact Nat.le_refl _⟩, ⟨by repeat (first | (with_reducible first | exact HB.out | apply below_alloc | apply pw_below_drewN | apply below_drew1) | exact HB.out)⟩⟩
            · exact absurd (by decide) c18
        · have H1 : (if t152 = true then (if (false != (decide ((l0.length : Int) ≥ 2))) = true then (copselaw6_CellsEven.j0 k l0 t148 (some q153) t150 t151 true) else (if t151.isNone = true then (copselaw6_CellsEven.j0 k l0 t148 (some q153) t150 none (true != (decide ((l0.length : Int) ≥ 3)))) else (copselaw6_CellsEven.j0 k l0 t148 (some q153) t150 (some (t151.getD 0)) (false != (decide ((l0.length : Int) ≥ 3)))))) else (if (false != false) = true then (copselaw6_CellsEven.j0 k l0 t148 (some q153) t150 t151 true) else (if t151.isNone = true then (copselaw6_CellsEven.j0 k l0 t148 (some q153) t150 none (true != false)) else (copselaw6_CellsEven.j0 k l0 t148 (some q153) t150 (some (t151.getD 0)) (false != false))))) = some r := by rw [if_neg (show ¬ (some q153).isNone = true by simp)] at H; exact H
          clear H
          have H := H1
          clear H1
          try simp only [errW_none, errW_some]
          by_cases c19 : t152 = true
          · subst c19
            have H1 : (if (false != (decide ((l0.length : Int) ≥ 2))) = true then (copselaw6_CellsEven.j0 k l0 t148 (some q153) t150 t151 true) else (if t151.isNone = true then (copselaw6_CellsEven.j0 k l0 t148 (some q153) t150 none (true != (decide ((l0.length : Int) ≥ 3)))) else (copselaw6_CellsEven.j0 k l0 t148 (some q153) t150 (some (t151.getD 0)) (false != (decide ((l0.length : Int) ≥ 3)))))) = some r := by rw [if_pos rfl] at H; exact H
            clear H
            have H := H1
            clear H1
            by_cases c20 : (false != (decide ((l0.length : Int) ≥ 2))) = true
            · rw [if_pos c20] at H
              have c20b0 : (false != (decide ((l0.length : Int) ≥ 2))) = true := c20
              (try (have c20b1 : decide (false = (decide ((l0.length : Int) ≥ 2))) = false := by simpa using c20))
              (try (have c20b2 : (false == (decide ((l0.length : Int) ≥ 2))) = false := by simpa using c20))
              (try (have c20b3 : ¬ (false = (decide ((l0.length : Int) ≥ 2))) := by simpa using c20))
              clear c20
              have H' := Aside0.mk H
              clear H
              go_wp2
              go_meet
              case rel => exact ⟨_, (true), (by first | rfl | (simp; done) | (simp [*]; done)), H', ⟨by first | omega | exact Nat.le_refl _⟩, ⟨by repeat (first | (with_reducible first | exact HB.out | apply below_alloc | apply pw_below_drewN | apply below_drew1) | exact HB.out)⟩⟩
            · rw [if_neg c20] at H
              have c20b0 : (false != (decide ((l0.length : Int) ≥ 2))) = false := by simpa using c20
              (try (have c20b1 : decide (false = (decide ((l0.length : Int) ≥ 2))) = true := by simpa using c20))
              (try (have c20b2 : (false == (decide ((l0.length : Int) ≥ 2))) = true := by simpa using c20))
              clear c20
              rcases t151 with _ | q156
              · have H1 : (copselaw6_CellsEven.j0 k l0 t148 (some q153) t150 none (true != (decide ((l0.length : Int) ≥ 3)))) = some r := by rw [if_pos (show (none : Option Int).isNone = true by rfl)] at H; exact H
                clear H
                have H := H1
                clear H1
                try simp only [errW_none, errW_some]
                have H' := Aside0.mk H
                clear H
                go_wp2
                go_meet
                case rel => exact ⟨_, ((true != (decide ((l0.length : Int) ≥ 3)))), (by first | rfl | (simp; done) | (simp [*]; done)), H', ⟨by first | omega | exact Nat.le_refl _⟩, ⟨by repeat (first | (with_reducible first | exact HB.out | apply below_alloc | apply pw_below_drewN | apply below_drew1) | exact HB.out)⟩⟩
              · have H1 : (copselaw6_CellsEven.j0 k l0 t148 (some q153) t150 (some q156) (false != (decide ((l0.length : Int) ≥ 3)))) = some r := by rw [if_neg (show ¬ (some q156).isNone = true by simp)] at H; exact H
                clear H
                have H := H1
                clear H1
                try simp only [errW_none, errW_some]
                have H' := Aside0.mk H
                clear H
                go_wp2
                go_meet
                case rel => exact ⟨_, ((false != (decide ((l0.length : Int) ≥ 3)))), (by first | rfl | (simp; done) | (simp [*]; done)), H', ⟨by first | omega | exact Nat.le_refl _⟩, ⟨by repeat (first | (with_reducible first | exact HB.out | apply below_alloc | apply pw_below_drewN | apply below_drew1) | exact HB.out)⟩⟩
          · replace c19 := Bool.eq_false_iff.mpr c19
            subst c19
            have H1 : (if (false != false) = true then (copselaw6_CellsEven.j0 k l0 t148 (some q153) t150 t151 true) else (if t151.isNone = true then (copselaw6_CellsEven.j0 k l0 t148 (some q153) t150 none (true != false)) else (copselaw6_CellsEven.j0 k l0 t148 (some q153) t150 (some (t151.getD 0)) (false != false)))) = some r := by rw [if_neg (show ¬ (false = true) by decide)] at H; exact H
            clear H
            have H := H1
            clear H1
            by_cases c21 : (false != false) = true
            · exact absurd c21 (by decide)
            · rw [if_neg c21] at H
              have c21b0 : (false != false) = false := by simpa using c21
              (try (have c21b1 : decide (false = false) = true := by simpa using c21))
              (try (have c21b2 : (false == false) = true := by simpa using c21))
              clear c21
              rcases t151 with _ | q157
              · have H1 : (copselaw6_CellsEven.j0 k l0 t148 (some q153) t150 none (true != false)) = some r := by rw [if_pos (show (none : Option Int).isNone = true by rfl)] at H; exact H
                clear H
                have H := H1
                clear H1
                try simp only [errW_none, errW_some]
                have H' := Aside0.mk H
                clear H
                go_wp2
                go_meet
                case rel => exact ⟨_, ((true != false)), (by first | rfl | (simp; done) | (simp [*]; done)), H', ⟨by first | omega | exact Nat.le_refl _⟩, ⟨by repeat (first | (with_reducible first | exact HB.out | apply below_alloc | apply pw_below_drewN | apply below_drew1) | exact HB.out)⟩⟩
              · have H1 : (copselaw6_CellsEven.j0 k l0 t148 (some q153) t150 (some q157) (false != false)) = some r := by rw [if_neg (show ¬ (some q157).isNone = true by simp)] at H; exact H
                clear H
                have H := H1
                clear H1
                try simp only [errW_none, errW_some]
                have H' := Aside0.mk H
                clear H
                go_wp2
                go_meet
                case rel => exact ⟨_, ((false != false)), (by first | rfl | (simp; done) | (simp [*]; done)), H', ⟨by first | omega | exact Nat.le_refl _⟩, ⟨by repeat (first | (with_reducible first | exact HB.out | apply below_alloc | apply pw_below_drewN | apply below_drew1) | exact HB.out)⟩⟩
      case rest =>
        clear HC8
        try clear c1
        try clear q1
        try clear c2
        try clear p2
        try clear c3
        try clear c4
        try clear c9
        try clear q15
        try clear c16
        try clear c17
        try clear c17b0
        try clear c17b1
        try clear c17b2
        try clear c18
        try clear c18b0
        try clear c18b1
        try clear c18b2
        try clear c19
        try clear c20
        try clear c20b0
        try clear c20b1
        try clear c20b2
        try clear c21
        try clear c21b0
        try clear c21b1
        try clear c21b2
        try clear q153
        try clear q154
        try clear q155
        try clear q156
        try clear q157
        obtain ⟨kq, x57_7, rfl, HA, HJ7, HB⟩ := hcut
        cases kq with
        | zero => exact absurd HA.out (by simp [copselaw6_CellsEven.j0])
        | succ kj7 =>
          have H := HA.out
          clear HA
          simp only [copselaw6_CellsEven.j0] at H
          by_cases c22 : x57_7 = true
          · subst c22
            have H1 : (some false) = some r := by rw [if_pos rfl] at H; exact H
            clear H
            have H := H1
            clear H1
            obtain rfl := Option.some.inj H
            go_wp2
            go_ret
            exact ⟨by first | rfl | (simp [errW_none, errW_some] <;> rfl) | (simp [*, errW_none, errW_some] <;> rfl), by repeat (first | (with_reducible first | exact HB.out | apply below_alloc | apply pw_below_drewN | apply below_drew1) | exact HB.out)⟩
          · replace c22 := Bool.eq_false_iff.mpr c22
            subst c22
            have H1 : ((copselaw6_greatest.f kj7 l0).bind fun t158 => (if t149.isNone = true then (if t148 < 1 then (copselaw6_CellsEven.j1 kj7 l0 t148 t150 t151 (l0.length : Int) t158 true) else (copselaw6_CellsEven.j1 kj7 l0 t148 t150 t151 (l0.length : Int) t158 (decide (t148 > (wrap64 ((l0.length : Int) - 1)))))) else (if t151.isNone = true then (if t150 < 1 then (copselaw6_CellsEven.j5 kj7 l0 t150 (l0.length : Int) t158 true) else (copselaw6_CellsEven.j5 kj7 l0 t150 (l0.length : Int) t158 (decide (t150 > (wrap64 ((l0.length : Int) - 2)))))) else (some true)))) = some r := by rw [if_neg (show ¬ (false = true) by decide)] at H; exact H
            clear H
            have H := H1
            clear H1
            replace H := Option.bind_eq_some_iff.mp H
            obtain ⟨t158, A230, H⟩ := H
            replace H : (if t149.isNone = true then (if t148 < 1 then (copselaw6_CellsEven.j1 kj7 l0 t148 t150 t151 (l0.length : Int) t158 true) else (copselaw6_CellsEven.j1 kj7 l0 t148 t150 t151 (l0.length : Int) t158 (decide (t148 > (wrap64 ((l0.length : Int) - 1)))))) else (if t151.isNone = true then (if t150 < 1 then (copselaw6_CellsEven.j5 kj7 l0 t150 (l0.length : Int) t158 true) else (copselaw6_CellsEven.j5 kj7 l0 t150 (l0.length : Int) t158 (decide (t150 > (wrap64 ((l0.length : Int) - 2)))))) else (some true))) = some r := H
            have A23 := Aside0.mk A230
            clear A230
            rcases t149 with _ | q159
            · have H1 : (if t148 < 1 then (copselaw6_CellsEven.j1 kj7 l0 t148 t150 t151 (l0.length : Int) t158 true) else (copselaw6_CellsEven.j1 kj7 l0 t148 t150 t151 (l0.length : Int) t158 (decide (t148 > (wrap64 ((l0.length : Int) - 1)))))) = some r := by rw [if_pos (show (none : Option Int).isNone = true by rfl)] at H; exact H
              clear H
              have H := H1
              clear H1
              try simp only [errW_none, errW_some]
              have HC24 := Aside0.mk H
              clear H
              go_upto_region 14 with (first | ((with_reducible refine gate_callee (f := 28) rfl ?_); refine goesL_ (some 61) rfl rfl Tryd.func28 (by kernel_rfl) rfl #[.slice A0 l0.length c0] rfl (by (try simp only [List.map_toArray, List.map_cons, List.map_nil]); first | done | rfl | (simp only [List.length_drop, List.length_take]; rfl)) ?_; (with_reducible refine (copselaw6_greatest.calls kj7 _ _ l0 t158 _ ?side1 ?side2 A23.out).mono ?_); (case side1 => repeat (first | exact (Kd.C_below HR0.out HB.out) | (with_reducible refine Kd.C_alloc ?_ _) | (with_reducible refine Kd.C_drewN ?_ _) | (with_reducible refine Kd.C_drew ?_))); (case side2 => exact HC0.out); rintro e w' ⟨rfl, ⟨nd, rfl⟩⟩; refine ⟨_, rfl, ?_⟩))
              (try simp only [Act.put, List.setIfInBounds_toArray, List.set_cons_zero, List.set_cons_succ])
              go_cut [71] (fun v71 wc => ∃ (kq : Nat) (x71_23 : Bool), v71 = .bool x71_23 ∧ Aside0 (copselaw6_CellsEven.j1 kq l0 t148 t150 t151 (l0.length : Int) t158 x71_23 = some r) ∧ Aside0 (kq ≤ kj7) ∧ Aside0 (Below w.heap.size w wc))
              case first =>
                have H := HC24.out
                clear HC24
                by_cases c25 : t148 < 1
                · rw [if_pos c25] at H
                  have c25b0 : decide (t148 < 1) = true := decide_eq_true c25
                  clear c25
                  (first | rw [c25b0] | (simp only [i64_w, i32_w]; rw [c25b0]) | skip)
                  have H' := Aside0.mk H
                  clear H
                  go_wp2
                  go_meet
                  case rel => exact ⟨_, (true), (by first | rfl | (simp; done) | (simp [*]; done)), H', ⟨by have := HJ7.out; first | omega | exact Nat.le_refl _⟩, ⟨by repeat (first | (with_reducible first | exact HB.out | apply below_alloc | apply pw_below_drewN | apply below_drew1) | exact HB.out)⟩⟩
                · rw [if_neg c25] at H
                  have c25b0 : decide (t148 < 1) = false := decide_eq_false c25
                  clear c25
                  (first | rw [c25b0] | (simp only [i64_w, i32_w]; rw [c25b0]) | skip)
                  have H' := Aside0.mk H
                  clear H
                  go_wp2
                  go_meet
                  case rel => exact ⟨_, (decide (t148 > (wrap64 ((l0.length : Int) - 1)))), (by first | rfl | (simp; done) | (simp [*]; done)), H', ⟨by have := HJ7.out; first | omega | exact Nat.le_refl _⟩, ⟨by repeat (first | (with_reducible first | exact HB.out | apply below_alloc | apply pw_below_drewN | apply below_drew1) | exact HB.out)⟩⟩
              case rest =>
                clear HC24
                try clear c1
                try clear q1
                try clear c2
                try clear p2
                try clear c3
                try clear c4
                try clear p6
                try clear c9
                try clear q15
                try clear c16
                try clear c17
                try clear c17b0
                try clear c17b1
                try clear c17b2
                try clear c18
                try clear c18b0
                try clear c18b1
                try clear c18b2
                try clear c19
                try clear c20
                try clear c20b0
                try clear c20b1
                try clear c20b2
                try clear c21
                try clear c21b0
                try clear c21b1
                try clear c21b2
                try clear c22
                try clear c25
                try clear c25b0
                try clear p2
                try clear q1
                try clear q15
                try clear q153
                try clear q154
                try clear q155
                try clear q156
                try clear q157
                try clear q159
                obtain ⟨kq, x71_23, rfl, HA, HJ23, HB⟩ := hcut
                cases kq with
                | zero => exact absurd HA.out (by simp [copselaw6_CellsEven.j1])
                | succ kj23 =>
                  have H := HA.out
                  clear HA
                  simp only [copselaw6_CellsEven.j1] at H
                  by_cases c26 : x71_23 = true
                  · subst c26
                    have H1 : (some false) = some r := by rw [if_pos rfl] at H; exact H
                    clear H
                    have H := H1
                    clear H1
                    obtain rfl := Option.some.inj H
                    go_wp2
                    go_ret
                    exact ⟨by first | rfl | (simp [errW_none, errW_some] <;> rfl) | (simp [*, errW_none, errW_some] <;> rfl), by repeat (first | (with_reducible first | exact HB.out | apply below_alloc | apply pw_below_drewN | apply below_drew1) | exact HB.out)⟩
                  · replace c26 := Bool.eq_false_iff.mpr c26
                    subst c26
                    have H1 : ((copselaw6_sums.f kj23 l0 0 t148).bind fun t160 => ((copselaw6_sums.f kj23 l0 t148 (l0.length : Int)).bind fun t161 => ((copselaw6_apart.f t160 t161).bind fun t162 => (if t162 > t158 then (some false) else (copselaw6_CellsEven.l0 kj23 l0 t148 t150 t151 (l0.length : Int) t158 t162 1))))) = some r := by rw [if_neg (show ¬ (false = true) by decide)] at H; exact H
                    clear H
                    have H := H1
                    clear H1
                    replace H := Option.bind_eq_some_iff.mp H
                    obtain ⟨t160, A270, H⟩ := H
                    replace H : ((copselaw6_sums.f kj23 l0 t148 (l0.length : Int)).bind fun t161 => ((copselaw6_apart.f t160 t161).bind fun t162 => (if t162 > t158 then (some false) else (copselaw6_CellsEven.l0 kj23 l0 t148 t150 t151 (l0.length : Int) t158 t162 1)))) = some r := H
                    have A27 := Aside0.mk A270
                    clear A270
                    replace H := Option.bind_eq_some_iff.mp H
                    obtain ⟨t161, A280, H⟩ := H
                    replace H : ((copselaw6_apart.f t160 t161).bind fun t162 => (if t162 > t158 then (some false) else (copselaw6_CellsEven.l0 kj23 l0 t148 t150 t151 (l0.length : Int) t158 t162 1))) = some r := H
                    have A28 := Aside0.mk A280
                    clear A280
                    replace H := Option.bind_eq_some_iff.mp H
                    obtain ⟨t162, A290, H⟩ := H
                    replace H : (if t162 > t158 then (some false) else (copselaw6_CellsEven.l0 kj23 l0 t148 t150 t151 (l0.length : Int) t158 t162 1)) = some r := H
                    have A29 := Aside0.mk A290
                    clear A290
                    by_cases c30 : t162 > t158
                    · rw [if_pos c30] at H
                      have c30b0 : decide (t158 < t162) = true := decide_eq_true c30
                      clear c30
                      obtain rfl := Option.some.inj H
                      go_wp2_with (first | ((with_reducible refine gate_callee (f := 30) rfl ?_); refine goesL_ (some 74) rfl rfl Tryd.func30 (by kernel_rfl) rfl #[.slice A0 l0.length c0, .int .i64 0, .int .i64 t148] rfl (by (try simp only [List.map_toArray, List.map_cons, List.map_nil]); first | done | rfl | (simp only [List.length_drop, List.length_take]; rfl)) ?_; (with_reducible refine (copselaw6_sums.calls kj23 _ _ l0 0 t148 t160 _ ?side1 ?side2 A27.out).mono ?_); (case side1 => repeat (first | exact (Kd.C_below HR0.out HB.out) | (with_reducible refine Kd.C_alloc ?_ _) | (with_reducible refine Kd.C_drewN ?_ _) | (with_reducible refine Kd.C_drew ?_))); (case side2 => exact HC0.out); rintro e w' ⟨rfl, ⟨nd, rfl⟩⟩; refine ⟨_, rfl, ?_⟩) | ((with_reducible refine gate_callee (f := 30) rfl ?_); refine goesL_ (some 78) rfl rfl Tryd.func30 (by kernel_rfl) rfl #[.slice A0 l0.length c0, .int .i64 t148, .int .i64 (l0.length : Int)] rfl (by (try simp only [List.map_toArray, List.map_cons, List.map_nil]); first | done | rfl | (simp only [List.length_drop, List.length_take]; rfl)) ?_; (with_reducible refine (copselaw6_sums.calls kj23 _ _ l0 t148 (l0.length : Int) t161 _ ?side1 ?side2 A28.out).mono ?_); (case side1 => repeat (first | exact (Kd.C_below HR0.out (by repeat (first | (with_reducible first | exact HB.out | apply below_alloc | apply pw_below_drewN | apply below_drew1) | exact HB.out))) | (with_reducible refine Kd.C_alloc ?_ _) | (with_reducible refine Kd.C_drewN ?_ _) | (with_reducible refine Kd.C_drew ?_))); (case side2 => exact HC0.out); rintro e w' ⟨rfl, ⟨nd, rfl⟩⟩; refine ⟨_, rfl, ?_⟩) | ((with_reducible refine gate_callee (f := 29) rfl ?_); refine goesL_ (some 79) rfl rfl Tryd.func29 (by kernel_rfl) rfl #[.int .i64 t160, .int .i64 t161] rfl (by (try simp only [List.map_toArray, List.map_cons, List.map_nil]); first | done | rfl | (simp only [List.length_drop, List.length_take]; rfl)) ?_; (with_reducible refine (copselaw6_apart.calls t160 t161 t162 _ A29.out).mono ?_); rintro e w' ⟨rfl, ⟨nd, rfl⟩⟩; refine ⟨_, rfl, ?_⟩))
                      go_ret
                      exact ⟨by first | rfl | (simp [errW_none, errW_some] <;> rfl) | (simp [*, errW_none, errW_some] <;> rfl), by repeat (first | (with_reducible first | exact HB.out | apply below_alloc | apply pw_below_drewN | apply below_drew1) | exact HB.out)⟩
                    · rw [if_neg c30] at H
                      have c30b0 : decide (t158 < t162) = false := decide_eq_false c30
                      clear c30
                      have H' := Aside0.mk H
                      clear H
                      go_wp2_with (first | ((with_reducible refine gate_callee (f := 30) rfl ?_); refine goesL_ (some 74) rfl rfl Tryd.func30 (by kernel_rfl) rfl #[.slice A0 l0.length c0, .int .i64 0, .int .i64 t148] rfl (by (try simp only [List.map_toArray, List.map_cons, List.map_nil]); first | done | rfl | (simp only [List.length_drop, List.length_take]; rfl)) ?_; (with_reducible refine (copselaw6_sums.calls kj23 _ _ l0 0 t148 t160 _ ?side1 ?side2 A27.out).mono ?_); (case side1 => repeat (first | exact (Kd.C_below HR0.out HB.out) | (with_reducible refine Kd.C_alloc ?_ _) | (with_reducible refine Kd.C_drewN ?_ _) | (with_reducible refine Kd.C_drew ?_))); (case side2 => exact HC0.out); rintro e w' ⟨rfl, ⟨nd, rfl⟩⟩; refine ⟨_, rfl, ?_⟩) | ((with_reducible refine gate_callee (f := 30) rfl ?_); refine goesL_ (some 78) rfl rfl Tryd.func30 (by kernel_rfl) rfl #[.slice A0 l0.length c0, .int .i64 t148, .int .i64 (l0.length : Int)] rfl (by (try simp only [List.map_toArray, List.map_cons, List.map_nil]); first | done | rfl | (simp only [List.length_drop, List.length_take]; rfl)) ?_; (with_reducible refine (copselaw6_sums.calls kj23 _ _ l0 t148 (l0.length : Int) t161 _ ?side1 ?side2 A28.out).mono ?_); (case side1 => repeat (first | exact (Kd.C_below HR0.out (by repeat (first | (with_reducible first | exact HB.out | apply below_alloc | apply pw_below_drewN | apply below_drew1) | exact HB.out))) | (with_reducible refine Kd.C_alloc ?_ _) | (with_reducible refine Kd.C_drewN ?_ _) | (with_reducible refine Kd.C_drew ?_))); (case side2 => exact HC0.out); rintro e w' ⟨rfl, ⟨nd, rfl⟩⟩; refine ⟨_, rfl, ?_⟩) | ((with_reducible refine gate_callee (f := 29) rfl ?_); refine goesL_ (some 79) rfl rfl Tryd.func29 (by kernel_rfl) rfl #[.int .i64 t160, .int .i64 t161] rfl (by (try simp only [List.map_toArray, List.map_cons, List.map_nil]); first | done | rfl | (simp only [List.length_drop, List.length_take]; rfl)) ?_; (with_reducible refine (copselaw6_apart.calls t160 t161 t162 _ A29.out).mono ?_); rintro e w' ⟨rfl, ⟨nd, rfl⟩⟩; refine ⟨_, rfl, ?_⟩))
                      go_loopg [13] kj23 (fun kq v13 w' => ∃ (x13_3 : Int), v13 = .int .i64 x13_3 ∧ Aside0 (copselaw6_CellsEven.l0 kq l0 t148 t150 t151 (l0.length : Int) t158 t162 x13_3 = some r) ∧ Aside0 (kq ≤ kj23) ∧ Aside0 (Below w.heap.size w w'))
                      case atStart => exact ⟨(1), (by first | rfl | (simp; done) | (simp [*]; done)), H', ⟨Nat.le_refl _⟩, ⟨by repeat (first | (with_reducible first | exact HB.out | apply below_alloc | apply pw_below_drewN | apply below_drew1) | exact HB.out)⟩⟩
                      case round =>
                        clear H'
                        try clear c1
                        try clear q1
                        try clear c2
                        try clear p2
                        try clear c3
                        try clear c4
                        try clear p6
                        try clear c9
                        try clear q15
                        try clear c16
                        try clear c17
                        try clear c17b0
                        try clear c17b1
                        try clear c17b2
                        try clear c18
                        try clear c18b0
                        try clear c18b1
                        try clear c18b2
                        try clear c19
                        try clear c20
                        try clear c20b0
                        try clear c20b1
                        try clear c20b2
                        try clear c21
                        try clear c21b0
                        try clear c21b1
                        try clear c21b2
                        try clear c22
                        try clear c25
                        try clear c25b0
                        try clear c26
                        try clear c27
                        try clear c28
                        try clear c29
                        try clear c30
                        try clear c30b0
                        try clear p2
                        try clear p6
                        try clear q1
                        try clear q15
                        try clear q153
                        try clear q154
                        try clear q155
                        try clear q156
                        try clear q157
                        try clear q159
                        obtain ⟨x13_3, rfl, HA, HK3, HB⟩ := hrel
                        cases gk with
                        | zero => exact absurd HA.out (by simp [copselaw6_CellsEven.l0])
                        | succ k3 =>
                          have H := HA.out
                          clear HA
                          simp only [copselaw6_CellsEven.l0] at H
                          by_cases c31 : x13_3 < (l0.length : Int)
                          · rw [if_pos c31] at H
                            have c31b0 : decide (x13_3 < (l0.length : Int)) = true := decide_eq_true c31
                            clear c31
                            replace H := Option.bind_eq_some_iff.mp H
                            obtain ⟨t163, A320, H⟩ := H
                            replace H : ((copselaw6_sums.f k3 l0 x13_3 (l0.length : Int)).bind fun t164 => ((copselaw6_apart.f t163 t164).bind fun t165 => (if t165 < t162 then (some false) else (if x13_3 < t148 then (if t165 = t162 then (some false) else (copselaw6_CellsEven.l0 k3 l0 t148 t150 t151 (l0.length : Int) t158 t162 (wrap64 (x13_3 + 1)))) else (copselaw6_CellsEven.l0 k3 l0 t148 t150 t151 (l0.length : Int) t158 t162 (wrap64 (x13_3 + 1))))))) = some r := H
                            have A32 := Aside0.mk A320
                            clear A320
                            replace H := Option.bind_eq_some_iff.mp H
                            obtain ⟨t164, A330, H⟩ := H
                            replace H : ((copselaw6_apart.f t163 t164).bind fun t165 => (if t165 < t162 then (some false) else (if x13_3 < t148 then (if t165 = t162 then (some false) else (copselaw6_CellsEven.l0 k3 l0 t148 t150 t151 (l0.length : Int) t158 t162 (wrap64 (x13_3 + 1)))) else (copselaw6_CellsEven.l0 k3 l0 t148 t150 t151 (l0.length : Int) t158 t162 (wrap64 (x13_3 + 1)))))) = some r := H
                            have A33 := Aside0.mk A330
                            clear A330
                            replace H := Option.bind_eq_some_iff.mp H
                            obtain ⟨t165, A340, H⟩ := H
                            replace H : (if t165 < t162 then (some false) else (if x13_3 < t148 then (if t165 = t162 then (some false) else (copselaw6_CellsEven.l0 k3 l0 t148 t150 t151 (l0.length : Int) t158 t162 (wrap64 (x13_3 + 1)))) else (copselaw6_CellsEven.l0 k3 l0 t148 t150 t151 (l0.length : Int) t158 t162 (wrap64 (x13_3 + 1))))) = some r := H
                            have A34 := Aside0.mk A340
                            clear A340
                            by_cases c35 : t165 < t162
                            · rw [if_pos c35] at H
                              have c35b0 : decide (t165 < t162) = true := decide_eq_true c35
                              clear c35
                              obtain rfl := Option.some.inj H
                              go_wp2_with (first | ((with_reducible refine gate_callee (f := 30) rfl ?_); refine goesL_ (some 90) rfl rfl Tryd.func30 (by kernel_rfl) rfl #[.slice A0 l0.length c0, .int .i64 0, .int .i64 x13_3] rfl (by (try simp only [List.map_toArray, List.map_cons, List.map_nil]); first | done | rfl | (simp only [List.length_drop, List.length_take]; rfl)) ?_; (with_reducible refine (copselaw6_sums.calls k3 _ _ l0 0 x13_3 t163 _ ?side1 ?side2 A32.out).mono ?_); (case side1 => repeat (first | exact (Kd.C_below HR0.out HB.out) | (with_reducible refine Kd.C_alloc ?_ _) | (with_reducible refine Kd.C_drewN ?_ _) | (with_reducible refine Kd.C_drew ?_))); (case side2 => exact HC0.out); rintro e w' ⟨rfl, ⟨nd, rfl⟩⟩; refine ⟨_, rfl, ?_⟩) | ((with_reducible refine gate_callee (f := 30) rfl ?_); refine goesL_ (some 94) rfl rfl Tryd.func30 (by kernel_rfl) rfl #[.slice A0 l0.length c0, .int .i64 x13_3, .int .i64 (l0.length : Int)] rfl (by (try simp only [List.map_toArray, List.map_cons, List.map_nil]); first | done | rfl | (simp only [List.length_drop, List.length_take]; rfl)) ?_; (with_reducible refine (copselaw6_sums.calls k3 _ _ l0 x13_3 (l0.length : Int) t164 _ ?side1 ?side2 A33.out).mono ?_); (case side1 => repeat (first | exact (Kd.C_below HR0.out (by repeat (first | (with_reducible first | exact HB.out | apply below_alloc | apply pw_below_drewN | apply below_drew1) | exact HB.out))) | (with_reducible refine Kd.C_alloc ?_ _) | (with_reducible refine Kd.C_drewN ?_ _) | (with_reducible refine Kd.C_drew ?_))); (case side2 => exact HC0.out); rintro e w' ⟨rfl, ⟨nd, rfl⟩⟩; refine ⟨_, rfl, ?_⟩) | ((with_reducible refine gate_callee (f := 29) rfl ?_); refine goesL_ (some 95) rfl rfl Tryd.func29 (by kernel_rfl) rfl #[.int .i64 t163, .int .i64 t164] rfl (by (try simp only [List.map_toArray, List.map_cons, List.map_nil]); first | done | rfl | (simp only [List.length_drop, List.length_take]; rfl)) ?_; (with_reducible refine (copselaw6_apart.calls t163 t164 t165 _ A34.out).mono ?_); rintro e w' ⟨rfl, ⟨nd, rfl⟩⟩; refine ⟨_, rfl, ?_⟩))
                              go_ret
                              exact ⟨by first | rfl | (simp [errW_none, errW_some] <;> rfl) | (simp [*, errW_none, errW_some] <;> rfl), by repeat (first | (with_reducible first | exact HB.out | apply below_alloc | apply pw_below_drewN | apply below_drew1) | exact HB.out)⟩
                            · rw [if_neg c35] at H
                              have c35b0 : decide (t165 < t162) = false := decide_eq_false c35
                              clear c35
                              by_cases c36 : x13_3 < t148
                              · rw [if_pos c36] at H
                                have c36b0 : decide (x13_3 < t148) = true := decide_eq_true c36
                                clear c36
                                by_cases c37 : t165 = t162
                                · rw [if_pos c37] at H
                                  have c37b0 : (t165 == t162) = true := beq_iff_eq.mpr c37
                                  have c37b1 : (t165 != t162) = false := bne_eq_false_iff_eq.mpr c37
                                  clear c37
                                  obtain rfl := Option.some.inj H
                                  go_wp2_with (first | ((with_reducible refine gate_callee (f := 30) rfl ?_); refine goesL_ (some 90) rfl rfl Tryd.func30 (by kernel_rfl) rfl #[.slice A0 l0.length c0, .int .i64 0, .int .i64 x13_3] rfl (by (try simp only [List.map_toArray, List.map_cons, List.map_nil]); first | done | rfl | (simp only [List.length_drop, List.length_take]; rfl)) ?_; (with_reducible refine (copselaw6_sums.calls k3 _ _ l0 0 x13_3 t163 _ ?side1 ?side2 A32.out).mono ?_); (case side1 => repeat (first | exact (Kd.C_below HR0.out HB.out) | (with_reducible refine Kd.C_alloc ?_ _) | (with_reducible refine Kd.C_drewN ?_ _) | (with_reducible refine Kd.C_drew ?_))); (case side2 => exact HC0.out); rintro e w' ⟨rfl, ⟨nd, rfl⟩⟩; refine ⟨_, rfl, ?_⟩) | ((with_reducible refine gate_callee (f := 30) rfl ?_); refine goesL_ (some 94) rfl rfl Tryd.func30 (by kernel_rfl) rfl #[.slice A0 l0.length c0, .int .i64 x13_3, .int .i64 (l0.length : Int)] rfl (by (try simp only [List.map_toArray, List.map_cons, List.map_nil]); first | done | rfl | (simp only [List.length_drop, List.length_take]; rfl)) ?_; (with_reducible refine (copselaw6_sums.calls k3 _ _ l0 x13_3 (l0.length : Int) t164 _ ?side1 ?side2 A33.out).mono ?_); (case side1 => repeat (first | exact (Kd.C_below HR0.out (by repeat (first | (with_reducible first | exact HB.out | apply below_alloc | apply pw_below_drewN | apply below_drew1) | exact HB.out))) | (with_reducible refine Kd.C_alloc ?_ _) | (with_reducible refine Kd.C_drewN ?_ _) | (with_reducible refine Kd.C_drew ?_))); (case side2 => exact HC0.out); rintro e w' ⟨rfl, ⟨nd, rfl⟩⟩; refine ⟨_, rfl, ?_⟩) | ((with_reducible refine gate_callee (f := 29) rfl ?_); refine goesL_ (some 95) rfl rfl Tryd.func29 (by kernel_rfl) rfl #[.int .i64 t163, .int .i64 t164] rfl (by (try simp only [List.map_toArray, List.map_cons, List.map_nil]); first | done | rfl | (simp only [List.length_drop, List.length_take]; rfl)) ?_; (with_reducible refine (copselaw6_apart.calls t163 t164 t165 _ A34.out).mono ?_); rintro e w' ⟨rfl, ⟨nd, rfl⟩⟩; refine ⟨_, rfl, ?_⟩))
                                  go_ret
                                  exact ⟨by first | rfl | (simp [errW_none, errW_some] <;> rfl) | (simp [*, errW_none, errW_some] <;> rfl), by repeat (first | (with_reducible first | exact HB.out | apply below_alloc | apply pw_below_drewN | apply below_drew1) | exact HB.out)⟩
                                · rw [if_neg c37] at H
                                  have c37b0 : (t165 == t162) = false := beq_eq_false_iff_ne.mpr c37
                                  have c37b1 : (t165 != t162) = true := bne_iff_ne.mpr c37
                                  have H' := Aside0.mk H
                                  clear H
                                  go_wp2_with (first | ((with_reducible refine gate_callee (f := 30) rfl ?_); refine goesL_ (some 90) rfl rfl Tryd.func30 (by kernel_rfl) rfl #[.slice A0 l0.length c0, .int .i64 0, .int .i64 x13_3] rfl (by (try simp only [List.map_toArray, List.map_cons, List.map_nil]); first | done | rfl | (simp only [List.length_drop, List.length_take]; rfl)) ?_; (with_reducible refine (copselaw6_sums.calls k3 _ _ l0 0 x13_3 t163 _ ?side1 ?side2 A32.out).mono ?_); (case side1 => repeat (first | exact (Kd.C_below HR0.out HB.out) | (with_reducible refine Kd.C_alloc ?_ _) | (with_reducible refine Kd.C_drewN ?_ _) | (with_reducible refine Kd.C_drew ?_))); (case side2 => exact HC0.out); rintro e w' ⟨rfl, ⟨nd, rfl⟩⟩; refine ⟨_, rfl, ?_⟩) | ((with_reducible refine gate_callee (f := 30) rfl ?_); refine goesL_ (some 94) rfl rfl Tryd.func30 (by kernel_rfl) rfl #[.slice A0 l0.length c0, .int .i64 x13_3, .int .i64 (l0.length : Int)] rfl (by (try simp only [List.map_toArray, List.map_cons, List.map_nil]); first | done | rfl | (simp only [List.length_drop, List.length_take]; rfl)) ?_; (with_reducible refine (copselaw6_sums.calls k3 _ _ l0 x13_3 (l0.length : Int) t164 _ ?side1 ?side2 A33.out).mono ?_); (case side1 => repeat (first | exact (Kd.C_below HR0.out (by repeat (first | (with_reducible first | exact HB.out | apply below_alloc | apply pw_below_drewN | apply below_drew1) | exact HB.out))) | (with_reducible refine Kd.C_alloc ?_ _) | (with_reducible refine Kd.C_drewN ?_ _) | (with_reducible refine Kd.C_drew ?_))); (case side2 => exact HC0.out); rintro e w' ⟨rfl, ⟨nd, rfl⟩⟩; refine ⟨_, rfl, ?_⟩) | ((with_reducible refine gate_callee (f := 29) rfl ?_); refine goesL_ (some 95) rfl rfl Tryd.func29 (by kernel_rfl) rfl #[.int .i64 t163, .int .i64 t164] rfl (by (try simp only [List.map_toArray, List.map_cons, List.map_nil]); first | done | rfl | (simp only [List.length_drop, List.length_take]; rfl)) ?_; (with_reducible refine (copselaw6_apart.calls t163 t164 t165 _ A34.out).mono ?_); rintro e w' ⟨rfl, ⟨nd, rfl⟩⟩; refine ⟨_, rfl, ?_⟩))
                                  go_roundg k3
                                  case measure => have := HJ7.out; have := HJ23.out; have := HK3.out; omega
                                  case rel => exact ⟨(wrap64 (x13_3 + 1)), (by first | rfl | (simp; done) | (simp [*]; done)), H', ⟨by have := HJ7.out; have := HJ23.out; have := HK3.out; omega⟩, ⟨by repeat (first | (with_reducible first | exact HB.out | apply below_alloc | apply pw_below_drewN | apply below_drew1) | exact HB.out)⟩⟩
                              · rw [if_neg c36] at H
                                have c36b0 : decide (x13_3 < t148) = false := decide_eq_false c36
                                clear c36
                                have H' := Aside0.mk H
                                clear H
                                go_wp2_with (first | ((with_reducible refine gate_callee (f := 30) rfl ?_); refine goesL_ (some 90) rfl rfl Tryd.func30 (by kernel_rfl) rfl #[.slice A0 l0.length c0, .int .i64 0, .int .i64 x13_3] rfl (by (try simp only [List.map_toArray, List.map_cons, List.map_nil]); first | done | rfl | (simp only [List.length_drop, List.length_take]; rfl)) ?_; (with_reducible refine (copselaw6_sums.calls k3 _ _ l0 0 x13_3 t163 _ ?side1 ?side2 A32.out).mono ?_); (case side1 => repeat (first | exact (Kd.C_below HR0.out HB.out) | (with_reducible refine Kd.C_alloc ?_ _) | (with_reducible refine Kd.C_drewN ?_ _) | (with_reducible refine Kd.C_drew ?_))); (case side2 => exact HC0.out); rintro e w' ⟨rfl, ⟨nd, rfl⟩⟩; refine ⟨_, rfl, ?_⟩) | ((with_reducible refine gate_callee (f := 30) rfl ?_); refine goesL_ (some 94) rfl rfl Tryd.func30 (by kernel_rfl) rfl #[.slice A0 l0.length c0, .int .i64 x13_3, .int .i64 (l0.length : Int)] rfl (by (try simp only [List.map_toArray, List.map_cons, List.map_nil]); first | done | rfl | (simp only [List.length_drop, List.length_take]; rfl)) ?_; (with_reducible refine (copselaw6_sums.calls k3 _ _ l0 x13_3 (l0.length : Int) t164 _ ?side1 ?side2 A33.out).mono ?_); (case side1 => repeat (first | exact (Kd.C_below HR0.out (by repeat (first | (with_reducible first | exact HB.out | apply below_alloc | apply pw_below_drewN | apply below_drew1) | exact HB.out))) | (with_reducible refine Kd.C_alloc ?_ _) | (with_reducible refine Kd.C_drewN ?_ _) | (with_reducible refine Kd.C_drew ?_))); (case side2 => exact HC0.out); rintro e w' ⟨rfl, ⟨nd, rfl⟩⟩; refine ⟨_, rfl, ?_⟩) | ((with_reducible refine gate_callee (f := 29) rfl ?_); refine goesL_ (some 95) rfl rfl Tryd.func29 (by kernel_rfl) rfl #[.int .i64 t163, .int .i64 t164] rfl (by (try simp only [List.map_toArray, List.map_cons, List.map_nil]); first | done | rfl | (simp only [List.length_drop, List.length_take]; rfl)) ?_; (with_reducible refine (copselaw6_apart.calls t163 t164 t165 _ A34.out).mono ?_); rintro e w' ⟨rfl, ⟨nd, rfl⟩⟩; refine ⟨_, rfl, ?_⟩))
                                go_roundg k3
                                case measure => have := HJ7.out; have := HJ23.out; have := HK3.out; omega
                                case rel => exact ⟨(wrap64 (x13_3 + 1)), (by first | rfl | (simp; done) | (simp [*]; done)), H', ⟨by have := HJ7.out; have := HJ23.out; have := HK3.out; omega⟩, ⟨by repeat (first | (with_reducible first | exact HB.out | apply below_alloc | apply pw_below_drewN | apply below_drew1) | exact HB.out)⟩⟩
                          · rw [if_neg c31] at H
                            have c31b0 : decide (x13_3 < (l0.length : Int)) = false := decide_eq_false c31
                            clear c31
                            rcases t151 with _ | q166
                            · have H1 : (if t150 < 1 then (copselaw6_CellsEven.j3 k3 l0 t150 (l0.length : Int) t158 true) else (copselaw6_CellsEven.j3 k3 l0 t150 (l0.length : Int) t158 (decide (t150 > (wrap64 ((l0.length : Int) - 2)))))) = some r := by rw [if_pos (show (none : Option Int).isNone = true by rfl)] at H; exact H
                              clear H
                              have H := H1
                              clear H1
                              try simp only [errW_none, errW_some]
                              have HC38 := Aside0.mk H
                              clear H
                              go_upto_region 26 with (fail)
                              go_cut [118] (fun v118 wc => ∃ (kq : Nat) (x118_37 : Bool), v118 = .bool x118_37 ∧ Aside0 (copselaw6_CellsEven.j3 kq l0 t150 (l0.length : Int) t158 x118_37 = some r) ∧ Aside0 (kq ≤ k3) ∧ Aside0 (Below w.heap.size w wc))
                              case first =>
                                have H := HC38.out
                                clear HC38
                                by_cases c39 : t150 < 1
                                · rw [if_pos c39] at H
                                  have c39b0 : decide (t150 < 1) = true := decide_eq_true c39
                                  clear c39
                                  (first | rw [c39b0] | (simp only [i64_w, i32_w]; rw [c39b0]) | skip)
                                  have H' := Aside0.mk H
                                  clear H
                                  go_wp2
                                  go_meet
                                  case rel => exact ⟨_, (true), (by first | rfl | (simp; done) | (simp [*]; done)), H', ⟨by have := HJ7.out; have := HJ23.out; have := HK3.out; first | omega | exact Nat.le_refl _⟩, ⟨by repeat (first | (with_reducible first | exact HB.out | apply below_alloc | apply pw_below_drewN | apply below_drew1) | exact HB.out)⟩⟩
                                · rw [if_neg c39] at H
                                  have c39b0 : decide (t150 < 1) = false := decide_eq_false c39
                                  clear c39
                                  (first | rw [c39b0] | (simp only [i64_w, i32_w]; rw [c39b0]) | skip)
                                  have H' := Aside0.mk H
                                  clear H
                                  go_wp2
                                  go_meet
                                  case rel => exact ⟨_, (decide (t150 > (wrap64 ((l0.length : Int) - 2)))), (by first | rfl | (simp; done) | (simp [*]; done)), H', ⟨by have := HJ7.out; have := HJ23.out; have := HK3.out; first | omega | exact Nat.le_refl _⟩, ⟨by repeat (first | (with_reducible first | exact HB.out | apply below_alloc | apply pw_below_drewN | apply below_drew1) | exact HB.out)⟩⟩
                              case rest =>
                                clear HC38
                                try clear c1
                                try clear q1
                                try clear c2
                                try clear p2
                                try clear c3
                                try clear c4
                                try clear p6
                                try clear c9
                                try clear q15
                                try clear c16
                                try clear q16
                                try clear c17
                                try clear c17b0
                                try clear c17b1
                                try clear c17b2
                                try clear c18
                                try clear c18b0
                                try clear c18b1
                                try clear c18b2
                                try clear c19
                                try clear c20
                                try clear c20b0
                                try clear c20b1
                                try clear c20b2
                                try clear c21
                                try clear c21b0
                                try clear c21b1
                                try clear c21b2
                                try clear c22
                                try clear c25
                                try clear c25b0
                                try clear c26
                                try clear c27
                                try clear c28
                                try clear c29
                                try clear c30
                                try clear c30b0
                                try clear c31
                                try clear c31b0
                                try clear c35
                                try clear c35b0
                                try clear c36
                                try clear c36b0
                                try clear c37
                                try clear c37b0
                                try clear c37b1
                                try clear c39
                                try clear c39b0
                                try clear p2
                                try clear p6
                                try clear q1
                                try clear q15
                                try clear q153
                                try clear q154
                                try clear q155
                                try clear q156
                                try clear q157
                                try clear q159
                                try clear q166
                                obtain ⟨kq, x118_37, rfl, HA, HJ37, HB⟩ := hcut
                                cases kq with
                                | zero => exact absurd HA.out (by simp [copselaw6_CellsEven.j3])
                                | succ kj37 =>
                                  have H := HA.out
                                  clear HA
                                  simp only [copselaw6_CellsEven.j3] at H
                                  by_cases c40 : x118_37 = true
                                  · subst c40
                                    have H1 : (some false) = some r := by rw [if_pos rfl] at H; exact H
                                    clear H
                                    have H := H1
                                    clear H1
                                    obtain rfl := Option.some.inj H
                                    go_wp2
                                    go_ret
                                    exact ⟨by first | rfl | (simp [errW_none, errW_some] <;> rfl) | (simp [*, errW_none, errW_some] <;> rfl), by repeat (first | (with_reducible first | exact HB.out | apply below_alloc | apply pw_below_drewN | apply below_drew1) | exact HB.out)⟩
                                  · replace c40 := Bool.eq_false_iff.mpr c40
                                    subst c40
                                    have H1 : ((copselaw6_sums.f kj37 l0 0 t150).bind fun t167 => ((copselaw6_sums.f kj37 l0 (wrap64 (t150 + 1)) (l0.length : Int)).bind fun t168 => ((copselaw6_apart.f t167 t168).bind fun t169 => (if t169 > t158 then (some false) else (copselaw6_CellsEven.l1 kj37 l0 t150 (l0.length : Int) t169 1))))) = some r := by rw [if_neg (show ¬ (false = true) by decide)] at H; exact H
                                    clear H
                                    have H := H1
                                    clear H1
                                    replace H := Option.bind_eq_some_iff.mp H
                                    obtain ⟨t167, A410, H⟩ := H
                                    replace H : ((copselaw6_sums.f kj37 l0 (wrap64 (t150 + 1)) (l0.length : Int)).bind fun t168 => ((copselaw6_apart.f t167 t168).bind fun t169 => (if t169 > t158 then (some false) else (copselaw6_CellsEven.l1 kj37 l0 t150 (l0.length : Int) t169 1)))) = some r := H
                                    have A41 := Aside0.mk A410
                                    clear A410
                                    replace H := Option.bind_eq_some_iff.mp H
                                    obtain ⟨t168, A420, H⟩ := H
                                    replace H : ((copselaw6_apart.f t167 t168).bind fun t169 => (if t169 > t158 then (some false) else (copselaw6_CellsEven.l1 kj37 l0 t150 (l0.length : Int) t169 1))) = some r := H
                                    have A42 := Aside0.mk A420
                                    clear A420
                                    replace H := Option.bind_eq_some_iff.mp H
                                    obtain ⟨t169, A430, H⟩ := H
                                    replace H : (if t169 > t158 then (some false) else (copselaw6_CellsEven.l1 kj37 l0 t150 (l0.length : Int) t169 1)) = some r := H
                                    have A43 := Aside0.mk A430
                                    clear A430
                                    by_cases c44 : t169 > t158
                                    · rw [if_pos c44] at H
                                      have c44b0 : decide (t158 < t169) = true := decide_eq_true c44
                                      clear c44
                                      obtain rfl := Option.some.inj H
                                      go_wp2_with (first | ((with_reducible refine gate_callee (f := 30) rfl ?_); refine goesL_ (some 121) rfl rfl Tryd.func30 (by kernel_rfl) rfl #[.slice A0 l0.length c0, .int .i64 0, .int .i64 t150] rfl (by (try simp only [List.map_toArray, List.map_cons, List.map_nil]); first | done | rfl | (simp only [List.length_drop, List.length_take]; rfl)) ?_; (with_reducible refine (copselaw6_sums.calls kj37 _ _ l0 0 t150 t167 _ ?side1 ?side2 A41.out).mono ?_); (case side1 => repeat (first | exact (Kd.C_below HR0.out HB.out) | (with_reducible refine Kd.C_alloc ?_ _) | (with_reducible refine Kd.C_drewN ?_ _) | (with_reducible refine Kd.C_drew ?_))); (case side2 => exact HC0.out); rintro e w' ⟨rfl, ⟨nd, rfl⟩⟩; refine ⟨_, rfl, ?_⟩) | ((with_reducible refine gate_callee (f := 30) rfl ?_); refine goesL_ (some 126) rfl rfl Tryd.func30 (by kernel_rfl) rfl #[.slice A0 l0.length c0, .int .i64 (wrap64 (t150 + 1)), .int .i64 (l0.length : Int)] rfl (by (try simp only [List.map_toArray, List.map_cons, List.map_nil]); first | done | rfl | (simp only [List.length_drop, List.length_take]; rfl)) ?_; (with_reducible refine (copselaw6_sums.calls kj37 _ _ l0 (wrap64 (t150 + 1)) (l0.length : Int) t168 _ ?side1 ?side2 A42.out).mono ?_); (case side1 => repeat (first | exact (Kd.C_below HR0.out (by repeat (first | (with_reducible first | exact HB.out | apply below_alloc | apply pw_below_drewN | apply below_drew1) | exact HB.out))) | (with_reducible refine Kd.C_alloc ?_ _) | (with_reducible refine Kd.C_drewN ?_ _) | (with_reducible refine Kd.C_drew ?_))); (case side2 => exact HC0.out); rintro e w' ⟨rfl, ⟨nd, rfl⟩⟩; refine ⟨_, rfl, ?_⟩) | ((with_reducible refine gate_callee (f := 29) rfl ?_); refine goesL_ (some 127) rfl rfl Tryd.func29 (by kernel_rfl) rfl #[.int .i64 t167, .int .i64 t168] rfl (by (try simp only [List.map_toArray, List.map_cons, List.map_nil]); first | done | rfl | (simp only [List.length_drop, List.length_take]; rfl)) ?_; (with_reducible refine (copselaw6_apart.calls t167 t168 t169 _ A43.out).mono ?_); rintro e w' ⟨rfl, ⟨nd, rfl⟩⟩; refine ⟨_, rfl, ?_⟩))
                                      go_ret
                                      exact ⟨by first | rfl | (simp [errW_none, errW_some] <;> rfl) | (simp [*, errW_none, errW_some] <;> rfl), by repeat (first | (with_reducible first | exact HB.out | apply below_alloc | apply pw_below_drewN | apply below_drew1) | exact HB.out)⟩
                                    · rw [if_neg c44] at H
                                      have c44b0 : decide (t158 < t169) = false := decide_eq_false c44
                                      clear c44
                                      have H' := Aside0.mk H
                                      clear H
                                      go_wp2_with (first | ((with_reducible refine gate_callee (f := 30) rfl ?_); refine goesL_ (some 121) rfl rfl Tryd.func30 (by kernel_rfl) rfl #[.slice A0 l0.length c0, .int .i64 0, .int .i64 t150] rfl (by (try simp only [List.map_toArray, List.map_cons, List.map_nil]); first | done | rfl | (simp only [List.length_drop, List.length_take]; rfl)) ?_; (with_reducible refine (copselaw6_sums.calls kj37 _ _ l0 0 t150 t167 _ ?side1 ?side2 A41.out).mono ?_); (case side1 => repeat (first | exact (Kd.C_below HR0.out HB.out) | (with_reducible refine Kd.C_alloc ?_ _) | (with_reducible refine Kd.C_drewN ?_ _) | (with_reducible refine Kd.C_drew ?_))); (case side2 => exact HC0.out); rintro e w' ⟨rfl, ⟨nd, rfl⟩⟩; refine ⟨_, rfl, ?_⟩) | ((with_reducible refine gate_callee (f := 30) rfl ?_); refine goesL_ (some 126) rfl rfl Tryd.func30 (by kernel_rfl) rfl #[.slice A0 l0.length c0, .int .i64 (wrap64 (t150 + 1)), .int .i64 (l0.length : Int)] rfl (by (try simp only [List.map_toArray, List.map_cons, List.map_nil]); first | done | rfl | (simp only [List.length_drop, List.length_take]; rfl)) ?_; (with_reducible refine (copselaw6_sums.calls kj37 _ _ l0 (wrap64 (t150 + 1)) (l0.length : Int) t168 _ ?side1 ?side2 A42.out).mono ?_); (case side1 => repeat (first | exact (Kd.C_below HR0.out (by repeat (first | (with_reducible first | exact HB.out | apply below_alloc | apply pw_below_drewN | apply below_drew1) | exact HB.out))) | (with_reducible refine Kd.C_alloc ?_ _) | (with_reducible refine Kd.C_drewN ?_ _) | (with_reducible refine Kd.C_drew ?_))); (case side2 => exact HC0.out); rintro e w' ⟨rfl, ⟨nd, rfl⟩⟩; refine ⟨_, rfl, ?_⟩) | ((with_reducible refine gate_callee (f := 29) rfl ?_); refine goesL_ (some 127) rfl rfl Tryd.func29 (by kernel_rfl) rfl #[.int .i64 t167, .int .i64 t168] rfl (by (try simp only [List.map_toArray, List.map_cons, List.map_nil]); first | done | rfl | (simp only [List.length_drop, List.length_take]; rfl)) ?_; (with_reducible refine (copselaw6_apart.calls t167 t168 t169 _ A43.out).mono ?_); rintro e w' ⟨rfl, ⟨nd, rfl⟩⟩; refine ⟨_, rfl, ?_⟩))
                                      go_loopg [16] kj37 (fun kq v16 w' => ∃ (x16_5 : Int), v16 = .int .i64 x16_5 ∧ Aside0 (copselaw6_CellsEven.l1 kq l0 t150 (l0.length : Int) t169 x16_5 = some r) ∧ Aside0 (kq ≤ kj37) ∧ Aside0 (Below w.heap.size w w'))
                                      case atStart => exact ⟨(1), (by first | rfl | (simp; done) | (simp [*]; done)), H', ⟨Nat.le_refl _⟩, ⟨by repeat (first | (with_reducible first | exact HB.out | apply below_alloc | apply pw_below_drewN | apply below_drew1) | exact HB.out)⟩⟩
                                      case round =>
                                        clear H'
                                        try clear c1
                                        try clear q1
                                        try clear c2
                                        try clear p2
                                        try clear c3
                                        try clear c4
                                        try clear p6
                                        try clear c9
                                        try clear q15
                                        try clear c16
                                        try clear q16
                                        try clear c17
                                        try clear c17b0
                                        try clear c17b1
                                        try clear c17b2
                                        try clear c18
                                        try clear c18b0
                                        try clear c18b1
                                        try clear c18b2
                                        try clear c19
                                        try clear c20
                                        try clear c20b0
                                        try clear c20b1
                                        try clear c20b2
                                        try clear c21
                                        try clear c21b0
                                        try clear c21b1
                                        try clear c21b2
                                        try clear c22
                                        try clear c25
                                        try clear c25b0
                                        try clear c26
                                        try clear c27
                                        try clear c28
                                        try clear c29
                                        try clear c30
                                        try clear c30b0
                                        try clear c31
                                        try clear c31b0
                                        try clear c35
                                        try clear c35b0
                                        try clear c36
                                        try clear c36b0
                                        try clear c37
                                        try clear c37b0
                                        try clear c37b1
                                        try clear c39
                                        try clear c39b0
                                        try clear c40
                                        try clear c44
                                        try clear c44b0
                                        try clear p2
                                        try clear p6
                                        try clear q1
                                        try clear q15
                                        try clear q153
                                        try clear q154
                                        try clear q155
                                        try clear q156
                                        try clear q157
                                        try clear q159
                                        try clear q16
                                        try clear q166
                                        obtain ⟨x16_5, rfl, HA, HK5, HB⟩ := hrel
                                        cases gk with
                                        | zero => exact absurd HA.out (by simp [copselaw6_CellsEven.l1])
                                        | succ k5 =>
                                          have H := HA.out
                                          clear HA
                                          simp only [copselaw6_CellsEven.l1] at H
                                          by_cases c45 : x16_5 < (wrap64 ((l0.length : Int) - 1))
                                          · rw [if_pos c45] at H
                                            have c45b0 : decide (x16_5 < (wrap64 ((l0.length : Int) - 1))) = true := decide_eq_true c45
                                            clear c45
                                            replace H := Option.bind_eq_some_iff.mp H
                                            obtain ⟨t170, A460, H⟩ := H
                                            replace H : ((copselaw6_sums.f k5 l0 (wrap64 (x16_5 + 1)) (l0.length : Int)).bind fun t171 => ((copselaw6_apart.f t170 t171).bind fun t172 => (if t172 < t169 then (some false) else (if x16_5 < t150 then (if t172 = t169 then (some false) else (copselaw6_CellsEven.l1 k5 l0 t150 (l0.length : Int) t169 (wrap64 (x16_5 + 1)))) else (copselaw6_CellsEven.l1 k5 l0 t150 (l0.length : Int) t169 (wrap64 (x16_5 + 1))))))) = some r := H
                                            have A46 := Aside0.mk A460
                                            clear A460
                                            replace H := Option.bind_eq_some_iff.mp H
                                            obtain ⟨t171, A470, H⟩ := H
                                            replace H : ((copselaw6_apart.f t170 t171).bind fun t172 => (if t172 < t169 then (some false) else (if x16_5 < t150 then (if t172 = t169 then (some false) else (copselaw6_CellsEven.l1 k5 l0 t150 (l0.length : Int) t169 (wrap64 (x16_5 + 1)))) else (copselaw6_CellsEven.l1 k5 l0 t150 (l0.length : Int) t169 (wrap64 (x16_5 + 1)))))) = some r := H
                                            have A47 := Aside0.mk A470
                                            clear A470
                                            replace H := Option.bind_eq_some_iff.mp H
                                            obtain ⟨t172, A480, H⟩ := H
                                            replace H : (if t172 < t169 then (some false) else (if x16_5 < t150 then (if t172 = t169 then (some false) else (copselaw6_CellsEven.l1 k5 l0 t150 (l0.length : Int) t169 (wrap64 (x16_5 + 1)))) else (copselaw6_CellsEven.l1 k5 l0 t150 (l0.length : Int) t169 (wrap64 (x16_5 + 1))))) = some r := H
                                            have A48 := Aside0.mk A480
                                            clear A480
                                            by_cases c49 : t172 < t169
                                            · rw [if_pos c49] at H
                                              have c49b0 : decide (t172 < t169) = true := decide_eq_true c49
                                              clear c49
                                              obtain rfl := Option.some.inj H
                                              go_wp2_with (first | ((with_reducible refine gate_callee (f := 30) rfl ?_); refine goesL_ (some 139) rfl rfl Tryd.func30 (by kernel_rfl) rfl #[.slice A0 l0.length c0, .int .i64 0, .int .i64 x16_5] rfl (by (try simp only [List.map_toArray, List.map_cons, List.map_nil]); first | done | rfl | (simp only [List.length_drop, List.length_take]; rfl)) ?_; (with_reducible refine (copselaw6_sums.calls k5 _ _ l0 0 x16_5 t170 _ ?side1 ?side2 A46.out).mono ?_); (case side1 => repeat (first | exact (Kd.C_below HR0.out HB.out) | (with_reducible refine Kd.C_alloc ?_ _) | (with_reducible refine Kd.C_drewN ?_ _) | (with_reducible refine Kd.C_drew ?_))); (case side2 => exact HC0.out); rintro e w' ⟨rfl, ⟨nd, rfl⟩⟩; refine ⟨_, rfl, ?_⟩) | ((with_reducible refine gate_callee (f := 30) rfl ?_); refine goesL_ (some 144) rfl rfl Tryd.func30 (by kernel_rfl) rfl #[.slice A0 l0.length c0, .int .i64 (wrap64 (x16_5 + 1)), .int .i64 (l0.length : Int)] rfl (by (try simp only [List.map_toArray, List.map_cons, List.map_nil]); first | done | rfl | (simp only [List.length_drop, List.length_take]; rfl)) ?_; (with_reducible refine (copselaw6_sums.calls k5 _ _ l0 (wrap64 (x16_5 + 1)) (l0.length : Int) t171 _ ?side1 ?side2 A47.out).mono ?_); (case side1 => repeat (first | exact (Kd.C_below HR0.out (by repeat (first | (with_reducible first | exact HB.out | apply below_alloc | apply pw_below_drewN | apply below_drew1) | exact HB.out))) | (with_reducible refine Kd.C_alloc ?_ _) | (with_reducible refine Kd.C_drewN ?_ _) | (with_reducible refine Kd.C_drew ?_))); (case side2 => exact HC0.out); rintro e w' ⟨rfl, ⟨nd, rfl⟩⟩; refine ⟨_, rfl, ?_⟩) | ((with_reducible refine gate_callee (f := 29) rfl ?_); refine goesL_ (some 145) rfl rfl Tryd.func29 (by kernel_rfl) rfl #[.int .i64 t170, .int .i64 t171] rfl (by (try simp only [List.map_toArray, List.map_cons, List.map_nil]); first | done | rfl | (simp only [List.length_drop, List.length_take]; rfl)) ?_; (with_reducible refine (copselaw6_apart.calls t170 t171 t172 _ A48.out).mono ?_); rintro e w' ⟨rfl, ⟨nd, rfl⟩⟩; refine ⟨_, rfl, ?_⟩))
                                              go_ret
                                              exact ⟨by first | rfl | (simp [errW_none, errW_some] <;> rfl) | (simp [*, errW_none, errW_some] <;> rfl), by repeat (first | (with_reducible first | exact HB.out | apply below_alloc | apply pw_below_drewN | apply below_drew1) | exact HB.out)⟩
                                            · rw [if_neg c49] at H
                                              have c49b0 : decide (t172 < t169) = false := decide_eq_false c49
                                              clear c49
                                              by_cases c50 : x16_5 < t150
                                              · rw [if_pos c50] at H
                                                have c50b0 : decide (x16_5 < t150) = true := decide_eq_true c50
                                                clear c50
                                                by_cases c51 : t172 = t169
                                                · rw [if_pos c51] at H
                                                  have c51b0 : (t172 == t169) = true := beq_iff_eq.mpr c51
                                                  have c51b1 : (t172 != t169) = false := bne_eq_false_iff_eq.mpr c51
                                                  clear c51
                                                  obtain rfl := Option.some.inj H
                                                  go_wp2_with (first | ((with_reducible refine gate_callee (f := 30) rfl ?_); refine goesL_ (some 139) rfl rfl Tryd.func30 (by kernel_rfl) rfl #[.slice A0 l0.length c0, .int .i64 0, .int .i64 x16_5] rfl (by (try simp only [List.map_toArray, List.map_cons, List.map_nil]); first | done | rfl | (simp only [List.length_drop, List.length_take]; rfl)) ?_; (with_reducible refine (copselaw6_sums.calls k5 _ _ l0 0 x16_5 t170 _ ?side1 ?side2 A46.out).mono ?_); (case side1 => repeat (first | exact (Kd.C_below HR0.out HB.out) | (with_reducible refine Kd.C_alloc ?_ _) | (with_reducible refine Kd.C_drewN ?_ _) | (with_reducible refine Kd.C_drew ?_))); (case side2 => exact HC0.out); rintro e w' ⟨rfl, ⟨nd, rfl⟩⟩; refine ⟨_, rfl, ?_⟩) | ((with_reducible refine gate_callee (f := 30) rfl ?_); refine goesL_ (some 144) rfl rfl Tryd.func30 (by kernel_rfl) rfl #[.slice A0 l0.length c0, .int .i64 (wrap64 (x16_5 + 1)), .int .i64 (l0.length : Int)] rfl (by (try simp only [List.map_toArray, List.map_cons, List.map_nil]); first | done | rfl | (simp only [List.length_drop, List.length_take]; rfl)) ?_; (with_reducible refine (copselaw6_sums.calls k5 _ _ l0 (wrap64 (x16_5 + 1)) (l0.length : Int) t171 _ ?side1 ?side2 A47.out).mono ?_); (case side1 => repeat (first | exact (Kd.C_below HR0.out (by repeat (first | (with_reducible first | exact HB.out | apply below_alloc | apply pw_below_drewN | apply below_drew1) | exact HB.out))) | (with_reducible refine Kd.C_alloc ?_ _) | (with_reducible refine Kd.C_drewN ?_ _) | (with_reducible refine Kd.C_drew ?_))); (case side2 => exact HC0.out); rintro e w' ⟨rfl, ⟨nd, rfl⟩⟩; refine ⟨_, rfl, ?_⟩) | ((with_reducible refine gate_callee (f := 29) rfl ?_); refine goesL_ (some 145) rfl rfl Tryd.func29 (by kernel_rfl) rfl #[.int .i64 t170, .int .i64 t171] rfl (by (try simp only [List.map_toArray, List.map_cons, List.map_nil]); first | done | rfl | (simp only [List.length_drop, List.length_take]; rfl)) ?_; (with_reducible refine (copselaw6_apart.calls t170 t171 t172 _ A48.out).mono ?_); rintro e w' ⟨rfl, ⟨nd, rfl⟩⟩; refine ⟨_, rfl, ?_⟩))
                                                  go_ret
                                                  exact ⟨by first | rfl | (simp [errW_none, errW_some] <;> rfl) | (simp [*, errW_none, errW_some] <;> rfl), by repeat (first | (with_reducible first | exact HB.out | apply below_alloc | apply pw_below_drewN | apply below_drew1) | exact HB.out)⟩
                                                · rw [if_neg c51] at H
                                                  have c51b0 : (t172 == t169) = false := beq_eq_false_iff_ne.mpr c51
                                                  have c51b1 : (t172 != t169) = true := bne_iff_ne.mpr c51
                                                  have H' := Aside0.mk H
                                                  clear H
                                                  go_wp2_with (first | ((with_reducible refine gate_callee (f := 30) rfl ?_); refine goesL_ (some 139) rfl rfl Tryd.func30 (by kernel_rfl) rfl #[.slice A0 l0.length c0, .int .i64 0, .int .i64 x16_5] rfl (by (try simp only [List.map_toArray, List.map_cons, List.map_nil]); first | done | rfl | (simp only [List.length_drop, List.length_take]; rfl)) ?_; (with_reducible refine (copselaw6_sums.calls k5 _ _ l0 0 x16_5 t170 _ ?side1 ?side2 A46.out).mono ?_); (case side1 => repeat (first | exact (Kd.C_below HR0.out HB.out) | (with_reducible refine Kd.C_alloc ?_ _) | (with_reducible refine Kd.C_drewN ?_ _) | (with_reducible refine Kd.C_drew ?_))); (case side2 => exact HC0.out); rintro e w' ⟨rfl, ⟨nd, rfl⟩⟩; refine ⟨_, rfl, ?_⟩) | ((with_reducible refine gate_callee (f := 30) rfl ?_); refine goesL_ (some 144) rfl rfl Tryd.func30 (by kernel_rfl) rfl #[.slice A0 l0.length c0, .int .i64 (wrap64 (x16_5 + 1)), .int .i64 (l0.length : Int)] rfl (by (try simp only [List.map_toArray, List.map_cons, List.map_nil]); first | done | rfl | (simp only [List.length_drop, List.length_take]; rfl)) ?_; (with_reducible refine (copselaw6_sums.calls k5 _ _ l0 (wrap64 (x16_5 + 1)) (l0.length : Int) t171 _ ?side1 ?side2 A47.out).mono ?_); (case side1 => repeat (first | exact (Kd.C_below HR0.out (by repeat (first | (with_reducible first | exact HB.out | apply below_alloc | apply pw_below_drewN | apply below_drew1) | exact HB.out))) | (with_reducible refine Kd.C_alloc ?_ _) | (with_reducible refine Kd.C_drewN ?_ _) | (with_reducible refine Kd.C_drew ?_))); (case side2 => exact HC0.out); rintro e w' ⟨rfl, ⟨nd, rfl⟩⟩; refine ⟨_, rfl, ?_⟩) | ((with_reducible refine gate_callee (f := 29) rfl ?_); refine goesL_ (some 145) rfl rfl Tryd.func29 (by kernel_rfl) rfl #[.int .i64 t170, .int .i64 t171] rfl (by (try simp only [List.map_toArray, List.map_cons, List.map_nil]); first | done | rfl | (simp only [List.length_drop, List.length_take]; rfl)) ?_; (with_reducible refine (copselaw6_apart.calls t170 t171 t172 _ A48.out).mono ?_); rintro e w' ⟨rfl, ⟨nd, rfl⟩⟩; refine ⟨_, rfl, ?_⟩))
                                                  go_roundg k5
                                                  case measure => have := HJ7.out; have := HJ23.out; have := HK3.out; have := HJ37.out; have := HK5.out; omega
                                                  case rel => exact ⟨(wrap64 (x16_5 + 1)), (by first | rfl | (simp; done) | (simp [*]; done)), H', ⟨by have := HJ7.out; have := HJ23.out; have := HK3.out; have := HJ37.out; have := HK5.out; omega⟩, ⟨by repeat (first | (with_reducible first | exact HB.out | apply below_alloc | apply pw_below_drewN | apply below_drew1) | exact HB.out)⟩⟩
                                              · rw [if_neg c50] at H
                                                have c50b0 : decide (x16_5 < t150) = false := decide_eq_false c50
                                                clear c50
                                                have H' := Aside0.mk H
                                                clear H
                                                go_wp2_with (first | ((with_reducible refine gate_callee (f := 30) rfl ?_); refine goesL_ (some 139) rfl rfl Tryd.func30 (by kernel_rfl) rfl #[.slice A0 l0.length c0, .int .i64 0, .int .i64 x16_5] rfl (by (try simp only [List.map_toArray, List.map_cons, List.map_nil]); first | done | rfl | (simp only [List.length_drop, List.length_take]; rfl)) ?_; (with_reducible refine (copselaw6_sums.calls k5 _ _ l0 0 x16_5 t170 _ ?side1 ?side2 A46.out).mono ?_); (case side1 => repeat (first | exact (Kd.C_below HR0.out HB.out) | (with_reducible refine Kd.C_alloc ?_ _) | (with_reducible refine Kd.C_drewN ?_ _) | (with_reducible refine Kd.C_drew ?_))); (case side2 => exact HC0.out); rintro e w' ⟨rfl, ⟨nd, rfl⟩⟩; refine ⟨_, rfl, ?_⟩) | ((with_reducible refine gate_callee (f := 30) rfl ?_); refine goesL_ (some 144) rfl rfl Tryd.func30 (by kernel_rfl) rfl #[.slice A0 l0.length c0, .int .i64 (wrap64 (x16_5 + 1)), .int .i64 (l0.length : Int)] rfl (by (try simp only [List.map_toArray, List.map_cons, List.map_nil]); first | done | rfl | (simp only [List.length_drop, List.length_take]; rfl)) ?_; (with_reducible refine (copselaw6_sums.calls k5 _ _ l0 (wrap64 (x16_5 + 1)) (l0.length : Int) t171 _ ?side1 ?side2 A47.out).mono ?_); (case side1 => repeat (first | exact (Kd.C_below HR0.out (by repeat (first | (with_reducible first | exact HB.out | apply below_alloc | apply pw_below_drewN | apply below_drew1) | exact HB.out))) | (with_reducible refine Kd.C_alloc ?_ _) | (with_reducible refine Kd.C_drewN ?_ _) | (with_reducible refine Kd.C_drew ?_))); (case side2 => exact HC0.out); rintro e w' ⟨rfl, ⟨nd, rfl⟩⟩; refine ⟨_, rfl, ?_⟩) | ((with_reducible refine gate_callee (f := 29) rfl ?_); refine goesL_ (some 145) rfl rfl Tryd.func29 (by kernel_rfl) rfl #[.int .i64 t170, .int .i64 t171] rfl (by (try simp only [List.map_toArray, List.map_cons, List.map_nil]); first | done | rfl | (simp only [List.length_drop, List.length_take]; rfl)) ?_; (with_reducible refine (copselaw6_apart.calls t170 t171 t172 _ A48.out).mono ?_); rintro e w' ⟨rfl, ⟨nd, rfl⟩⟩; refine ⟨_, rfl, ?_⟩))
                                                go_roundg k5
                                                case measure => have := HJ7.out; have := HJ23.out; have := HK3.out; have := HJ37.out; have := HK5.out; omega
                                                case rel => exact ⟨(wrap64 (x16_5 + 1)), (by first | rfl | (simp; done) | (simp [*]; done)), H', ⟨by have := HJ7.out; have := HJ23.out; have := HK3.out; have := HJ37.out; have := HK5.out; omega⟩, ⟨by repeat (first | (with_reducible first | exact HB.out | apply below_alloc | apply pw_below_drewN | apply below_drew1) | exact HB.out)⟩⟩
                                          · rw [if_neg c45] at H
                                            have c45b0 : decide (x16_5 < (wrap64 ((l0.length : Int) - 1))) = false := decide_eq_false c45
                                            clear c45
                                            obtain rfl := Option.some.inj H
                                            go_wp2
                                            go_ret
                                            exact ⟨by first | rfl | (simp [errW_none, errW_some] <;> rfl) | (simp [*, errW_none, errW_some] <;> rfl), by repeat (first | (with_reducible first | exact HB.out | apply below_alloc | apply pw_below_drewN | apply below_drew1) | exact HB.out)⟩
                            · have H1 : (some true) = some r := by rw [if_neg (show ¬ (some q166).isNone = true by simp)] at H; exact H
                              clear H
                              have H := H1
                              clear H1
                              try simp only [errW_none, errW_some]
                              obtain rfl := Option.some.inj H
                              go_wp2
                              go_ret
                              exact ⟨by first | rfl | (simp [errW_none, errW_some] <;> rfl) | (simp [*, errW_none, errW_some] <;> rfl), by repeat (first | (with_reducible first | exact HB.out | apply below_alloc | apply pw_below_drewN | apply below_drew1) | exact HB.out)⟩
            · have H1 : (if t151.isNone = true then (if t150 < 1 then (copselaw6_CellsEven.j5 kj7 l0 t150 (l0.length : Int) t158 true) else (copselaw6_CellsEven.j5 kj7 l0 t150 (l0.length : Int) t158 (decide (t150 > (wrap64 ((l0.length : Int) - 2)))))) else (some true)) = some r := by rw [if_neg (show ¬ (some q159).isNone = true by simp)] at H; exact H
              clear H
              have H := H1
              clear H1
              try simp only [errW_none, errW_some]
              rcases t151 with _ | q173
              · have H1 : (if t150 < 1 then (copselaw6_CellsEven.j5 kj7 l0 t150 (l0.length : Int) t158 true) else (copselaw6_CellsEven.j5 kj7 l0 t150 (l0.length : Int) t158 (decide (t150 > (wrap64 ((l0.length : Int) - 2)))))) = some r := by rw [if_pos (show (none : Option Int).isNone = true by rfl)] at H; exact H
                clear H
                have H := H1
                clear H1
                try simp only [errW_none, errW_some]
                have HC52 := Aside0.mk H
                clear H
                go_upto_region 26 with (first | ((with_reducible refine gate_callee (f := 28) rfl ?_); refine goesL_ (some 61) rfl rfl Tryd.func28 (by kernel_rfl) rfl #[.slice A0 l0.length c0] rfl (by (try simp only [List.map_toArray, List.map_cons, List.map_nil]); first | done | rfl | (simp only [List.length_drop, List.length_take]; rfl)) ?_; (with_reducible refine (copselaw6_greatest.calls kj7 _ _ l0 t158 _ ?side1 ?side2 A23.out).mono ?_); (case side1 => repeat (first | exact (Kd.C_below HR0.out HB.out) | (with_reducible refine Kd.C_alloc ?_ _) | (with_reducible refine Kd.C_drewN ?_ _) | (with_reducible refine Kd.C_drew ?_))); (case side2 => exact HC0.out); rintro e w' ⟨rfl, ⟨nd, rfl⟩⟩; refine ⟨_, rfl, ?_⟩))
                (try simp only [Act.put, List.setIfInBounds_toArray, List.set_cons_zero, List.set_cons_succ])
                go_cut [118] (fun v118 wc => ∃ (kq : Nat) (x118_51 : Bool), v118 = .bool x118_51 ∧ Aside0 (copselaw6_CellsEven.j5 kq l0 t150 (l0.length : Int) t158 x118_51 = some r) ∧ Aside0 (kq ≤ kj7) ∧ Aside0 (Below w.heap.size w wc))
                case first =>
                  have H := HC52.out
                  clear HC52
                  by_cases c53 : t150 < 1
                  · rw [if_pos c53] at H
                    have c53b0 : decide (t150 < 1) = true := decide_eq_true c53
                    clear c53
                    (first | rw [c53b0] | (simp only [i64_w, i32_w]; rw [c53b0]) | skip)
                    have H' := Aside0.mk H
                    clear H
                    go_wp2
                    go_meet
                    case rel => exact ⟨_, (true), (by first | rfl | (simp; done) | (simp [*]; done)), H', ⟨by have := HJ7.out; first | omega | exact Nat.le_refl _⟩, ⟨by repeat (first | (with_reducible first | exact HB.out | apply below_alloc | apply pw_below_drewN | apply below_drew1) | exact HB.out)⟩⟩
                  · rw [if_neg c53] at H
                    have c53b0 : decide (t150 < 1) = false := decide_eq_false c53
                    clear c53
                    (first | rw [c53b0] | (simp only [i64_w, i32_w]; rw [c53b0]) | skip)
                    have H' := Aside0.mk H
                    clear H
                    go_wp2
                    go_meet
                    case rel => exact ⟨_, (decide (t150 > (wrap64 ((l0.length : Int) - 2)))), (by first | rfl | (simp; done) | (simp [*]; done)), H', ⟨by have := HJ7.out; first | omega | exact Nat.le_refl _⟩, ⟨by repeat (first | (with_reducible first | exact HB.out | apply below_alloc | apply pw_below_drewN | apply below_drew1) | exact HB.out)⟩⟩
                case rest =>
                  clear HC52
                  try clear c1
                  try clear q1
                  try clear c2
                  try clear p2
                  try clear c3
                  try clear c4
                  try clear c5
                  try clear p6
                  try clear c9
                  try clear q15
                  try clear c16
                  try clear q16
                  try clear c17
                  try clear c17b0
                  try clear c17b1
                  try clear c17b2
                  try clear q17
                  try clear c18
                  try clear c18b0
                  try clear c18b1
                  try clear c18b2
                  try clear c19
                  try clear c20
                  try clear c20b0
                  try clear c20b1
                  try clear c20b2
                  try clear c21
                  try clear c21b0
                  try clear c21b1
                  try clear c21b2
                  try clear c22
                  try clear c25
                  try clear c25b0
                  try clear c26
                  try clear c27
                  try clear c28
                  try clear c29
                  try clear c30
                  try clear c30b0
                  try clear c31
                  try clear c31b0
                  try clear c35
                  try clear c35b0
                  try clear c36
                  try clear c36b0
                  try clear c37
                  try clear c37b0
                  try clear c37b1
                  try clear c39
                  try clear c39b0
                  try clear c40
                  try clear c44
                  try clear c44b0
                  try clear c45
                  try clear c45b0
                  try clear c49
                  try clear c49b0
                  try clear c50
                  try clear c50b0
                  try clear c51
                  try clear c51b0
                  try clear c51b1
                  try clear c53
                  try clear c53b0
                  try clear p2
                  try clear p6
                  try clear q1
                  try clear q15
                  try clear q153
                  try clear q154
                  try clear q155
                  try clear q156
                  try clear q157
                  try clear q159
                  try clear q16
                  try clear q166
                  try clear q173
                  obtain ⟨kq, x118_51, rfl, HA, HJ51, HB⟩ := hcut
                  cases kq with
                  | zero => exact absurd HA.out (by simp [copselaw6_CellsEven.j5])
                  | succ kj51 =>
                    have H := HA.out
                    clear HA
                    simp only [copselaw6_CellsEven.j5] at H
                    by_cases c54 : x118_51 = true
                    · subst c54
                      have H1 : (some false) = some r := by rw [if_pos rfl] at H; exact H
                      clear H
                      have H := H1
                      clear H1
                      obtain rfl := Option.some.inj H
                      go_wp2
                      go_ret
                      exact ⟨by first | rfl | (simp [errW_none, errW_some] <;> rfl) | (simp [*, errW_none, errW_some] <;> rfl), by repeat (first | (with_reducible first | exact HB.out | apply below_alloc | apply pw_below_drewN | apply below_drew1) | exact HB.out)⟩
                    · replace c54 := Bool.eq_false_iff.mpr c54
                      subst c54
                      have H1 : ((copselaw6_sums.f kj51 l0 0 t150).bind fun t174 => ((copselaw6_sums.f kj51 l0 (wrap64 (t150 + 1)) (l0.length : Int)).bind fun t175 => ((copselaw6_apart.f t174 t175).bind fun t176 => (if t176 > t158 then (some false) else (copselaw6_CellsEven.l1 kj51 l0 t150 (l0.length : Int) t176 1))))) = some r := by rw [if_neg (show ¬ (false = true) by decide)] at H; exact H
                      clear H
                      have H := H1
                      clear H1
                      replace H := Option.bind_eq_some_iff.mp H
                      obtain ⟨t174, A550, H⟩ := H
                      replace H : ((copselaw6_sums.f kj51 l0 (wrap64 (t150 + 1)) (l0.length : Int)).bind fun t175 => ((copselaw6_apart.f t174 t175).bind fun t176 => (if t176 > t158 then (some false) else (copselaw6_CellsEven.l1 kj51 l0 t150 (l0.length : Int) t176 1)))) = some r := H
                      have A55 := Aside0.mk A550
                      clear A550
                      replace H := Option.bind_eq_some_iff.mp H
                      obtain ⟨t175, A560, H⟩ := H
                      replace H : ((copselaw6_apart.f t174 t175).bind fun t176 => (if t176 > t158 then (some false) else (copselaw6_CellsEven.l1 kj51 l0 t150 (l0.length : Int) t176 1))) = some r := H
                      have A56 := Aside0.mk A560
                      clear A560
                      replace H := Option.bind_eq_some_iff.mp H
                      obtain ⟨t176, A570, H⟩ := H
                      replace H : (if t176 > t158 then (some false) else (copselaw6_CellsEven.l1 kj51 l0 t150 (l0.length : Int) t176 1)) = some r := H
                      have A57 := Aside0.mk A570
                      clear A570
                      by_cases c58 : t176 > t158
                      · rw [if_pos c58] at H
                        have c58b0 : decide (t158 < t176) = true := decide_eq_true c58
                        clear c58
                        obtain rfl := Option.some.inj H
                        go_wp2_with (first | ((with_reducible refine gate_callee (f := 30) rfl ?_); refine goesL_ (some 121) rfl rfl Tryd.func30 (by kernel_rfl) rfl #[.slice A0 l0.length c0, .int .i64 0, .int .i64 t150] rfl (by (try simp only [List.map_toArray, List.map_cons, List.map_nil]); first | done | rfl | (simp only [List.length_drop, List.length_take]; rfl)) ?_; (with_reducible refine (copselaw6_sums.calls kj51 _ _ l0 0 t150 t174 _ ?side1 ?side2 A55.out).mono ?_); (case side1 => repeat (first | exact (Kd.C_below HR0.out HB.out) | (with_reducible refine Kd.C_alloc ?_ _) | (with_reducible refine Kd.C_drewN ?_ _) | (with_reducible refine Kd.C_drew ?_))); (case side2 => exact HC0.out); rintro e w' ⟨rfl, ⟨nd, rfl⟩⟩; refine ⟨_, rfl, ?_⟩) | ((with_reducible refine gate_callee (f := 30) rfl ?_); refine goesL_ (some 126) rfl rfl Tryd.func30 (by kernel_rfl) rfl #[.slice A0 l0.length c0, .int .i64 (wrap64 (t150 + 1)), .int .i64 (l0.length : Int)] rfl (by (try simp only [List.map_toArray, List.map_cons, List.map_nil]); first | done | rfl | (simp only [List.length_drop, List.length_take]; rfl)) ?_; (with_reducible refine (copselaw6_sums.calls kj51 _ _ l0 (wrap64 (t150 + 1)) (l0.length : Int) t175 _ ?side1 ?side2 A56.out).mono ?_); (case side1 => repeat (first | exact (Kd.C_below HR0.out (by repeat (first | (with_reducible first | exact HB.out | apply below_alloc | apply pw_below_drewN | apply below_drew1) | exact HB.out))) | (with_reducible refine Kd.C_alloc ?_ _) | (with_reducible refine Kd.C_drewN ?_ _) | (with_reducible refine Kd.C_drew ?_))); (case side2 => exact HC0.out); rintro e w' ⟨rfl, ⟨nd, rfl⟩⟩; refine ⟨_, rfl, ?_⟩) | ((with_reducible refine gate_callee (f := 29) rfl ?_); refine goesL_ (some 127) rfl rfl Tryd.func29 (by kernel_rfl) rfl #[.int .i64 t174, .int .i64 t175] rfl (by (try simp only [List.map_toArray, List.map_cons, List.map_nil]); first | done | rfl | (simp only [List.length_drop, List.length_take]; rfl)) ?_; (with_reducible refine (copselaw6_apart.calls t174 t175 t176 _ A57.out).mono ?_); rintro e w' ⟨rfl, ⟨nd, rfl⟩⟩; refine ⟨_, rfl, ?_⟩))
                        go_ret
                        exact ⟨by first | rfl | (simp [errW_none, errW_some] <;> rfl) | (simp [*, errW_none, errW_some] <;> rfl), by repeat (first | (with_reducible first | exact HB.out | apply below_alloc | apply pw_below_drewN | apply below_drew1) | exact HB.out)⟩
                      · rw [if_neg c58] at H
                        have c58b0 : decide (t158 < t176) = false := decide_eq_false c58
                        clear c58
                        have H' := Aside0.mk H
                        clear H
                        go_wp2_with (first | ((with_reducible refine gate_callee (f := 30) rfl ?_); refine goesL_ (some 121) rfl rfl Tryd.func30 (by kernel_rfl) rfl #[.slice A0 l0.length c0, .int .i64 0, .int .i64 t150] rfl (by (try simp only [List.map_toArray, List.map_cons, List.map_nil]); first | done | rfl | (simp only [List.length_drop, List.length_take]; rfl)) ?_; (with_reducible refine (copselaw6_sums.calls kj51 _ _ l0 0 t150 t174 _ ?side1 ?side2 A55.out).mono ?_); (case side1 => repeat (first | exact (Kd.C_below HR0.out HB.out) | (with_reducible refine Kd.C_alloc ?_ _) | (with_reducible refine Kd.C_drewN ?_ _) | (with_reducible refine Kd.C_drew ?_))); (case side2 => exact HC0.out); rintro e w' ⟨rfl, ⟨nd, rfl⟩⟩; refine ⟨_, rfl, ?_⟩) | ((with_reducible refine gate_callee (f := 30) rfl ?_); refine goesL_ (some 126) rfl rfl Tryd.func30 (by kernel_rfl) rfl #[.slice A0 l0.length c0, .int .i64 (wrap64 (t150 + 1)), .int .i64 (l0.length : Int)] rfl (by (try simp only [List.map_toArray, List.map_cons, List.map_nil]); first | done | rfl | (simp only [List.length_drop, List.length_take]; rfl)) ?_; (with_reducible refine (copselaw6_sums.calls kj51 _ _ l0 (wrap64 (t150 + 1)) (l0.length : Int) t175 _ ?side1 ?side2 A56.out).mono ?_); (case side1 => repeat (first | exact (Kd.C_below HR0.out (by repeat (first | (with_reducible first | exact HB.out | apply below_alloc | apply pw_below_drewN | apply below_drew1) | exact HB.out))) | (with_reducible refine Kd.C_alloc ?_ _) | (with_reducible refine Kd.C_drewN ?_ _) | (with_reducible refine Kd.C_drew ?_))); (case side2 => exact HC0.out); rintro e w' ⟨rfl, ⟨nd, rfl⟩⟩; refine ⟨_, rfl, ?_⟩) | ((with_reducible refine gate_callee (f := 29) rfl ?_); refine goesL_ (some 127) rfl rfl Tryd.func29 (by kernel_rfl) rfl #[.int .i64 t174, .int .i64 t175] rfl (by (try simp only [List.map_toArray, List.map_cons, List.map_nil]); first | done | rfl | (simp only [List.length_drop, List.length_take]; rfl)) ?_; (with_reducible refine (copselaw6_apart.calls t174 t175 t176 _ A57.out).mono ?_); rintro e w' ⟨rfl, ⟨nd, rfl⟩⟩; refine ⟨_, rfl, ?_⟩))
                        go_loopg [16] kj51 (fun kq v16 w' => ∃ (x16_3 : Int), v16 = .int .i64 x16_3 ∧ Aside0 (copselaw6_CellsEven.l1 kq l0 t150 (l0.length : Int) t176 x16_3 = some r) ∧ Aside0 (kq ≤ kj51) ∧ Aside0 (Below w.heap.size w w'))
                        case atStart => exact ⟨(1), (by first | rfl | (simp; done) | (simp [*]; done)), H', ⟨Nat.le_refl _⟩, ⟨by repeat (first | (with_reducible first | exact HB.out | apply below_alloc | apply pw_below_drewN | apply below_drew1) | exact HB.out)⟩⟩
                        case round =>
                          clear H'
                          try clear c1
                          try clear q1
                          try clear c2
                          try clear p2
                          try clear c3
                          try clear c4
                          try clear c5
                          try clear p6
                          try clear c9
                          try clear q15
                          try clear c16
                          try clear q16
                          try clear c17
                          try clear c17b0
                          try clear c17b1
                          try clear c17b2
                          try clear q17
                          try clear c18
                          try clear c18b0
                          try clear c18b1
                          try clear c18b2
                          try clear c19
                          try clear c20
                          try clear c20b0
                          try clear c20b1
                          try clear c20b2
                          try clear c21
                          try clear c21b0
                          try clear c21b1
                          try clear c21b2
                          try clear c22
                          try clear c25
                          try clear c25b0
                          try clear c26
                          try clear c27
                          try clear c28
                          try clear c29
                          try clear c30
                          try clear c30b0
                          try clear c31
                          try clear c31b0
                          try clear c35
                          try clear c35b0
                          try clear c36
                          try clear c36b0
                          try clear c37
                          try clear c37b0
                          try clear c37b1
                          try clear c39
                          try clear c39b0
                          try clear c40
                          try clear c44
                          try clear c44b0
                          try clear c45
                          try clear c45b0
                          try clear c49
                          try clear c49b0
                          try clear c50
                          try clear c50b0
                          try clear c51
                          try clear c51b0
                          try clear c51b1
                          try clear c53
                          try clear c53b0
                          try clear c54
                          try clear c58
                          try clear c58b0
                          try clear p2
                          try clear p6
                          try clear q1
                          try clear q15
                          try clear q153
                          try clear q154
                          try clear q155
                          try clear q156
                          try clear q157
                          try clear q159
                          try clear q16
                          try clear q166
                          try clear q17
                          try clear q173
                          obtain ⟨x16_3, rfl, HA, HK3, HB⟩ := hrel
                          cases gk with
                          | zero => exact absurd HA.out (by simp [copselaw6_CellsEven.l1])
                          | succ k3 =>
                            have H := HA.out
                            clear HA
                            simp only [copselaw6_CellsEven.l1] at H
                            by_cases c59 : x16_3 < (wrap64 ((l0.length : Int) - 1))
                            · rw [if_pos c59] at H
                              have c59b0 : decide (x16_3 < (wrap64 ((l0.length : Int) - 1))) = true := decide_eq_true c59
                              clear c59
                              replace H := Option.bind_eq_some_iff.mp H
                              obtain ⟨t170, A600, H⟩ := H
                              replace H : ((copselaw6_sums.f k3 l0 (wrap64 (x16_3 + 1)) (l0.length : Int)).bind fun t171 => ((copselaw6_apart.f t170 t171).bind fun t172 => (if t172 < t176 then (some false) else (if x16_3 < t150 then (if t172 = t176 then (some false) else (copselaw6_CellsEven.l1 k3 l0 t150 (l0.length : Int) t176 (wrap64 (x16_3 + 1)))) else (copselaw6_CellsEven.l1 k3 l0 t150 (l0.length : Int) t176 (wrap64 (x16_3 + 1))))))) = some r := H
                              have A60 := Aside0.mk A600
                              clear A600
                              replace H := Option.bind_eq_some_iff.mp H
                              obtain ⟨t171, A610, H⟩ := H
                              replace H : ((copselaw6_apart.f t170 t171).bind fun t172 => (if t172 < t176 then (some false) else (if x16_3 < t150 then (if t172 = t176 then (some false) else (copselaw6_CellsEven.l1 k3 l0 t150 (l0.length : Int) t176 (wrap64 (x16_3 + 1)))) else (copselaw6_CellsEven.l1 k3 l0 t150 (l0.length : Int) t176 (wrap64 (x16_3 + 1)))))) = some r := H
                              have A61 := Aside0.mk A610
                              clear A610
                              replace H := Option.bind_eq_some_iff.mp H
                              obtain ⟨t172, A620, H⟩ := H
                              replace H : (if t172 < t176 then (some false) else (if x16_3 < t150 then (if t172 = t176 then (some false) else (copselaw6_CellsEven.l1 k3 l0 t150 (l0.length : Int) t176 (wrap64 (x16_3 + 1)))) else (copselaw6_CellsEven.l1 k3 l0 t150 (l0.length : Int) t176 (wrap64 (x16_3 + 1))))) = some r := H
                              have A62 := Aside0.mk A620
                              clear A620
                              by_cases c63 : t172 < t176
                              · rw [if_pos c63] at H
                                have c63b0 : decide (t172 < t176) = true := decide_eq_true c63
                                clear c63
                                obtain rfl := Option.some.inj H
                                go_wp2_with (first | ((with_reducible refine gate_callee (f := 30) rfl ?_); refine goesL_ (some 139) rfl rfl Tryd.func30 (by kernel_rfl) rfl #[.slice A0 l0.length c0, .int .i64 0, .int .i64 x16_3] rfl (by (try simp only [List.map_toArray, List.map_cons, List.map_nil]); first | done | rfl | (simp only [List.length_drop, List.length_take]; rfl)) ?_; (with_reducible refine (copselaw6_sums.calls k3 _ _ l0 0 x16_3 t170 _ ?side1 ?side2 A60.out).mono ?_); (case side1 => repeat (first | exact (Kd.C_below HR0.out HB.out) | (with_reducible refine Kd.C_alloc ?_ _) | (with_reducible refine Kd.C_drewN ?_ _) | (with_reducible refine Kd.C_drew ?_))); (case side2 => exact HC0.out); rintro e w' ⟨rfl, ⟨nd, rfl⟩⟩; refine ⟨_, rfl, ?_⟩) | ((with_reducible refine gate_callee (f := 30) rfl ?_); refine goesL_ (some 144) rfl rfl Tryd.func30 (by kernel_rfl) rfl #[.slice A0 l0.length c0, .int .i64 (wrap64 (x16_3 + 1)), .int .i64 (l0.length : Int)] rfl (by (try simp only [List.map_toArray, List.map_cons, List.map_nil]); first | done | rfl | (simp only [List.length_drop, List.length_take]; rfl)) ?_; (with_reducible refine (copselaw6_sums.calls k3 _ _ l0 (wrap64 (x16_3 + 1)) (l0.length : Int) t171 _ ?side1 ?side2 A61.out).mono ?_); (case side1 => repeat (first | exact (Kd.C_below HR0.out (by repeat (first | (with_reducible first | exact HB.out | apply below_alloc | apply pw_below_drewN | apply below_drew1) | exact HB.out))) | (with_reducible refine Kd.C_alloc ?_ _) | (with_reducible refine Kd.C_drewN ?_ _) | (with_reducible refine Kd.C_drew ?_))); (case side2 => exact HC0.out); rintro e w' ⟨rfl, ⟨nd, rfl⟩⟩; refine ⟨_, rfl, ?_⟩) | ((with_reducible refine gate_callee (f := 29) rfl ?_); refine goesL_ (some 145) rfl rfl Tryd.func29 (by kernel_rfl) rfl #[.int .i64 t170, .int .i64 t171] rfl (by (try simp only [List.map_toArray, List.map_cons, List.map_nil]); first | done | rfl | (simp only [List.length_drop, List.length_take]; rfl)) ?_; (with_reducible refine (copselaw6_apart.calls t170 t171 t172 _ A62.out).mono ?_); rintro e w' ⟨rfl, ⟨nd, rfl⟩⟩; refine ⟨_, rfl, ?_⟩))
                                go_ret
                                exact ⟨by first | rfl | (simp [errW_none, errW_some] <;> rfl) | (simp [*, errW_none, errW_some] <;> rfl), by repeat (first | (with_reducible first | exact HB.out | apply below_alloc | apply pw_below_drewN | apply below_drew1) | exact HB.out)⟩
                              · rw [if_neg c63] at H
                                have c63b0 : decide (t172 < t176) = false := decide_eq_false c63
                                clear c63
                                by_cases c64 : x16_3 < t150
                                · rw [if_pos c64] at H
                                  have c64b0 : decide (x16_3 < t150) = true := decide_eq_true c64
                                  clear c64
                                  by_cases c65 : t172 = t176
                                  · rw [if_pos c65] at H
                                    have c65b0 : (t172 == t176) = true := beq_iff_eq.mpr c65
                                    have c65b1 : (t172 != t176) = false := bne_eq_false_iff_eq.mpr c65
                                    clear c65
                                    obtain rfl := Option.some.inj H
                                    go_wp2_with (first | ((with_reducible refine gate_callee (f := 30) rfl ?_); refine goesL_ (some 139) rfl rfl Tryd.func30 (by kernel_rfl) rfl #[.slice A0 l0.length c0, .int .i64 0, .int .i64 x16_3] rfl (by (try simp only [List.map_toArray, List.map_cons, List.map_nil]); first | done | rfl | (simp only [List.length_drop, List.length_take]; rfl)) ?_; (with_reducible refine (copselaw6_sums.calls k3 _ _ l0 0 x16_3 t170 _ ?side1 ?side2 A60.out).mono ?_); (case side1 => repeat (first | exact (Kd.C_below HR0.out HB.out) | (with_reducible refine Kd.C_alloc ?_ _) | (with_reducible refine Kd.C_drewN ?_ _) | (with_reducible refine Kd.C_drew ?_))); (case side2 => exact HC0.out); rintro e w' ⟨rfl, ⟨nd, rfl⟩⟩; refine ⟨_, rfl, ?_⟩) | ((with_reducible refine gate_callee (f := 30) rfl ?_); refine goesL_ (some 144) rfl rfl Tryd.func30 (by kernel_rfl) rfl #[.slice A0 l0.length c0, .int .i64 (wrap64 (x16_3 + 1)), .int .i64 (l0.length : Int)] rfl (by (try simp only [List.map_toArray, List.map_cons, List.map_nil]); first | done | rfl | (simp only [List.length_drop, List.length_take]; rfl)) ?_; (with_reducible refine (copselaw6_sums.calls k3 _ _ l0 (wrap64 (x16_3 + 1)) (l0.length : Int) t171 _ ?side1 ?side2 A61.out).mono ?_); (case side1 => repeat (first | exact (Kd.C_below HR0.out (by repeat (first | (with_reducible first | exact HB.out | apply below_alloc | apply pw_below_drewN | apply below_drew1) | exact HB.out))) | (with_reducible refine Kd.C_alloc ?_ _) | (with_reducible refine Kd.C_drewN ?_ _) | (with_reducible refine Kd.C_drew ?_))); (case side2 => exact HC0.out); rintro e w' ⟨rfl, ⟨nd, rfl⟩⟩; refine ⟨_, rfl, ?_⟩) | ((with_reducible refine gate_callee (f := 29) rfl ?_); refine goesL_ (some 145) rfl rfl Tryd.func29 (by kernel_rfl) rfl #[.int .i64 t170, .int .i64 t171] rfl (by (try simp only [List.map_toArray, List.map_cons, List.map_nil]); first | done | rfl | (simp only [List.length_drop, List.length_take]; rfl)) ?_; (with_reducible refine (copselaw6_apart.calls t170 t171 t172 _ A62.out).mono ?_); rintro e w' ⟨rfl, ⟨nd, rfl⟩⟩; refine ⟨_, rfl, ?_⟩))
                                    go_ret
                                    exact ⟨by first | rfl | (simp [errW_none, errW_some] <;> rfl) | (simp [*, errW_none, errW_some] <;> rfl), by repeat (first | (with_reducible first | exact HB.out | apply below_alloc | apply pw_below_drewN | apply below_drew1) | exact HB.out)⟩
                                  · rw [if_neg c65] at H
                                    have c65b0 : (t172 == t176) = false := beq_eq_false_iff_ne.mpr c65
                                    have c65b1 : (t172 != t176) = true := bne_iff_ne.mpr c65
                                    have H' := Aside0.mk H
                                    clear H
                                    go_wp2_with (first | ((with_reducible refine gate_callee (f := 30) rfl ?_); refine goesL_ (some 139) rfl rfl Tryd.func30 (by kernel_rfl) rfl #[.slice A0 l0.length c0, .int .i64 0, .int .i64 x16_3] rfl (by (try simp only [List.map_toArray, List.map_cons, List.map_nil]); first | done | rfl | (simp only [List.length_drop, List.length_take]; rfl)) ?_; (with_reducible refine (copselaw6_sums.calls k3 _ _ l0 0 x16_3 t170 _ ?side1 ?side2 A60.out).mono ?_); (case side1 => repeat (first | exact (Kd.C_below HR0.out HB.out) | (with_reducible refine Kd.C_alloc ?_ _) | (with_reducible refine Kd.C_drewN ?_ _) | (with_reducible refine Kd.C_drew ?_))); (case side2 => exact HC0.out); rintro e w' ⟨rfl, ⟨nd, rfl⟩⟩; refine ⟨_, rfl, ?_⟩) | ((with_reducible refine gate_callee (f := 30) rfl ?_); refine goesL_ (some 144) rfl rfl Tryd.func30 (by kernel_rfl) rfl #[.slice A0 l0.length c0, .int .i64 (wrap64 (x16_3 + 1)), .int .i64 (l0.length : Int)] rfl (by (try simp only [List.map_toArray, List.map_cons, List.map_nil]); first | done | rfl | (simp only [List.length_drop, List.length_take]; rfl)) ?_; (with_reducible refine (copselaw6_sums.calls k3 _ _ l0 (wrap64 (x16_3 + 1)) (l0.length : Int) t171 _ ?side1 ?side2 A61.out).mono ?_); (case side1 => repeat (first | exact (Kd.C_below HR0.out (by repeat (first | (with_reducible first | exact HB.out | apply below_alloc | apply pw_below_drewN | apply below_drew1) | exact HB.out))) | (with_reducible refine Kd.C_alloc ?_ _) | (with_reducible refine Kd.C_drewN ?_ _) | (with_reducible refine Kd.C_drew ?_))); (case side2 => exact HC0.out); rintro e w' ⟨rfl, ⟨nd, rfl⟩⟩; refine ⟨_, rfl, ?_⟩) | ((with_reducible refine gate_callee (f := 29) rfl ?_); refine goesL_ (some 145) rfl rfl Tryd.func29 (by kernel_rfl) rfl #[.int .i64 t170, .int .i64 t171] rfl (by (try simp only [List.map_toArray, List.map_cons, List.map_nil]); first | done | rfl | (simp only [List.length_drop, List.length_take]; rfl)) ?_; (with_reducible refine (copselaw6_apart.calls t170 t171 t172 _ A62.out).mono ?_); rintro e w' ⟨rfl, ⟨nd, rfl⟩⟩; refine ⟨_, rfl, ?_⟩))
                                    go_roundg k3
                                    case measure => have := HJ7.out; have := HJ51.out; have := HK3.out; omega
                                    case rel => exact ⟨(wrap64 (x16_3 + 1)), (by first | rfl | (simp; done) | (simp [*]; done)), H', ⟨by have := HJ7.out; have := HJ51.out; have := HK3.out; omega⟩, ⟨by repeat (first | (with_reducible first | exact HB.out | apply below_alloc | apply pw_below_drewN | apply below_drew1) | exact HB.out)⟩⟩
                                · rw [if_neg c64] at H
                                  have c64b0 : decide (x16_3 < t150) = false := decide_eq_false c64
                                  clear c64
                                  have H' := Aside0.mk H
                                  clear H
                                  go_wp2_with (first | ((with_reducible refine gate_callee (f := 30) rfl ?_); refine goesL_ (some 139) rfl rfl Tryd.func30 (by kernel_rfl) rfl #[.slice A0 l0.length c0, .int .i64 0, .int .i64 x16_3] rfl (by (try simp only [List.map_toArray, List.map_cons, List.map_nil]); first | done | rfl | (simp only [List.length_drop, List.length_take]; rfl)) ?_; (with_reducible refine (copselaw6_sums.calls k3 _ _ l0 0 x16_3 t170 _ ?side1 ?side2 A60.out).mono ?_); (case side1 => repeat (first | exact (Kd.C_below HR0.out HB.out) | (with_reducible refine Kd.C_alloc ?_ _) | (with_reducible refine Kd.C_drewN ?_ _) | (with_reducible refine Kd.C_drew ?_))); (case side2 => exact HC0.out); rintro e w' ⟨rfl, ⟨nd, rfl⟩⟩; refine ⟨_, rfl, ?_⟩) | ((with_reducible refine gate_callee (f := 30) rfl ?_); refine goesL_ (some 144) rfl rfl Tryd.func30 (by kernel_rfl) rfl #[.slice A0 l0.length c0, .int .i64 (wrap64 (x16_3 + 1)), .int .i64 (l0.length : Int)] rfl (by (try simp only [List.map_toArray, List.map_cons, List.map_nil]); first | done | rfl | (simp only [List.length_drop, List.length_take]; rfl)) ?_; (with_reducible refine (copselaw6_sums.calls k3 _ _ l0 (wrap64 (x16_3 + 1)) (l0.length : Int) t171 _ ?side1 ?side2 A61.out).mono ?_); (case side1 => repeat (first | exact (Kd.C_below HR0.out (by repeat (first | (with_reducible first | exact HB.out | apply below_alloc | apply pw_below_drewN | apply below_drew1) | exact HB.out))) | (with_reducible refine Kd.C_alloc ?_ _) | (with_reducible refine Kd.C_drewN ?_ _) | (with_reducible refine Kd.C_drew ?_))); (case side2 => exact HC0.out); rintro e w' ⟨rfl, ⟨nd, rfl⟩⟩; refine ⟨_, rfl, ?_⟩) | ((with_reducible refine gate_callee (f := 29) rfl ?_); refine goesL_ (some 145) rfl rfl Tryd.func29 (by kernel_rfl) rfl #[.int .i64 t170, .int .i64 t171] rfl (by (try simp only [List.map_toArray, List.map_cons, List.map_nil]); first | done | rfl | (simp only [List.length_drop, List.length_take]; rfl)) ?_; (with_reducible refine (copselaw6_apart.calls t170 t171 t172 _ A62.out).mono ?_); rintro e w' ⟨rfl, ⟨nd, rfl⟩⟩; refine ⟨_, rfl, ?_⟩))
                                  go_roundg k3
                                  case measure => have := HJ7.out; have := HJ51.out; have := HK3.out; omega
                                  case rel => exact ⟨(wrap64 (x16_3 + 1)), (by first | rfl | (simp; done) | (simp [*]; done)), H', ⟨by have := HJ7.out; have := HJ51.out; have := HK3.out; omega⟩, ⟨by repeat (first | (with_reducible first | exact HB.out | apply below_alloc | apply pw_below_drewN | apply below_drew1) | exact HB.out)⟩⟩
                            · rw [if_neg c59] at H
                              have c59b0 : decide (x16_3 < (wrap64 ((l0.length : Int) - 1))) = false := decide_eq_false c59
                              clear c59
                              obtain rfl := Option.some.inj H
                              go_wp2
                              go_ret
                              exact ⟨by first | rfl | (simp [errW_none, errW_some] <;> rfl) | (simp [*, errW_none, errW_some] <;> rfl), by repeat (first | (with_reducible first | exact HB.out | apply below_alloc | apply pw_below_drewN | apply below_drew1) | exact HB.out)⟩
              · have H1 : (some true) = some r := by rw [if_neg (show ¬ (some q173).isNone = true by simp)] at H; exact H
                clear H
                have H := H1
                clear H1
                try simp only [errW_none, errW_some]
                obtain rfl := Option.some.inj H
                go_wp2_with (first | ((with_reducible refine gate_callee (f := 28) rfl ?_); refine goesL_ (some 61) rfl rfl Tryd.func28 (by kernel_rfl) rfl #[.slice A0 l0.length c0] rfl (by (try simp only [List.map_toArray, List.map_cons, List.map_nil]); first | done | rfl | (simp only [List.length_drop, List.length_take]; rfl)) ?_; (with_reducible refine (copselaw6_greatest.calls kj7 _ _ l0 t158 _ ?side1 ?side2 A23.out).mono ?_); (case side1 => repeat (first | exact (Kd.C_below HR0.out HB.out) | (with_reducible refine Kd.C_alloc ?_ _) | (with_reducible refine Kd.C_drewN ?_ _) | (with_reducible refine Kd.C_drew ?_))); (case side2 => exact HC0.out); rintro e w' ⟨rfl, ⟨nd, rfl⟩⟩; refine ⟨_, rfl, ?_⟩))
                go_ret
                exact ⟨by first | rfl | (simp [errW_none, errW_some] <;> rfl) | (simp [*, errW_none, errW_some] <;> rfl), by repeat (first | (with_reducible first | exact HB.out | apply below_alloc | apply pw_below_drewN | apply below_drew1) | exact HB.out)⟩
    · rw [if_neg c4] at H
      exact absurd H (by simp)
  · replace c3 := Bool.eq_false_iff.mpr c3
    subst c3
    have H1 : (some false) = some r := by rw [if_neg (show ¬ (false = true) by decide)] at H; exact H
    clear H
    have H := H1
    clear H1
    obtain rfl := Option.some.inj H
    go_enter Tryd.func9, Tryd.ntmps9
    go_wp2_with (first | ((with_reducible refine gate_callee (f := 26) rfl ?_); refine goesL_ (some 18) rfl rfl Tryd.func26 (by kernel_rfl) rfl #[] rfl (by (try simp only [List.map_toArray, List.map_cons, List.map_nil]); first | done | rfl | (simp only [List.length_drop, List.length_take]; rfl)) ?_; (with_reducible refine (copselaw6_begun.calls k E  false _ ?side1 A2.out).mono ?_); (case side1 => exact (Glob.below HG.out (by repeat (first | (with_reducible first | exact HB.out | apply below_alloc | apply pw_below_drewN | apply below_drew1) | exact HB.out)))); rintro e w66 ⟨rfl, hb⟩; refine ⟨_, rfl, ?_⟩; have n0_ := Aside0.mk (below_step (by repeat (first | (with_reducible first | exact HB.out | apply below_alloc | apply pw_below_drewN | apply below_drew1) | exact HB.out)) hb); clear HB; have HB := n0_; clear n0_; (try clear hb); (try clear hb2); (try clear hk); (try clear hi)))
    go_ret
    exact ⟨by first | rfl | (simp [errW_none, errW_some] <;> rfl) | (simp [*, errW_none, errW_some] <;> rfl), by repeat (first | (with_reducible first | exact HB.out | apply below_alloc | apply pw_below_drewN | apply below_drew1) | exact HB.out)⟩

end Go.Proofs.YtmjdkddpfcfepaaDoor.XCellsEven
