-- Printed for this claim by a program (wip/printx) that builds on the kit's print. Not trusted: Lean checks it.
import Derived.Test.YtmjdkddpfcfepaaDoorXCellsCutsx0
import Derived.Test.YtmjdkddpfcfepaaDoorXCellsCutsx1
import Derived.Test.YtmjdkddpfcfepaaDoorXCellsCutsx2
import Derived.Test.YtmjdkddpfcfepaaDoorXCellsCutsx3
namespace Go.Proofs.YtmjdkddpfcfepaaDoor.XCellsCuts
open Go.RowKit Go.Proofs.YtmjdkddpfcfepaaDoorW.PrintWords Go.Proofs.YtmjdkddpfcfepaaDoorW.PrintLast Go.Proofs.YtmjdkddpfcfepaaDoorW.PrintMore
attribute [local go_sem] max2_int min2_int max_two min_two max_three min_three max_four min_four   -- for this text's walks alone
set_option linter.unusedVariables false
set_option linter.unusedSimpArgs false

/-! ### copselaw6_CellsCuts: function 5 -/
mutual
def copselaw6_CellsCuts.j0 : Nat → List Int → Int → List Int → Int → Option Int → Int → Option Int → List Int → Int → Int → Int → Int → Bool → Option (Bool)
  | 0, _, _, _, _, _, _, _, _, _, _, _, _, _ => none
  | k + 1, x0, x3, x4, x5, x6, x7, x8, x9, x10, x11, x12, x13, x14 => if x5 = x10 then (if x7 = x12 then ((copsekit_Num.f x6).bind fun t151 => (if t151 = x11 then ((copsekit_Num.f x8).bind fun t152 => (if t152 = x13 then (copselaw6_CellsCuts.j1 k x0 x3 x4 x9 (!x14)) else (copselaw6_CellsCuts.j1 k x0 x3 x4 x9 true))) else (copselaw6_CellsCuts.j1 k x0 x3 x4 x9 true))) else (copselaw6_CellsCuts.j1 k x0 x3 x4 x9 true)) else (copselaw6_CellsCuts.j1 k x0 x3 x4 x9 true)
def copselaw6_CellsCuts.j1 : Nat → List Int → Int → List Int → List Int → Bool → Option (Bool)
  | 0, _, _, _, _, _ => none
  | k + 1, x0, x3, x4, x9, x86 => if x86 = true then (some false) else (copselaw6_CellsCuts.l0 k x0 x3 x4 x9 0)
def copselaw6_CellsCuts.l0 : Nat → List Int → Int → List Int → List Int → Int → Option (Bool)
  | 0, _, _, _, _, _ => none
  | k + 1, x0, x3, x4, x9, x15 => if x15 < x3 then (if 0 ≤ (wrap64 ((wrap64 (x3 - 1)) - x15)) then (if (wrap64 ((wrap64 (x3 - 1)) - x15)) < (x0.length : Int) then (if 0 ≤ x15 then (if x15 < (x4.length : Int) then (if x15 < (x9.length : Int) then (copselaw6_CellsCuts.l0 k x0 x3 (x4.set (x15 : Int).toNat (rd x0 (wrap64 ((wrap64 (x3 - 1)) - x15)))) (x9.set (x15 : Int).toNat (rd x0 (wrap64 ((wrap64 (x3 - 1)) - x15)))) (wrap64 (x15 + 1))) else (none)) else (none)) else (none)) else (none)) else (none)) else (if 0 ≤ x3 then (if x3 ≤ (x4.length : Int) then ((cells_Cut.f k (x4.take (x3 : Int).toNat)).bind fun bt161 => ((cells_Pivot.f k (x4.take (x3 : Int).toNat)).bind fun bt167 => ((copseref6_Cut.f k x9).bind fun bt169 => ((copseref6_Pivot.f k x9).bind fun bt171 => (if bt161.1 = bt169.1 then (if bt167.1 = bt171.1 then ((copsekit_Num.f bt161.2).bind fun t173 => (if t173 = bt169.2 then ((copsekit_Num.f bt167.2).bind fun t174 => (some (t174 == bt171.2))) else (some false))) else (some false)) else (some false)))))) else (none)) else (none))
end
def copselaw6_CellsCuts.f (k : Nat) (l0 : List Int) : Option (Bool) := if ([] : List Int).length + l0.length < 17592186044416 then ((some (([] : List Int) ++ l0 : List Int)).bind fun y120 => (if y120.length < 17592186044416 then ((some (y120 ++ [(-9)] : List Int)).bind fun y123 => (if 0 ≤ (l0.length : Int) then (if (l0.length : Int) ≤ (y123.length : Int) then ((cells_Cut.f k (y123.take ((l0.length : Int) : Int).toNat)).bind fun bt130 => ((cells_Pivot.f k (y123.take ((l0.length : Int) : Int).toNat)).bind fun bt136 => ((some (([] : List Int) ++ l0 : List Int)).bind fun y138 => ((copseref6_Cut.f k y138).bind fun bt141 => ((copseref6_Pivot.f k y138).bind fun bt143 => ((copseref0_SameInts.f k (y123.take ((l0.length : Int) : Int).toNat) l0).bind fun t149 => (if t149 = true then (if (l0.length : Int) < (y123.length : Int) then (copselaw6_CellsCuts.j0 k l0 (l0.length : Int) y123 bt130.1 bt130.2 bt136.1 bt136.2 y138 bt141.1 bt141.2 bt143.1 bt143.2 ((rd y123 (l0.length : Int)) == (-9))) else (none)) else (copselaw6_CellsCuts.j0 k l0 (l0.length : Int) y123 bt130.1 bt130.2 bt136.1 bt136.2 y138 bt141.1 bt141.2 bt143.1 bt143.2 false)))))))) else (none)) else (none))) else (none))) else (none)
theorem copselaw6_CellsCuts.mono_l : ∀ k, (∀ y0 y1 y2 y3 y4 y5 y6 y7 y8 y9 y10 y11 y12, LeO (copselaw6_CellsCuts.j0 k y0 y1 y2 y3 y4 y5 y6 y7 y8 y9 y10 y11 y12) (copselaw6_CellsCuts.j0 (k + 1) y0 y1 y2 y3 y4 y5 y6 y7 y8 y9 y10 y11 y12)) ∧ (∀ y0 y1 y2 y3 y4, LeO (copselaw6_CellsCuts.j1 k y0 y1 y2 y3 y4) (copselaw6_CellsCuts.j1 (k + 1) y0 y1 y2 y3 y4)) ∧ (∀ y0 y1 y2 y3 y4, LeO (copselaw6_CellsCuts.l0 k y0 y1 y2 y3 y4) (copselaw6_CellsCuts.l0 (k + 1) y0 y1 y2 y3 y4))
  | 0 => ⟨fun _ _ _ _ _ _ _ _ _ _ _ _ _ r h => by simp [copselaw6_CellsCuts.j0] at h, fun _ _ _ _ _ r h => by simp [copselaw6_CellsCuts.j1] at h, fun _ _ _ _ _ r h => by simp [copselaw6_CellsCuts.l0] at h⟩
  | k + 1 => by
    obtain ⟨ih0, ih1, ih2⟩ := copselaw6_CellsCuts.mono_l k
    refine ⟨?_, ?_, ?_⟩
    · intro y0 y1 y2 y3 y4 y5 y6 y7 y8 y9 y10 y11 y12
      unfold copselaw6_CellsCuts.j0
      repeat' first
      | (with_reducible exact ih0 _ _ _ _ _ _ _ _ _ _ _ _ _)
      | (with_reducible exact ih1 _ _ _ _ _)
      | (with_reducible exact ih2 _ _ _ _ _)
      | (with_reducible exact cells_Cut.mono _ _)
      | (with_reducible exact cells_Pivot.mono _ _)
      | (with_reducible exact copseref0_SameInts.mono _ _ _)
      | (with_reducible exact copseref6_Cut.mono _ _)
      | (with_reducible exact copseref6_Pivot.mono _ _)
      | (with_reducible exact LeO.refl _)
      | (with_reducible exact LeO.none _)
      | (with_reducible refine LeO.ite ?_ ?_)
      | (with_reducible refine LeO.bind ?_ (fun _ => ?_))
      | exact ih0 _ _ _ _ _ _ _ _ _ _ _ _ _
      | exact ih1 _ _ _ _ _
      | exact ih2 _ _ _ _ _
      | exact cells_Cut.mono _ _
      | exact cells_Pivot.mono _ _
      | exact copseref0_SameInts.mono _ _ _
      | exact copseref6_Cut.mono _ _
      | exact copseref6_Pivot.mono _ _
      | exact LeO.none _
      | refine LeO.ite ?_ ?_
      | refine LeO.bind ?_ (fun _ => ?_)
    · intro y0 y1 y2 y3 y4
      unfold copselaw6_CellsCuts.j1
      repeat' first
      | (with_reducible exact ih0 _ _ _ _ _ _ _ _ _ _ _ _ _)
      | (with_reducible exact ih1 _ _ _ _ _)
      | (with_reducible exact ih2 _ _ _ _ _)
      | (with_reducible exact cells_Cut.mono _ _)
      | (with_reducible exact cells_Pivot.mono _ _)
      | (with_reducible exact copseref0_SameInts.mono _ _ _)
      | (with_reducible exact copseref6_Cut.mono _ _)
      | (with_reducible exact copseref6_Pivot.mono _ _)
      | (with_reducible exact LeO.refl _)
      | (with_reducible exact LeO.none _)
      | (with_reducible refine LeO.ite ?_ ?_)
      | (with_reducible refine LeO.bind ?_ (fun _ => ?_))
      | exact ih0 _ _ _ _ _ _ _ _ _ _ _ _ _
      | exact ih1 _ _ _ _ _
      | exact ih2 _ _ _ _ _
      | exact cells_Cut.mono _ _
      | exact cells_Pivot.mono _ _
      | exact copseref0_SameInts.mono _ _ _
      | exact copseref6_Cut.mono _ _
      | exact copseref6_Pivot.mono _ _
      | exact LeO.none _
      | refine LeO.ite ?_ ?_
      | refine LeO.bind ?_ (fun _ => ?_)
    · intro y0 y1 y2 y3 y4
      unfold copselaw6_CellsCuts.l0
      repeat' first
      | (with_reducible exact ih0 _ _ _ _ _ _ _ _ _ _ _ _ _)
      | (with_reducible exact ih1 _ _ _ _ _)
      | (with_reducible exact ih2 _ _ _ _ _)
      | (with_reducible exact cells_Cut.mono _ _)
      | (with_reducible exact cells_Pivot.mono _ _)
      | (with_reducible exact copseref0_SameInts.mono _ _ _)
      | (with_reducible exact copseref6_Cut.mono _ _)
      | (with_reducible exact copseref6_Pivot.mono _ _)
      | (with_reducible exact LeO.refl _)
      | (with_reducible exact LeO.none _)
      | (with_reducible refine LeO.ite ?_ ?_)
      | (with_reducible refine LeO.bind ?_ (fun _ => ?_))
      | exact ih0 _ _ _ _ _ _ _ _ _ _ _ _ _
      | exact ih1 _ _ _ _ _
      | exact ih2 _ _ _ _ _
      | exact cells_Cut.mono _ _
      | exact cells_Pivot.mono _ _
      | exact copseref0_SameInts.mono _ _ _
      | exact copseref6_Cut.mono _ _
      | exact copseref6_Pivot.mono _ _
      | exact LeO.none _
      | refine LeO.ite ?_ ?_
      | refine LeO.bind ?_ (fun _ => ?_)
theorem copselaw6_CellsCuts.mono : ∀ a0 k, LeO (copselaw6_CellsCuts.f k a0) (copselaw6_CellsCuts.f (k + 1) a0) := by
  intro a0 k
  obtain ⟨ih0, ih1, ih2⟩ := copselaw6_CellsCuts.mono_l k
  unfold copselaw6_CellsCuts.f
  repeat' first
      | (with_reducible exact ih0 _ _ _ _ _ _ _ _ _ _ _ _ _)
      | (with_reducible exact ih1 _ _ _ _ _)
      | (with_reducible exact ih2 _ _ _ _ _)
      | (with_reducible exact cells_Cut.mono _ _)
      | (with_reducible exact cells_Pivot.mono _ _)
      | (with_reducible exact copseref0_SameInts.mono _ _ _)
      | (with_reducible exact copseref6_Cut.mono _ _)
      | (with_reducible exact copseref6_Pivot.mono _ _)
      | (with_reducible exact LeO.refl _)
      | (with_reducible exact LeO.none _)
      | (with_reducible refine LeO.ite ?_ ?_)
      | (with_reducible refine LeO.bind ?_ (fun _ => ?_))
      | exact ih0 _ _ _ _ _ _ _ _ _ _ _ _ _
      | exact ih1 _ _ _ _ _
      | exact ih2 _ _ _ _ _
      | exact cells_Cut.mono _ _
      | exact cells_Pivot.mono _ _
      | exact copseref0_SameInts.mono _ _ _
      | exact copseref6_Cut.mono _ _
      | exact copseref6_Pivot.mono _ _
      | exact LeO.none _
      | refine LeO.ite ?_ ?_
      | refine LeO.bind ?_ (fun _ => ?_)
set_option maxHeartbeats 8000000 in
set_option maxRecDepth 100000 in
theorem copselaw6_CellsCuts.calls (k : Nat) (E : Int → Addr) (A0 : Option Addr) (c0 : Nat) (l0 : List Int) (r : Bool) (w : World) (hG : Glob E w) (hr0 : Kd.C (Kd.int .i64) w A0 l0.length l0) (hc0 : l0.length ≤ c0) (h : copselaw6_CellsCuts.f k l0 = some r) :
    Calls Tryd.prog 5 #[.slice A0 l0.length c0] w fun e w' => e = .returned (.bool r) ∧ Below w.heap.size w w' := by
  have HR0 := Aside0.mk hr0
  have HC0 := Aside0.mk hc0
  clear hr0 hc0
  have HB := Aside0.mk (Below.refl w.heap.size w)
  have HG := Aside0.mk hG
  clear hG
  have H : (if ([] : List Int).length + l0.length < 17592186044416 then ((some (([] : List Int) ++ l0 : List Int)).bind fun y120 => (if y120.length < 17592186044416 then ((some (y120 ++ [(-9)] : List Int)).bind fun y123 => (if 0 ≤ (l0.length : Int) then (if (l0.length : Int) ≤ (y123.length : Int) then ((cells_Cut.f k (y123.take ((l0.length : Int) : Int).toNat)).bind fun bt130 => ((cells_Pivot.f k (y123.take ((l0.length : Int) : Int).toNat)).bind fun bt136 => ((some (([] : List Int) ++ l0 : List Int)).bind fun y138 => ((copseref6_Cut.f k y138).bind fun bt141 => ((copseref6_Pivot.f k y138).bind fun bt143 => ((copseref0_SameInts.f k (y123.take ((l0.length : Int) : Int).toNat) l0).bind fun t149 => (if t149 = true then (if (l0.length : Int) < (y123.length : Int) then (copselaw6_CellsCuts.j0 k l0 (l0.length : Int) y123 bt130.1 bt130.2 bt136.1 bt136.2 y138 bt141.1 bt141.2 bt143.1 bt143.2 ((rd y123 (l0.length : Int)) == (-9))) else (none)) else (copselaw6_CellsCuts.j0 k l0 (l0.length : Int) y123 bt130.1 bt130.2 bt136.1 bt136.2 y138 bt141.1 bt141.2 bt143.1 bt143.2 false)))))))) else (none)) else (none))) else (none))) else (none)) = some r := h
  clear h
  by_cases c2 : ([] : List Int).length + l0.length < 17592186044416
  · rw [if_pos c2] at H
    have LMc2 := Aside0.mk c2
    clear c2
    obtain ⟨y120, hy120⟩ : ∃ y_ : List Int, y_ = (([] : List Int) ++ l0) := ⟨_, rfl⟩
    replace H : (if y120.length < 17592186044416 then ((some (y120 ++ [(-9)] : List Int)).bind fun y123 => (if 0 ≤ (l0.length : Int) then (if (l0.length : Int) ≤ (y123.length : Int) then ((cells_Cut.f k (y123.take ((l0.length : Int) : Int).toNat)).bind fun bt130 => ((cells_Pivot.f k (y123.take ((l0.length : Int) : Int).toNat)).bind fun bt136 => ((some (([] : List Int) ++ l0 : List Int)).bind fun y138 => ((copseref6_Cut.f k y138).bind fun bt141 => ((copseref6_Pivot.f k y138).bind fun bt143 => ((copseref0_SameInts.f k (y123.take ((l0.length : Int) : Int).toNat) l0).bind fun t149 => (if t149 = true then (if (l0.length : Int) < (y123.length : Int) then (copselaw6_CellsCuts.j0 k l0 (l0.length : Int) y123 bt130.1 bt130.2 bt136.1 bt136.2 y138 bt141.1 bt141.2 bt143.1 bt143.2 ((rd y123 (l0.length : Int)) == (-9))) else (none)) else (copselaw6_CellsCuts.j0 k l0 (l0.length : Int) y123 bt130.1 bt130.2 bt136.1 bt136.2 y138 bt141.1 bt141.2 bt143.1 bt143.2 false)))))))) else (none)) else (none))) else (none)) = some r := by first | (rw [hy120]; with_reducible exact H) | (have H2_ := (Option.bind_some _ _).symm.trans H; rw [hy120]; with_reducible exact H2_) | (have H2_ := (Option.bind_some _ _).symm.trans H; with_reducible exact H2_) | with_reducible exact H | (rw [hy120]; exact H) | exact H
    have Ny120 := Aside0.mk hy120
    clear hy120
    by_cases c3 : y120.length < 17592186044416
    · rw [if_pos c3] at H
      have LMc3 := Aside0.mk c3
      clear c3
      obtain ⟨y123, hy123⟩ : ∃ y_ : List Int, y_ = (y120 ++ [(-9)]) := ⟨_, rfl⟩
      replace H : (if 0 ≤ (l0.length : Int) then (if (l0.length : Int) ≤ (y123.length : Int) then ((cells_Cut.f k (y123.take ((l0.length : Int) : Int).toNat)).bind fun bt130 => ((cells_Pivot.f k (y123.take ((l0.length : Int) : Int).toNat)).bind fun bt136 => ((some (([] : List Int) ++ l0 : List Int)).bind fun y138 => ((copseref6_Cut.f k y138).bind fun bt141 => ((copseref6_Pivot.f k y138).bind fun bt143 => ((copseref0_SameInts.f k (y123.take ((l0.length : Int) : Int).toNat) l0).bind fun t149 => (if t149 = true then (if (l0.length : Int) < (y123.length : Int) then (copselaw6_CellsCuts.j0 k l0 (l0.length : Int) y123 bt130.1 bt130.2 bt136.1 bt136.2 y138 bt141.1 bt141.2 bt143.1 bt143.2 ((rd y123 (l0.length : Int)) == (-9))) else (none)) else (copselaw6_CellsCuts.j0 k l0 (l0.length : Int) y123 bt130.1 bt130.2 bt136.1 bt136.2 y138 bt141.1 bt141.2 bt143.1 bt143.2 false)))))))) else (none)) else (none)) = some r := by first | (rw [hy123]; with_reducible exact H) | (have H2_ := (Option.bind_some _ _).symm.trans H; rw [hy123]; with_reducible exact H2_) | (have H2_ := (Option.bind_some _ _).symm.trans H; with_reducible exact H2_) | with_reducible exact H | (rw [hy123]; exact H) | exact H
      have Ny123 := Aside0.mk hy123
      clear hy123
      by_cases c4 : 0 ≤ (l0.length : Int)
      · rw [if_pos c4] at H
        have c4b0 := eq_true c4
        have c4b1 : decide (0 ≤ (l0.length : Int)) = true := decide_eq_true c4
        clear c4
        by_cases c5 : (l0.length : Int) ≤ (y123.length : Int)
        · rw [if_pos c5] at H
          have c5b0 := eq_true c5
          have c5b1 : decide ((l0.length : Int) ≤ (y123.length : Int)) = true := decide_eq_true c5
          clear c5
          obtain ⟨y126, hy126⟩ : ∃ y_ : List Int, y_ = (y123.take ((l0.length : Int) : Int).toNat) := ⟨_, rfl⟩
          replace H : ((cells_Cut.f k y126).bind fun bt130 => ((cells_Pivot.f k (y123.take ((l0.length : Int) : Int).toNat)).bind fun bt136 => ((some (([] : List Int) ++ l0 : List Int)).bind fun y138 => ((copseref6_Cut.f k y138).bind fun bt141 => ((copseref6_Pivot.f k y138).bind fun bt143 => ((copseref0_SameInts.f k (y123.take ((l0.length : Int) : Int).toNat) l0).bind fun t149 => (if t149 = true then (if (l0.length : Int) < (y123.length : Int) then (copselaw6_CellsCuts.j0 k l0 (l0.length : Int) y123 bt130.1 bt130.2 bt136.1 bt136.2 y138 bt141.1 bt141.2 bt143.1 bt143.2 ((rd y123 (l0.length : Int)) == (-9))) else (none)) else (copselaw6_CellsCuts.j0 k l0 (l0.length : Int) y123 bt130.1 bt130.2 bt136.1 bt136.2 y138 bt141.1 bt141.2 bt143.1 bt143.2 false)))))))) = some r := by first | (rw [hy126]; with_reducible exact H) | (have H2_ := (Option.bind_some _ _).symm.trans H; rw [hy126]; with_reducible exact H2_) | (have H2_ := (Option.bind_some _ _).symm.trans H; with_reducible exact H2_) | with_reducible exact H | (rw [hy126]; exact H) | exact H
          have Ny126 := Aside0.mk hy126
          clear hy126
          replace H := Option.bind_eq_some_iff.mp H
          obtain ⟨⟨t130, t131⟩, A60, H⟩ := H
          replace H : ((cells_Pivot.f k (y123.take ((l0.length : Int) : Int).toNat)).bind fun bt136 => ((some (([] : List Int) ++ l0 : List Int)).bind fun y138 => ((copseref6_Cut.f k y138).bind fun bt141 => ((copseref6_Pivot.f k y138).bind fun bt143 => ((copseref0_SameInts.f k (y123.take ((l0.length : Int) : Int).toNat) l0).bind fun t149 => (if t149 = true then (if (l0.length : Int) < (y123.length : Int) then (copselaw6_CellsCuts.j0 k l0 (l0.length : Int) y123 t130 t131 bt136.1 bt136.2 y138 bt141.1 bt141.2 bt143.1 bt143.2 ((rd y123 (l0.length : Int)) == (-9))) else (none)) else (copselaw6_CellsCuts.j0 k l0 (l0.length : Int) y123 t130 t131 bt136.1 bt136.2 y138 bt141.1 bt141.2 bt143.1 bt143.2 false))))))) = some r := H
          have A6 := Aside0.mk A60
          clear A60
          have c7b0 := eq_true (of_decide_eq_true (by first | (with_reducible assumption) | assumption) : 0 ≤ (l0.length : Int))
          have c8b0 := eq_true (of_decide_eq_true (by first | (with_reducible assumption) | assumption) : (l0.length : Int) ≤ (y123.length : Int))
          obtain ⟨y132, hy132⟩ : ∃ y_ : List Int, y_ = (y123.take ((l0.length : Int) : Int).toNat) := ⟨_, rfl⟩
          replace H : ((cells_Pivot.f k y132).bind fun bt136 => ((some (([] : List Int) ++ l0 : List Int)).bind fun y138 => ((copseref6_Cut.f k y138).bind fun bt141 => ((copseref6_Pivot.f k y138).bind fun bt143 => ((copseref0_SameInts.f k (y123.take ((l0.length : Int) : Int).toNat) l0).bind fun t149 => (if t149 = true then (if (l0.length : Int) < (y123.length : Int) then (copselaw6_CellsCuts.j0 k l0 (l0.length : Int) y123 t130 t131 bt136.1 bt136.2 y138 bt141.1 bt141.2 bt143.1 bt143.2 ((rd y123 (l0.length : Int)) == (-9))) else (none)) else (copselaw6_CellsCuts.j0 k l0 (l0.length : Int) y123 t130 t131 bt136.1 bt136.2 y138 bt141.1 bt141.2 bt143.1 bt143.2 false))))))) = some r := by first | (rw [hy132]; with_reducible exact H) | (have H2_ := (Option.bind_some _ _).symm.trans H; rw [hy132]; with_reducible exact H2_) | (have H2_ := (Option.bind_some _ _).symm.trans H; with_reducible exact H2_) | with_reducible exact H | (rw [hy132]; exact H) | exact H
          have Ny132 := Aside0.mk hy132
          clear hy132
          first | (have YEy132 := Aside0.mk (Ny132.out.trans Ny126.out.symm)) | skip
          replace H := Option.bind_eq_some_iff.mp H
          obtain ⟨⟨t136, t137⟩, A90, H⟩ := H
          replace H : ((some (([] : List Int) ++ l0 : List Int)).bind fun y138 => ((copseref6_Cut.f k y138).bind fun bt141 => ((copseref6_Pivot.f k y138).bind fun bt143 => ((copseref0_SameInts.f k (y123.take ((l0.length : Int) : Int).toNat) l0).bind fun t149 => (if t149 = true then (if (l0.length : Int) < (y123.length : Int) then (copselaw6_CellsCuts.j0 k l0 (l0.length : Int) y123 t130 t131 t136 t137 y138 bt141.1 bt141.2 bt143.1 bt143.2 ((rd y123 (l0.length : Int)) == (-9))) else (none)) else (copselaw6_CellsCuts.j0 k l0 (l0.length : Int) y123 t130 t131 t136 t137 y138 bt141.1 bt141.2 bt143.1 bt143.2 false)))))) = some r := H
          have A9 := Aside0.mk A90
          clear A90
          obtain ⟨y138, hy138⟩ : ∃ y_ : List Int, y_ = (([] : List Int) ++ l0) := ⟨_, rfl⟩
          replace H : ((copseref6_Cut.f k y138).bind fun bt141 => ((copseref6_Pivot.f k y138).bind fun bt143 => ((copseref0_SameInts.f k (y123.take ((l0.length : Int) : Int).toNat) l0).bind fun t149 => (if t149 = true then (if (l0.length : Int) < (y123.length : Int) then (copselaw6_CellsCuts.j0 k l0 (l0.length : Int) y123 t130 t131 t136 t137 y138 bt141.1 bt141.2 bt143.1 bt143.2 ((rd y123 (l0.length : Int)) == (-9))) else (none)) else (copselaw6_CellsCuts.j0 k l0 (l0.length : Int) y123 t130 t131 t136 t137 y138 bt141.1 bt141.2 bt143.1 bt143.2 false))))) = some r := by first | (rw [hy138]; with_reducible exact H) | (have H2_ := (Option.bind_some _ _).symm.trans H; rw [hy138]; with_reducible exact H2_) | (have H2_ := (Option.bind_some _ _).symm.trans H; with_reducible exact H2_) | with_reducible exact H | (rw [hy138]; exact H) | exact H
          have Ny138 := Aside0.mk hy138
          clear hy138
          first | (have YEy138 := Aside0.mk (Ny138.out.trans Ny120.out.symm)) | skip
          replace H := Option.bind_eq_some_iff.mp H
          obtain ⟨⟨t141, t142⟩, A100, H⟩ := H
          replace H : ((copseref6_Pivot.f k y138).bind fun bt143 => ((copseref0_SameInts.f k (y123.take ((l0.length : Int) : Int).toNat) l0).bind fun t149 => (if t149 = true then (if (l0.length : Int) < (y123.length : Int) then (copselaw6_CellsCuts.j0 k l0 (l0.length : Int) y123 t130 t131 t136 t137 y138 t141 t142 bt143.1 bt143.2 ((rd y123 (l0.length : Int)) == (-9))) else (none)) else (copselaw6_CellsCuts.j0 k l0 (l0.length : Int) y123 t130 t131 t136 t137 y138 t141 t142 bt143.1 bt143.2 false)))) = some r := H
          have A10 := Aside0.mk A100
          clear A100
          replace H := Option.bind_eq_some_iff.mp H
          obtain ⟨⟨t143, t144⟩, A110, H⟩ := H
          replace H : ((copseref0_SameInts.f k (y123.take ((l0.length : Int) : Int).toNat) l0).bind fun t149 => (if t149 = true then (if (l0.length : Int) < (y123.length : Int) then (copselaw6_CellsCuts.j0 k l0 (l0.length : Int) y123 t130 t131 t136 t137 y138 t141 t142 t143 t144 ((rd y123 (l0.length : Int)) == (-9))) else (none)) else (copselaw6_CellsCuts.j0 k l0 (l0.length : Int) y123 t130 t131 t136 t137 y138 t141 t142 t143 t144 false))) = some r := H
          have A11 := Aside0.mk A110
          clear A110
          have HC12 := Aside0.mk H
          clear H
          go_enter Tryd.func5, Tryd.ntmps5
          go_upto_region 11 with (first | ((with_reducible refine gate_builtin (b := .append) (xs := #[.tmp 18, .tmp 19]) rfl ?_); at_builtin; refine Kd.R_append_rows (Kd.int .i64) (w0 := w) w.heap.size rfl (.tmp 18) (.tmp 19) 43 3 (.int .i64 0) 8 rfl Tryd.underlying43 info3 rfl (by decide) (by omega) (.slice none 0 0) ([] : List Int) l0 _ _ _ (fun _ => True) (fun _ => False) rfl rfl ?aO ?aR (fun _ _ h => h) (fun _ h => h.elim) ?aF ?aB ?aS ?aL ?_; (case aR => repeat (first | exact HR0.out | (with_reducible refine Kd.C_alloc ?_ _) | (with_reducible refine Kd.C_drewN ?_ _) | (with_reducible refine Kd.C_drew ?_))); (case aB => exact (by repeat (first | (with_reducible first | exact HB.out | apply below_alloc | apply pw_below_drewN | apply below_drew1) | exact HB.out))); (case aF => exact (fun _ _ => trivial)); (case aO => exact ((Kd.R_nil _ _ _ _ (fun _ => True)))); (case aS => exact (below_size (by repeat (first | (with_reducible first | exact HB.out | apply below_alloc | apply pw_below_drewN | apply below_drew1) | exact HB.out)))); (case aL => have := LMc2.out; omega); intro v121 w13 ho hb hg hat; rw [← Ny120.out] at ho; have n0_ := Aside0.mk (hb); have n1_ := Aside0.mk (ho); clear HB; have HB := n0_; have HO122 := n1_; clear n0_ n1_; clear ho hb hg hat) | ((with_reducible refine gate_builtin (b := .append) (xs := #[.tmp 21, .tmp 22]) rfl ?_); at_builtin; refine Kd.R_append (Kd.int .i64) (w0 := w) w.heap.size rfl (.tmp 21) (.tmp 22) 43 3 (.int .i64 0) 8 rfl Tryd.underlying43 info3 rfl (by decide) (by omega) v121 y120 (-9) [.int .i64 (-9)] (fun _ => True) (fun _ => False) rfl rfl ?aP (fun _ hk => hk.elim) ?aF ?aO ?aB ?aS ?aL ?_; (case aP => exact rfl); (case aB => exact (by repeat (first | (with_reducible first | exact HB.out | apply below_alloc | apply pw_below_drewN | apply below_drew1) | exact HB.out))); (case aF => exact (fun _ _ => trivial)); (case aO => exact (by (with_reducible repeat (first | apply Kd.R_alloc | apply Kd.R_drewN | apply Kd.R_drew)); exact HO122.out)); (case aS => exact (below_size (by repeat (first | (with_reducible first | exact HB.out | apply below_alloc | apply pw_below_drewN | apply below_drew1) | exact HB.out)))); (case aL => have := LMc3.out; omega); intro v124 w14 ho hb hg hat; rw [← Ny123.out] at ho; have n0_ := Aside0.mk (hb); have n1_ := Aside0.mk (ho); clear HB; clear HO122; have HB := n0_; have HO125 := n1_; clear n0_ n1_; clear ho hb hg hat; obtain ⟨Ao16, co16, eo16⟩ := Kd.R_slice HO125.out; subst eo16; have q15 : ((l0.length : Int) : Int) ≤ ((y123.length : Int) : Int) := of_decide_eq_true (by first | (with_reducible assumption) | assumption); obtain ⟨i015, hi015, _, hsz15, _⟩ := info_parts info3; have hroom15 : y123.length ≤ co16 := (Kd.R_reads' HO125.out).2.1; have hC15 : Kd.C (Kd.int .i64) _ Ao16 y123.length y123 := (Kd.R_reads' HO125.out).2.2; have hcut15 := cut_to (P := Tryd.prog) 43 3 .i64 Tryd.underlying43 hi015 Ao16 y123.length co16 (l0.length : Int) (of_decide_eq_true (by first | (with_reducible assumption) | assumption)) q15 hroom15; have hr15 := Kd.C_take (m := ((l0.length : Int) : Int).toNat) hC15 (by omega); have hy15 : y126.length = ((l0.length : Int) : Int).toNat := (by rw [Ny126.out, List.length_take]; omega); rw [← Ny126.out] at hr15; rw [← hy15] at hcut15; have HR129 := Aside0.mk hr15; have HC129 := Aside0.mk (show y126.length ≤ co16 from by omega); clear hr15 hC15 hroom15 hi015 hsz15; have KY15 := Aside0.mk hy15; clear hy15; have KL15 := Aside0.mk (show ((l0.length : Int) : Int).toNat ≤ y123.length from by omega); replace q15 := eq_true q15) | ((with_reducible refine gate_callee (f := 21) rfl ?_); refine goesL_ (some 28) rfl rfl Tryd.func21 (by kernel_rfl) rfl #[.slice Ao16 y126.length co16] rfl (by (try simp only [List.map_toArray, List.map_cons, List.map_nil]); first | done | rfl | (simp only [List.length_drop, List.length_take]; rfl) | (simp only [YEy138.out]; rfl) | (simp only [YEy132.out]; rfl)) ?_; (with_reducible refine (cells_Cut.calls k E _ _ y126 t130 t131 _ ?side1 ?side2 ?side3 A6.out).mono ?_); (case side1 => exact (Glob.below HG.out (by repeat (first | (with_reducible first | exact HB.out | apply below_alloc | apply pw_below_drewN | apply below_drew1) | exact HB.out)))); (case side2 => repeat (first | exact (by repeat (first | (with_reducible exact HR129.out) | (with_reducible refine Kd.C_alloc ?_ _) | (with_reducible refine Kd.C_drewN ?_ _) | (with_reducible refine Kd.C_drew ?_) | exact HR129.out)) | (with_reducible refine Kd.C_alloc ?_ _) | (with_reducible refine Kd.C_drewN ?_ _) | (with_reducible refine Kd.C_drew ?_))); (case side3 => exact HC129.out); rintro e w17 ⟨rfl, hb⟩; refine ⟨_, rfl, ?_⟩; have n0_ := Aside0.mk (Kd.R_below (by (with_reducible repeat (first | apply Kd.R_alloc | apply Kd.R_drewN | apply Kd.R_drew)); exact HO125.out) hb); have n1_ := Aside0.mk (Kd.C_below (by repeat (first | (with_reducible exact HR129.out) | (with_reducible refine Kd.C_alloc ?_ _) | (with_reducible refine Kd.C_drewN ?_ _) | (with_reducible refine Kd.C_drew ?_) | exact HR129.out)) hb); have n2_ := Aside0.mk (below_step (by repeat (first | (with_reducible first | exact HB.out | apply below_alloc | apply pw_below_drewN | apply below_drew1) | exact HB.out)) hb); clear HO125; clear HR129; clear HB; have HO125 := n0_; have HR129 := n1_; have HB := n2_; clear n0_ n1_ n2_; (try clear hb); (try clear hb2); (try clear hk); (try clear hi); (try simp only [errW_none, errW_some]); have q18 : ((l0.length : Int) : Int) ≤ ((y123.length : Int) : Int) := of_decide_eq_true (by first | (with_reducible assumption) | assumption); obtain ⟨i018, hi018, _, hsz18, _⟩ := info_parts info3; have hroom18 : y123.length ≤ co16 := (Kd.R_reads' HO125.out).2.1; have hC18 : Kd.C (Kd.int .i64) _ Ao16 y123.length y123 := (Kd.R_reads' HO125.out).2.2; have hcut18 := cut_to (P := Tryd.prog) 43 3 .i64 Tryd.underlying43 hi018 Ao16 y123.length co16 (l0.length : Int) (of_decide_eq_true (by first | (with_reducible assumption) | assumption)) q18 hroom18; have hr18 := Kd.C_take (m := ((l0.length : Int) : Int).toNat) hC18 (by omega); have hy18 : y132.length = ((l0.length : Int) : Int).toNat := (by rw [Ny132.out, List.length_take]; omega); rw [← Ny132.out] at hr18; rw [← hy18] at hcut18; have HR135 := Aside0.mk hr18; have HC135 := Aside0.mk (show y132.length ≤ co16 from by omega); clear hr18 hC18 hroom18 hi018 hsz18; have KY18 := Aside0.mk hy18; clear hy18; have KL18 := Aside0.mk (show ((l0.length : Int) : Int).toNat ≤ y123.length from by omega); replace q18 := eq_true q18) | ((with_reducible refine gate_callee (f := 22) rfl ?_); refine goesL_ (some 35) rfl rfl Tryd.func22 (by kernel_rfl) rfl #[.slice Ao16 y132.length co16] rfl (by (try simp only [List.map_toArray, List.map_cons, List.map_nil]); first | done | rfl | (simp only [List.length_drop, List.length_take]; rfl) | (simp only [YEy138.out]; rfl) | (simp only [YEy132.out]; rfl)) ?_; (with_reducible refine (cells_Pivot.calls k E _ _ y132 t136 t137 _ ?side1 ?side2 ?side3 A9.out).mono ?_); (case side1 => exact (Glob.below HG.out (by repeat (first | (with_reducible first | exact HB.out | apply below_alloc | apply pw_below_drewN | apply below_drew1) | exact HB.out)))); (case side2 => repeat (first | exact (by repeat (first | (with_reducible exact HR135.out) | (with_reducible refine Kd.C_alloc ?_ _) | (with_reducible refine Kd.C_drewN ?_ _) | (with_reducible refine Kd.C_drew ?_) | exact HR135.out)) | (with_reducible refine Kd.C_alloc ?_ _) | (with_reducible refine Kd.C_drewN ?_ _) | (with_reducible refine Kd.C_drew ?_))); (case side3 => exact HC135.out); rintro e w19 ⟨rfl, hb⟩; refine ⟨_, rfl, ?_⟩; have n0_ := Aside0.mk (Kd.R_below (by (with_reducible repeat (first | apply Kd.R_alloc | apply Kd.R_drewN | apply Kd.R_drew)); exact HO125.out) hb); have n1_ := Aside0.mk (Kd.C_below (by repeat (first | (with_reducible exact HR129.out) | (with_reducible refine Kd.C_alloc ?_ _) | (with_reducible refine Kd.C_drewN ?_ _) | (with_reducible refine Kd.C_drew ?_) | exact HR129.out)) hb); have n2_ := Aside0.mk (Kd.C_below (by repeat (first | (with_reducible exact HR135.out) | (with_reducible refine Kd.C_alloc ?_ _) | (with_reducible refine Kd.C_drewN ?_ _) | (with_reducible refine Kd.C_drew ?_) | exact HR135.out)) hb); have n3_ := Aside0.mk (below_step (by repeat (first | (with_reducible first | exact HB.out | apply below_alloc | apply pw_below_drewN | apply below_drew1) | exact HB.out)) hb); clear HO125; clear HR129; clear HR135; clear HB; have HO125 := n0_; have HR129 := n1_; have HR135 := n2_; have HB := n3_; clear n0_ n1_ n2_ n3_; (try clear hb); (try clear hb2); (try clear hk); (try clear hi); (try simp only [errW_none, errW_some])) | ((with_reducible refine gate_builtin (b := .append) (xs := #[.tmp 38, .tmp 39]) rfl ?_); at_builtin; refine Kd.R_append_rows (Kd.int .i64) (w0 := w) w.heap.size rfl (.tmp 38) (.tmp 39) 43 3 (.int .i64 0) 8 rfl Tryd.underlying43 info3 rfl (by decide) (by omega) (.slice none 0 0) ([] : List Int) l0 _ _ _ (fun k_ => some k_ ≠ (.slice Ao16 y123.length co16 : Value).ownBlock) (fun _ => False) rfl rfl ?aO ?aR (fun _ _ h => h) (fun _ h => h.elim) ?aF ?aB ?aS ?aL ?_; (case aR => repeat (first | exact (Kd.C_below HR0.out HB.out) | (with_reducible refine Kd.C_alloc ?_ _) | (with_reducible refine Kd.C_drewN ?_ _) | (with_reducible refine Kd.C_drew ?_))); (case aB => exact (by repeat (first | (with_reducible first | exact HB.out | apply below_alloc | apply pw_below_drewN | apply below_drew1) | exact HB.out))); (case aF => exact (fun k_ hk => Kd.fresh' (Kd.R_lt (by (with_reducible repeat (first | apply Kd.R_alloc | apply Kd.R_drewN | apply Kd.R_drew)); exact HO125.out)) k_ hk)); (case aO => exact ((Kd.R_nil _ _ _ _ (fun k_ => some k_ ≠ (.slice Ao16 y123.length co16 : Value).ownBlock)))); (case aS => exact (below_size (by repeat (first | (with_reducible first | exact HB.out | apply below_alloc | apply pw_below_drewN | apply below_drew1) | exact HB.out)))); (case aL => have := LMc2.out; omega); intro v139 w20 ho hb hg hat; rw [← Ny138.out] at ho; have n0_ := Aside0.mk (Kd.R_after (Kd.R_apart_nil (by (with_reducible repeat (first | apply Kd.R_alloc | apply Kd.R_drewN | apply Kd.R_drew)); exact HO125.out)) hg hat); have n1_ := Aside0.mk (hb); have n2_ := Aside0.mk ((show Kd.C (Kd.int .i64) w20 Ao16 y126.length y126 from by rw [Ny126.out]; exact Kd.C_take (m := ((l0.length : Int) : Int).toNat) ((Kd.R_reads' (Kd.R_after (Kd.R_apart_nil (by (with_reducible repeat (first | apply Kd.R_alloc | apply Kd.R_drewN | apply Kd.R_drew)); exact HO125.out)) hg hat)).2.2) KL15.out)); have n3_ := Aside0.mk ((show Kd.C (Kd.int .i64) w20 Ao16 y132.length y132 from by rw [Ny132.out]; exact Kd.C_take (m := ((l0.length : Int) : Int).toNat) ((Kd.R_reads' (Kd.R_after (Kd.R_apart_nil (by (with_reducible repeat (first | apply Kd.R_alloc | apply Kd.R_drewN | apply Kd.R_drew)); exact HO125.out)) hg hat)).2.2) KL18.out)); have n4_ := Aside0.mk (ho); clear HO125; clear HB; clear HR129; clear HR135; have HO125 := n0_; have HB := n1_; have HR129 := n2_; have HR135 := n3_; have HO140 := n4_; clear n0_ n1_ n2_ n3_ n4_; clear ho hb hg hat; obtain ⟨Ao21, co21, eo21⟩ := Kd.R_slice HO140.out; subst eo21) | ((with_reducible refine gate_callee (f := 23) rfl ?_); refine goesL_ (some 43) rfl rfl Tryd.func23 (by kernel_rfl) rfl #[.slice Ao21 y138.length co21] rfl (by (try simp only [List.map_toArray, List.map_cons, List.map_nil]); first | done | rfl | (simp only [List.length_drop, List.length_take]; rfl) | (simp only [YEy138.out]; rfl) | (simp only [YEy132.out]; rfl)) ?_; (with_reducible refine (copseref6_Cut.calls k _ _ y138 t141 t142 _ ?side1 ?side2 A10.out).mono ?_); (case side1 => repeat (first | exact (Kd.R_reads' HO140.out).2.2 | (with_reducible refine Kd.C_alloc ?_ _) | (with_reducible refine Kd.C_drewN ?_ _) | (with_reducible refine Kd.C_drew ?_))); (case side2 => exact (Kd.R_reads' HO140.out).2.1); rintro e w' ⟨rfl, ⟨nd, rfl⟩⟩; refine ⟨_, rfl, ?_⟩) | ((with_reducible refine gate_callee (f := 24) rfl ?_); refine goesL_ (some 48) rfl rfl Tryd.func24 (by kernel_rfl) rfl #[.slice Ao21 y138.length co21] rfl (by (try simp only [List.map_toArray, List.map_cons, List.map_nil]); first | done | rfl | (simp only [List.length_drop, List.length_take]; rfl) | (simp only [YEy138.out]; rfl) | (simp only [YEy132.out]; rfl)) ?_; (with_reducible refine (copseref6_Pivot.calls k _ _ y138 t143 t144 _ ?side1 ?side2 A11.out).mono ?_); (case side1 => repeat (first | exact (Kd.R_reads' HO140.out).2.2 | (with_reducible refine Kd.C_alloc ?_ _) | (with_reducible refine Kd.C_drewN ?_ _) | (with_reducible refine Kd.C_drew ?_))); (case side2 => exact (Kd.R_reads' HO140.out).2.1); rintro e w' ⟨rfl, ⟨nd, rfl⟩⟩; refine ⟨_, rfl, ?_⟩))
          (try simp only [Act.put, List.setIfInBounds_toArray, List.set_cons_zero, List.set_cons_succ])
          go_cut [14] (fun v14 wc => ∃ (kq : Nat) (x14_11 : Bool), v14 = .bool x14_11 ∧ Aside0 (copselaw6_CellsCuts.j0 kq l0 (l0.length : Int) y123 t130 t131 t136 t137 y138 t141 t142 t143 t144 x14_11 = some r) ∧ Aside0 (kq ≤ k) ∧ Aside0 (Kd.R (Kd.int .i64) 3 wc w.heap.size (fun k_ => some k_ ≠ ((.slice Ao21 y138.length co21) : Value).ownBlock) (.slice Ao16 y123.length co16) y123) ∧ Aside0 (Kd.R (Kd.int .i64) 3 wc w.heap.size (fun k_ => some k_ ≠ ((.slice Ao16 y123.length co16) : Value).ownBlock) (.slice Ao21 y138.length co21) y138) ∧ Aside0 (Below w.heap.size w wc))
          case first =>
            have H := HC12.out
            clear HC12
            have c22b0 := eq_true (of_decide_eq_true (by first | (with_reducible assumption) | assumption) : 0 ≤ (l0.length : Int))
            have c23b0 := eq_true (of_decide_eq_true (by first | (with_reducible assumption) | assumption) : (l0.length : Int) ≤ (y123.length : Int))
            obtain ⟨y145, hy145⟩ : ∃ y_ : List Int, y_ = (y123.take ((l0.length : Int) : Int).toNat) := ⟨_, rfl⟩
            replace H : ((copseref0_SameInts.f k y145 l0).bind fun t149 => (if t149 = true then (if (l0.length : Int) < (y123.length : Int) then (copselaw6_CellsCuts.j0 k l0 (l0.length : Int) y123 t130 t131 t136 t137 y138 t141 t142 t143 t144 ((rd y123 (l0.length : Int)) == (-9))) else (none)) else (copselaw6_CellsCuts.j0 k l0 (l0.length : Int) y123 t130 t131 t136 t137 y138 t141 t142 t143 t144 false))) = some r := by first | (rw [hy145]; with_reducible exact H) | (have H2_ := (Option.bind_some _ _).symm.trans H; rw [hy145]; with_reducible exact H2_) | (have H2_ := (Option.bind_some _ _).symm.trans H; with_reducible exact H2_) | with_reducible exact H | (rw [hy145]; exact H) | exact H
            have Ny145 := Aside0.mk hy145
            clear hy145
            first | (have YEy145 := Aside0.mk (Ny145.out.trans Ny126.out.symm)) | skip
            replace H := Option.bind_eq_some_iff.mp H
            obtain ⟨t149, A240, H⟩ := H
            replace H : (if t149 = true then (if (l0.length : Int) < (y123.length : Int) then (copselaw6_CellsCuts.j0 k l0 (l0.length : Int) y123 t130 t131 t136 t137 y138 t141 t142 t143 t144 ((rd y123 (l0.length : Int)) == (-9))) else (none)) else (copselaw6_CellsCuts.j0 k l0 (l0.length : Int) y123 t130 t131 t136 t137 y138 t141 t142 t143 t144 false)) = some r := H
            have A24 := Aside0.mk A240
            clear A240
            by_cases c25 : t149 = true
            · subst c25
              have H1 : (if (l0.length : Int) < (y123.length : Int) then (copselaw6_CellsCuts.j0 k l0 (l0.length : Int) y123 t130 t131 t136 t137 y138 t141 t142 t143 t144 ((rd y123 (l0.length : Int)) == (-9))) else (none)) = some r := by rw [if_pos rfl] at H; exact H
              clear H
              have H := H1
              clear H1
              by_cases c26 : (l0.length : Int) < (y123.length : Int)
              · rw [if_pos c26] at H
                have c26b0 : decide ((l0.length : Int) < (y123.length : Int)) = true := decide_eq_true c26
                have c26b1 : decide (l0.length < y123.length) = true := decide_eq_true (Int.ofNat_lt.mp c26)
                clear c26
                (first | rw [c26b0] | (simp only [i64_w, i32_w]; rw [c26b0]) | skip)
                have H' := Aside0.mk H
                clear H
                have q27 : ((l0.length : Int) : Int) ≤ ((y123.length : Int) : Int) := of_decide_eq_true (by first | (with_reducible assumption) | assumption)
                obtain ⟨i027, hi027, _, hsz27, _⟩ := info_parts info3
                have hroom27 : y123.length ≤ co16 := (Kd.R_reads' HO125.out).2.1
                have hC27 : Kd.C (Kd.int .i64) _ Ao16 y123.length y123 := (Kd.R_reads' HO125.out).2.2
                have hcut27 := cut_to (P := Tryd.prog) 43 3 .i64 Tryd.underlying43 hi027 Ao16 y123.length co16 (l0.length : Int) (of_decide_eq_true (by first | (with_reducible assumption) | assumption)) q27 hroom27
                have hr27 := Kd.C_take (m := ((l0.length : Int) : Int).toNat) hC27 (by omega)
                have hy27 : y145.length = ((l0.length : Int) : Int).toNat := (by rw [Ny145.out, List.length_take]; omega)
                rw [← Ny145.out] at hr27
                rw [← hy27] at hcut27
                have HR148 := Aside0.mk hr27
                have HC148 := Aside0.mk (show y145.length ≤ co16 from by omega)
                clear hr27 hC27 hroom27 hi027 hsz27
                have KY27 := Aside0.mk hy27
                clear hy27
                have KL27 := Aside0.mk (show ((l0.length : Int) : Int).toNat ≤ y123.length from by omega)
                replace q27 := eq_true q27
                go_wp2_with (first | ((with_reducible refine gate_callee (f := 25) rfl ?_); refine goesL_ (some 55) rfl rfl Tryd.func25 (by kernel_rfl) rfl #[.slice Ao16 y145.length co16, .slice A0 l0.length c0] rfl (by (try simp only [List.map_toArray, List.map_cons, List.map_nil]); first | done | rfl | (simp only [List.length_drop, List.length_take]; rfl) | (simp only [YEy145.out]; rfl)) ?_; (with_reducible refine (copseref0_SameInts.calls k _ _ y145 _ _ l0 true _ ?side1 ?side2 ?side3 ?side4 A24.out).mono ?_); (case side1 => repeat (first | exact (by repeat (first | (with_reducible exact HR148.out) | (with_reducible refine Kd.C_alloc ?_ _) | (with_reducible refine Kd.C_drewN ?_ _) | (with_reducible refine Kd.C_drew ?_) | exact HR148.out)) | (with_reducible refine Kd.C_alloc ?_ _) | (with_reducible refine Kd.C_drewN ?_ _) | (with_reducible refine Kd.C_drew ?_))); (case side2 => exact HC148.out); (case side3 => repeat (first | exact (Kd.C_below HR0.out HB.out) | (with_reducible refine Kd.C_alloc ?_ _) | (with_reducible refine Kd.C_drewN ?_ _) | (with_reducible refine Kd.C_drew ?_))); (case side4 => exact HC0.out); rintro e w' ⟨rfl, ⟨nd, rfl⟩⟩; refine ⟨_, rfl, ?_⟩; have p150 : 0 ≤ ((l0.length : Int) : Int) := of_decide_eq_true (by first | (with_reducible assumption) | assumption); have q150 : (l0.length : Int) < (y123.length : Int) := of_decide_eq_true (by first | (with_reducible assumption) | assumption); obtain ⟨ad150, e150, hx150_0⟩ := Kd.at_int (Kd.R_reads' HO125.out).2.2 (l0.length : Int) p150 q150; cases e150; (try simp only [Go.IntWalk.toNatUp] at hx150_0); replace p150 := eq_true p150; replace q150 := eq_true q150))
                go_meet
                case rel => exact ⟨_, (((rd y123 (l0.length : Int)) == (-9))), (by first | rfl | (simp; done) | (simp [*]; done)), H', ⟨by first | omega | exact Nat.le_refl _⟩, ⟨by (with_reducible repeat (first | apply Kd.R_alloc | apply Kd.R_drewN | apply Kd.R_drew)); exact Kd.R_mono HO125.out (fun _ hk => hk.2)⟩, ⟨by (with_reducible repeat (first | apply Kd.R_alloc | apply Kd.R_drewN | apply Kd.R_drew)); exact HO140.out⟩, ⟨by repeat (first | (with_reducible first | exact HB.out | apply below_alloc | apply pw_below_drewN | apply below_drew1) | exact HB.out)⟩⟩
              · rw [if_neg c26] at H
                exact absurd H (by simp)
            · replace c25 := Bool.eq_false_iff.mpr c25
              subst c25
              have H1 : (copselaw6_CellsCuts.j0 k l0 (l0.length : Int) y123 t130 t131 t136 t137 y138 t141 t142 t143 t144 false) = some r := by rw [if_neg (show ¬ (false = true) by decide)] at H; exact H
              clear H
              have H := H1
              clear H1
              have H' := Aside0.mk H
              clear H
              have q28 : ((l0.length : Int) : Int) ≤ ((y123.length : Int) : Int) := of_decide_eq_true (by first | (with_reducible assumption) | assumption)
              obtain ⟨i028, hi028, _, hsz28, _⟩ := info_parts info3
              have hroom28 : y123.length ≤ co16 := (Kd.R_reads' HO125.out).2.1
              have hC28 : Kd.C (Kd.int .i64) _ Ao16 y123.length y123 := (Kd.R_reads' HO125.out).2.2
              have hcut28 := cut_to (P := Tryd.prog) 43 3 .i64 Tryd.underlying43 hi028 Ao16 y123.length co16 (l0.length : Int) (of_decide_eq_true (by first | (with_reducible assumption) | assumption)) q28 hroom28
              have hr28 := Kd.C_take (m := ((l0.length : Int) : Int).toNat) hC28 (by omega)
              have hy28 : y145.length = ((l0.length : Int) : Int).toNat := (by rw [Ny145.out, List.length_take]; omega)
              rw [← Ny145.out] at hr28
              rw [← hy28] at hcut28
              have HR148 := Aside0.mk hr28
              have HC148 := Aside0.mk (show y145.length ≤ co16 from by omega)
              clear hr28 hC28 hroom28 hi028 hsz28
              have KY28 := Aside0.mk hy28
              clear hy28
              have KL28 := Aside0.mk (show ((l0.length : Int) : Int).toNat ≤ y123.length from by omega)
              replace q28 := eq_true q28
              go_wp2_with (first | ((with_reducible refine gate_callee (f := 25) rfl ?_); refine goesL_ (some 55) rfl rfl Tryd.func25 (by kernel_rfl) rfl #[.slice Ao16 y145.length co16, .slice A0 l0.length c0] rfl (by (try simp only [List.map_toArray, List.map_cons, List.map_nil]); first | done | rfl | (simp only [List.length_drop, List.length_take]; rfl) | (simp only [YEy145.out]; rfl)) ?_; (with_reducible refine (copseref0_SameInts.calls k _ _ y145 _ _ l0 false _ ?side1 ?side2 ?side3 ?side4 A24.out).mono ?_); (case side1 => repeat (first | exact (by repeat (first | (with_reducible exact HR148.out) | (with_reducible refine Kd.C_alloc ?_ _) | (with_reducible refine Kd.C_drewN ?_ _) | (with_reducible refine Kd.C_drew ?_) | exact HR148.out)) | (with_reducible refine Kd.C_alloc ?_ _) | (with_reducible refine Kd.C_drewN ?_ _) | (with_reducible refine Kd.C_drew ?_))); (case side2 => exact HC148.out); (case side3 => repeat (first | exact (Kd.C_below HR0.out HB.out) | (with_reducible refine Kd.C_alloc ?_ _) | (with_reducible refine Kd.C_drewN ?_ _) | (with_reducible refine Kd.C_drew ?_))); (case side4 => exact HC0.out); rintro e w' ⟨rfl, ⟨nd, rfl⟩⟩; refine ⟨_, rfl, ?_⟩))
              go_meet
              case rel => exact ⟨_, (false), (by first | rfl | (simp; done) | (simp [*]; done)), H', ⟨by first | omega | exact Nat.le_refl _⟩, ⟨by (with_reducible repeat (first | apply Kd.R_alloc | apply Kd.R_drewN | apply Kd.R_drew)); exact Kd.R_mono HO125.out (fun _ hk => hk.2)⟩, ⟨by (with_reducible repeat (first | apply Kd.R_alloc | apply Kd.R_drewN | apply Kd.R_drew)); exact HO140.out⟩, ⟨by repeat (first | (with_reducible first | exact HB.out | apply below_alloc | apply pw_below_drewN | apply below_drew1) | exact HB.out)⟩⟩
          case rest =>
            clear HC12
            try clear p1
            try clear q1
            try clear hx1
            try clear c2
            try clear p2
            try clear q2
            try clear c3
            try clear c4
            try clear c4b0
            try clear c4b1
            try clear c5
            try clear c5b0
            try clear c5b1
            try clear c7
            try clear c7b0
            try clear c8
            try clear c8b0
            try clear p15
            try clear q15
            try clear hx15
            try clear q18
            try clear c21
            try clear c22
            try clear c22b0
            try clear c23
            try clear c23b0
            try clear c24
            try clear c25
            try clear c26
            try clear c26b0
            try clear c26b1
            try clear q27
            try clear q28
            try clear hx150_0
            try clear p150
            try clear q15
            try clear q150
            try clear q18
            try clear q27
            try clear q28
            obtain ⟨kq, x14_11, rfl, HA, HJ11, HO_4, HO_9, HB⟩ := hcut
            cases kq with
            | zero => exact absurd HA.out (by simp [copselaw6_CellsCuts.j0])
            | succ kj11 =>
              have H := HA.out
              clear HA
              simp only [copselaw6_CellsCuts.j0] at H
              have HC29 := Aside0.mk H
              clear H
              go_upto_region 12 with (fail)
              go_cut [86] (fun v86 wc => ∃ (kq : Nat) (x86_28 : Bool), v86 = .bool x86_28 ∧ Aside0 (copselaw6_CellsCuts.j1 kq l0 (l0.length : Int) y123 y138 x86_28 = some r) ∧ Aside0 (kq ≤ kj11) ∧ Aside0 (Kd.R (Kd.int .i64) 3 wc w.heap.size (fun k_ => some k_ ≠ ((.slice Ao21 y138.length co21) : Value).ownBlock) (.slice Ao16 y123.length co16) y123) ∧ Aside0 (Kd.R (Kd.int .i64) 3 wc w.heap.size (fun k_ => some k_ ≠ ((.slice Ao16 y123.length co16) : Value).ownBlock) (.slice Ao21 y138.length co21) y138) ∧ Aside0 (Below w.heap.size w wc))
              case first =>
                have H := HC29.out
                clear HC29
                by_cases c30 : t130 = t141
                · rw [if_pos c30] at H
                  have c30b0 : (t130 == t141) = true := beq_iff_eq.mpr c30
                  have c30b1 : (t130 != t141) = false := bne_eq_false_iff_eq.mpr c30
                  clear c30
                  (first | rw [c30b0] | (simp only [i64_w, i32_w]; rw [c30b0]) | skip)
                  by_cases c31 : t136 = t143
                  · rw [if_pos c31] at H
                    have c31b0 : (t136 == t143) = true := beq_iff_eq.mpr c31
                    have c31b1 : (t136 != t143) = false := bne_eq_false_iff_eq.mpr c31
                    clear c31
                    replace H := Option.bind_eq_some_iff.mp H
                    obtain ⟨t151, A320, H⟩ := H
                    replace H : (if t151 = t142 then ((copsekit_Num.f t137).bind fun t152 => (if t152 = t144 then (copselaw6_CellsCuts.j1 kj11 l0 (l0.length : Int) y123 y138 (!x14_11)) else (copselaw6_CellsCuts.j1 kj11 l0 (l0.length : Int) y123 y138 true))) else (copselaw6_CellsCuts.j1 kj11 l0 (l0.length : Int) y123 y138 true)) = some r := H
                    have A32 := Aside0.mk A320
                    clear A320
                    by_cases c33 : t151 = t142
                    · rw [if_pos c33] at H
                      have c33b0 : (t151 == t142) = true := beq_iff_eq.mpr c33
                      have c33b1 : (t151 != t142) = false := bne_eq_false_iff_eq.mpr c33
                      clear c33
                      replace H := Option.bind_eq_some_iff.mp H
                      obtain ⟨t152, A340, H⟩ := H
                      replace H : (if t152 = t144 then (copselaw6_CellsCuts.j1 kj11 l0 (l0.length : Int) y123 y138 (!x14_11)) else (copselaw6_CellsCuts.j1 kj11 l0 (l0.length : Int) y123 y138 true)) = some r := H
                      have A34 := Aside0.mk A340
                      clear A340
                      by_cases c35 : t152 = t144
                      · rw [if_pos c35] at H
                        have c35b0 : (t152 == t144) = true := beq_iff_eq.mpr c35
                        have c35b1 : (t152 != t144) = false := bne_eq_false_iff_eq.mpr c35
                        clear c35
                        have H' := Aside0.mk H
                        clear H
                        have CA32 := fun (W : World) (hG_ : Glob E W) => copsekit_Num.calls E t131 t151 W hG_ A32.out
                        try simp only [errW_none, errW_some] at CA32
                        go_wp2_with (first | (go_at_call 16; (with_reducible refine (CA32 _ ?side1).mono ?_); (case side1 => exact (Glob.below HG.out (by repeat (first | (with_reducible first | exact HB.out | apply below_alloc | apply pw_below_drewN | apply below_drew1) | exact HB.out)))); rintro e w' ⟨rfl, ⟨nd, rfl⟩⟩; have CA34 := fun (W : World) (hG_ : Glob E W) => copsekit_Num.calls E t137 t152 W hG_ A34.out; try simp only [errW_none, errW_some] at CA34) | (go_at_call 16; (with_reducible refine (CA34 _ ?side1).mono ?_); (case side1 => exact (Glob.below HG.out (by repeat (first | (with_reducible first | exact HB.out | apply below_alloc | apply pw_below_drewN | apply below_drew1) | exact HB.out)))); rintro e w' ⟨rfl, ⟨nd, rfl⟩⟩))
                        go_meet
                        case rel => exact ⟨_, (!x14_11), (by first | rfl | (simp; done) | (simp [*]; done)), H', ⟨by have := HJ11.out; first | omega | exact Nat.le_refl _⟩, ⟨by (with_reducible repeat (first | apply Kd.R_alloc | apply Kd.R_drewN | apply Kd.R_drew)); exact HO_4.out⟩, ⟨by (with_reducible repeat (first | apply Kd.R_alloc | apply Kd.R_drewN | apply Kd.R_drew)); exact HO_9.out⟩, ⟨by repeat (first | (with_reducible first | exact HB.out | apply below_alloc | apply pw_below_drewN | apply below_drew1) | exact HB.out)⟩⟩
                      · rw [if_neg c35] at H
                        have c35b0 : (t152 == t144) = false := beq_eq_false_iff_ne.mpr c35
                        have c35b1 : (t152 != t144) = true := bne_iff_ne.mpr c35
                        have H' := Aside0.mk H
                        clear H
                        have CA32 := fun (W : World) (hG_ : Glob E W) => copsekit_Num.calls E t131 t151 W hG_ A32.out
                        try simp only [errW_none, errW_some] at CA32
                        go_wp2_with (first | (go_at_call 16; (with_reducible refine (CA32 _ ?side1).mono ?_); (case side1 => exact (Glob.below HG.out (by repeat (first | (with_reducible first | exact HB.out | apply below_alloc | apply pw_below_drewN | apply below_drew1) | exact HB.out)))); rintro e w' ⟨rfl, ⟨nd, rfl⟩⟩; have CA34 := fun (W : World) (hG_ : Glob E W) => copsekit_Num.calls E t137 t152 W hG_ A34.out; try simp only [errW_none, errW_some] at CA34) | (go_at_call 16; (with_reducible refine (CA34 _ ?side1).mono ?_); (case side1 => exact (Glob.below HG.out (by repeat (first | (with_reducible first | exact HB.out | apply below_alloc | apply pw_below_drewN | apply below_drew1) | exact HB.out)))); rintro e w' ⟨rfl, ⟨nd, rfl⟩⟩))
                        go_meet
                        case rel => exact ⟨_, (true), (by first | rfl | (simp; done) | (simp [*]; done)), H', ⟨by have := HJ11.out; first | omega | exact Nat.le_refl _⟩, ⟨by (with_reducible repeat (first | apply Kd.R_alloc | apply Kd.R_drewN | apply Kd.R_drew)); exact HO_4.out⟩, ⟨by (with_reducible repeat (first | apply Kd.R_alloc | apply Kd.R_drewN | apply Kd.R_drew)); exact HO_9.out⟩, ⟨by repeat (first | (with_reducible first | exact HB.out | apply below_alloc | apply pw_below_drewN | apply below_drew1) | exact HB.out)⟩⟩
                    · rw [if_neg c33] at H
                      have c33b0 : (t151 == t142) = false := beq_eq_false_iff_ne.mpr c33
                      have c33b1 : (t151 != t142) = true := bne_iff_ne.mpr c33
                      have H' := Aside0.mk H
                      clear H
                      have CA32 := fun (W : World) (hG_ : Glob E W) => copsekit_Num.calls E t131 t151 W hG_ A32.out
                      try simp only [errW_none, errW_some] at CA32
                      go_wp2_with (first | (go_at_call 16; (with_reducible refine (CA32 _ ?side1).mono ?_); (case side1 => exact (Glob.below HG.out (by repeat (first | (with_reducible first | exact HB.out | apply below_alloc | apply pw_below_drewN | apply below_drew1) | exact HB.out)))); rintro e w' ⟨rfl, ⟨nd, rfl⟩⟩))
                      go_meet
                      case rel => exact ⟨_, (true), (by first | rfl | (simp; done) | (simp [*]; done)), H', ⟨by have := HJ11.out; first | omega | exact Nat.le_refl _⟩, ⟨by (with_reducible repeat (first | apply Kd.R_alloc | apply Kd.R_drewN | apply Kd.R_drew)); exact HO_4.out⟩, ⟨by (with_reducible repeat (first | apply Kd.R_alloc | apply Kd.R_drewN | apply Kd.R_drew)); exact HO_9.out⟩, ⟨by repeat (first | (with_reducible first | exact HB.out | apply below_alloc | apply pw_below_drewN | apply below_drew1) | exact HB.out)⟩⟩
                  · rw [if_neg c31] at H
                    have c31b0 : (t136 == t143) = false := beq_eq_false_iff_ne.mpr c31
                    have c31b1 : (t136 != t143) = true := bne_iff_ne.mpr c31
                    have H' := Aside0.mk H
                    clear H
                    go_wp2
                    go_meet
                    case rel => exact ⟨_, (true), (by first | rfl | (simp; done) | (simp [*]; done)), H', ⟨by have := HJ11.out; first | omega | exact Nat.le_refl _⟩, ⟨by (with_reducible repeat (first | apply Kd.R_alloc | apply Kd.R_drewN | apply Kd.R_drew)); exact HO_4.out⟩, ⟨by (with_reducible repeat (first | apply Kd.R_alloc | apply Kd.R_drewN | apply Kd.R_drew)); exact HO_9.out⟩, ⟨by repeat (first | (with_reducible first | exact HB.out | apply below_alloc | apply pw_below_drewN | apply below_drew1) | exact HB.out)⟩⟩
                · rw [if_neg c30] at H
                  have c30b0 : (t130 == t141) = false := beq_eq_false_iff_ne.mpr c30
                  have c30b1 : (t130 != t141) = true := bne_iff_ne.mpr c30
                  (first | rw [c30b0] | (simp only [i64_w, i32_w]; rw [c30b0]) | skip)
                  have H' := Aside0.mk H
                  clear H
                  go_wp2
                  go_meet
                  case rel => exact ⟨_, (true), (by first | rfl | (simp; done) | (simp [*]; done)), H', ⟨by have := HJ11.out; first | omega | exact Nat.le_refl _⟩, ⟨by (with_reducible repeat (first | apply Kd.R_alloc | apply Kd.R_drewN | apply Kd.R_drew)); exact HO_4.out⟩, ⟨by (with_reducible repeat (first | apply Kd.R_alloc | apply Kd.R_drewN | apply Kd.R_drew)); exact HO_9.out⟩, ⟨by repeat (first | (with_reducible first | exact HB.out | apply below_alloc | apply pw_below_drewN | apply below_drew1) | exact HB.out)⟩⟩
              case rest =>
                clear HC29
                try clear p1
                try clear q1
                try clear hx1
                try clear c2
                try clear p2
                try clear q2
                try clear c3
                try clear c4
                try clear c4b0
                try clear c4b1
                try clear c5
                try clear c5b0
                try clear c5b1
                try clear c7
                try clear c7b0
                try clear c8
                try clear c8b0
                try clear p15
                try clear q15
                try clear hx15
                try clear q18
                try clear c21
                try clear c22
                try clear c22b0
                try clear c23
                try clear c23b0
                try clear c24
                try clear c25
                try clear c26
                try clear c26b0
                try clear c26b1
                try clear q27
                try clear q28
                try clear c30
                try clear c30b0
                try clear c30b1
                try clear c31
                try clear c31b0
                try clear c31b1
                try clear c33
                try clear c33b0
                try clear c33b1
                try clear c35
                try clear c35b0
                try clear c35b1
                try clear hx150_0
                try clear p1
                try clear p15
                try clear p150
                try clear p2
                try clear q1
                try clear q15
                try clear q150
                try clear q18
                try clear q2
                try clear q27
                try clear q28
                obtain ⟨kq, x86_28, rfl, HA, HJ28, HO_4, HO_9, HB⟩ := hcut
                cases kq with
                | zero => exact absurd HA.out (by simp [copselaw6_CellsCuts.j1])
                | succ kj28 =>
                  have H := HA.out
                  clear HA
                  simp only [copselaw6_CellsCuts.j1] at H
                  by_cases c36 : x86_28 = true
                  · subst c36
                    have H1 : (some false) = some r := by rw [if_pos rfl] at H; exact H
                    clear H
                    have H := H1
                    clear H1
                    obtain rfl := Option.some.inj H
                    go_wp2
                    go_ret
                    exact ⟨by first | rfl | (simp [errW_none, errW_some] <;> rfl) | (simp [*, errW_none, errW_some] <;> rfl), by repeat (first | (with_reducible first | exact HB.out | apply below_alloc | apply pw_below_drewN | apply below_drew1) | exact HB.out)⟩
                  · replace c36 := Bool.eq_false_iff.mpr c36
                    subst c36
                    have H1 : (copselaw6_CellsCuts.l0 kj28 l0 (l0.length : Int) y123 y138 0) = some r := by rw [if_neg (show ¬ (false = true) by decide)] at H; exact H
                    clear H
                    have H := H1
                    clear H1
                    have H' := Aside0.mk H
                    clear H
                    go_wp2
                    go_loopg [15] kj28 (fun kq v15 w' => ∃ (x4_3 : List Int) (x9_3 : List Int) (x15_3 : Int), v15 = .int .i64 x15_3 ∧ Aside0 (copselaw6_CellsCuts.l0 kq l0 (l0.length : Int) x4_3 x9_3 x15_3 = some r) ∧ Aside0 (kq ≤ kj28) ∧ Aside0 (Kd.R (Kd.int .i64) 3 w' w.heap.size (fun k_ => some k_ ≠ ((.slice Ao21 y138.length co21) : Value).ownBlock) (.slice Ao16 y123.length co16) x4_3) ∧ Aside0 (Kd.R (Kd.int .i64) 3 w' w.heap.size (fun k_ => some k_ ≠ ((.slice Ao16 y123.length co16) : Value).ownBlock) (.slice Ao21 y138.length co21) x9_3) ∧ Aside0 (Below w.heap.size w w'))
                    case atStart => exact ⟨(y123), (y138), (0), (by first | rfl | (simp; done) | (simp [*]; done)), H', ⟨Nat.le_refl _⟩, ⟨by (with_reducible repeat (first | apply Kd.R_alloc | apply Kd.R_drewN | apply Kd.R_drew)); exact HO_4.out⟩, ⟨by (with_reducible repeat (first | apply Kd.R_alloc | apply Kd.R_drewN | apply Kd.R_drew)); exact HO_9.out⟩, ⟨by repeat (first | (with_reducible first | exact HB.out | apply below_alloc | apply pw_below_drewN | apply below_drew1) | exact HB.out)⟩⟩
                    case round =>
                      clear H'
                      try clear p1
                      try clear q1
                      try clear hx1
                      try clear c2
                      try clear p2
                      try clear q2
                      try clear c3
                      try clear c4
                      try clear c4b0
                      try clear c4b1
                      try clear c5
                      try clear c5b0
                      try clear c5b1
                      try clear c7
                      try clear c7b0
                      try clear c8
                      try clear c8b0
                      try clear p15
                      try clear q15
                      try clear hx15
                      try clear q18
                      try clear c21
                      try clear c22
                      try clear c22b0
                      try clear c23
                      try clear c23b0
                      try clear c24
                      try clear c25
                      try clear c26
                      try clear c26b0
                      try clear c26b1
                      try clear q27
                      try clear q28
                      try clear c30
                      try clear c30b0
                      try clear c30b1
                      try clear c31
                      try clear c31b0
                      try clear c31b1
                      try clear c33
                      try clear c33b0
                      try clear c33b1
                      try clear c35
                      try clear c35b0
                      try clear c35b1
                      try clear c36
                      try clear hx150_0
                      try clear p1
                      try clear p15
                      try clear p150
                      try clear p2
                      try clear q1
                      try clear q15
                      try clear q150
                      try clear q18
                      try clear q2
                      try clear q27
                      try clear q28
                      obtain ⟨x4_3, x9_3, x15_3, rfl, HA, HK3, HO_4, HO_9, HB⟩ := hrel
                      have hl4_3 := (Kd.R_reads' HO_4.out).1
                      rw [hl4_3] at HO_4
                      (try simp only [hl4_3])
                      (try simp only [hl4_3] at HO_9)
                      have hl9_3 := (Kd.R_reads' HO_9.out).1
                      rw [hl9_3] at HO_9
                      (try simp only [hl9_3])
                      (try simp only [hl9_3] at HO_4)
                      cases gk with
                      | zero => exact absurd HA.out (by simp [copselaw6_CellsCuts.l0])
                      | succ k3 =>
                        have H := HA.out
                        clear HA
                        simp only [copselaw6_CellsCuts.l0] at H
                        by_cases c37 : x15_3 < (l0.length : Int)
                        · rw [if_pos c37] at H
                          have c37b0 : decide (x15_3 < (l0.length : Int)) = true := decide_eq_true c37
                          clear c37
                          obtain ⟨ji38, hji38⟩ : ∃ j_ : Int, (wrap64 ((wrap64 ((l0.length : Int) - 1)) - x15_3)) = j_ := ⟨_, rfl⟩
                          replace H : (if 0 ≤ (ji38) then (if (ji38) < (l0.length : Int) then (if 0 ≤ x15_3 then (if x15_3 < (x4_3.length : Int) then (if x15_3 < (x9_3.length : Int) then (copselaw6_CellsCuts.l0 k3 l0 (l0.length : Int) (x4_3.set (x15_3 : Int).toNat (rd l0 (ji38))) (x9_3.set (x15_3 : Int).toNat (rd l0 (ji38))) (wrap64 (x15_3 + 1))) else (none)) else (none)) else (none)) else (none)) else (none)) = some r := by first | (rw [hji38] at H; exact H) | (simp only [hji38] at H ⊢; exact H)
                          have hji38w : (IntKind.i64.wrap ((wrap64 ((l0.length : Int) - 1)) - x15_3)) = ji38 := (i64_w _).trans hji38
                          by_cases c39 : 0 ≤ (ji38)
                          · rw [if_pos c39] at H
                            have c39b0 : decide (0 ≤ (ji38)) = true := decide_eq_true c39
                            clear c39
                            by_cases c40 : (ji38) < (l0.length : Int)
                            · rw [if_pos c40] at H
                              have c40b0 : decide ((ji38) < (l0.length : Int)) = true := decide_eq_true c40
                              clear c40
                              by_cases c41 : 0 ≤ x15_3
                              · rw [if_pos c41] at H
                                have c41b0 : decide (0 ≤ x15_3) = true := decide_eq_true c41
                                clear c41
                                by_cases c42 : x15_3 < (x4_3.length : Int)
                                · rw [if_pos c42] at H
                                  have c42b0 : decide (x15_3 < (x4_3.length : Int)) = true := decide_eq_true c42
                                  clear c42
                                  obtain ⟨y154, hy154⟩ : ∃ y_ : List Int, y_ = (x4_3.set (x15_3 : Int).toNat (rd l0 (ji38))) := ⟨_, rfl⟩
                                  replace H : (if x15_3 < (x9_3.length : Int) then (copselaw6_CellsCuts.l0 k3 l0 (l0.length : Int) y154 (x9_3.set (x15_3 : Int).toNat (rd l0 (ji38))) (wrap64 (x15_3 + 1))) else (none)) = some r := by first | (rw [hy154]; with_reducible exact H) | (have H2_ := (Option.bind_some _ _).symm.trans H; rw [hy154]; with_reducible exact H2_) | (have H2_ := (Option.bind_some _ _).symm.trans H; with_reducible exact H2_) | with_reducible exact H | (rw [hy154]; exact H) | exact H
                                  have Ny154 := Aside0.mk hy154
                                  clear hy154
                                  by_cases c44 : x15_3 < (x9_3.length : Int)
                                  · rw [if_pos c44] at H
                                    have c44b0 : decide (x15_3 < (x9_3.length : Int)) = true := decide_eq_true c44
                                    clear c44
                                    obtain ⟨y156, hy156⟩ : ∃ y_ : List Int, y_ = (x9_3.set (x15_3 : Int).toNat (rd l0 (ji38))) := ⟨_, rfl⟩
                                    replace H : (copselaw6_CellsCuts.l0 k3 l0 (l0.length : Int) y154 y156 (wrap64 (x15_3 + 1))) = some r := by first | (rw [hy156]; with_reducible exact H) | (have H2_ := (Option.bind_some _ _).symm.trans H; rw [hy156]; with_reducible exact H2_) | (have H2_ := (Option.bind_some _ _).symm.trans H; with_reducible exact H2_) | with_reducible exact H | (rw [hy156]; exact H) | exact H
                                    have Ny156 := Aside0.mk hy156
                                    clear hy156
                                    have H' := Aside0.mk H
                                    clear H
                                    have p153 : 0 ≤ ((ji38) : Int) := of_decide_eq_true (by first | (with_reducible assumption) | assumption)
                                    have q153 : (ji38) < (l0.length : Int) := of_decide_eq_true (by first | (with_reducible assumption) | assumption)
                                    obtain ⟨ad153, e153, hx153_0⟩ := Kd.at_int HR0.out (ji38) p153 q153
                                    cases e153
                                    replace hx153_0 := (HB.out.cell (World.block_lt_of_cell? w _ hx153_0)).trans hx153_0
                                    replace p153 := eq_true p153
                                    replace q153 := eq_true q153
                                    have p43 : 0 ≤ (x15_3 : Int) := of_decide_eq_true (by first | (with_reducible assumption) | assumption)
                                    have q43 : (x15_3 : Int) < ((x4_3.length : Int) : Int) := of_decide_eq_true (by first | (with_reducible assumption) | assumption)
                                    obtain ⟨go43, co43, eo43, gb43, gl43, cl43, HG43⟩ := Kd.R_form HO_4.out (by omega)
                                    (first | cases eo43 | (injection eo43 with ea_ en_ ec_; (first | subst ea_ | (injection ea_ with ea_; subst ea_)); subst ec_; clear en_))
                                    have GB43 := Aside0.mk gb43
                                    have GG43 := Aside0.mk HG43
                                    clear gb43 gl43 HG43
                                    obtain ⟨hx43_0, hf43_0⟩ := Kd.R_celln 0 HO_4.out (x15_3 : Int) p43 q43
                                    replace p43 := eq_true p43
                                    replace q43 := eq_true q43
                                    have HP46 := Kd.R_putg HO_4.out (x15_3 : Int) (rd l0 (ji38))
                                    go_wp2_with (first | ((with_reducible refine gate_store (t := 3) (p := 101) rfl ?_); refine store_event (t := 3) (p := 101) (v := ?vo_w47) (w1 := (wr.setCell ⟨go43, (x15_3 : Int).toNat, none⟩ (.int .i64 (rd l0 (ji38))))) ?hg ?ho ?hn ?hr ?_; (case ho => rfl); (case hg => rfl); (case hn => rfl); (case hr => first | (go_simp; done) | (go_simp; rfl)); intro w47 hw; have hg : wr.grownBy w47 (some go43) := (by rw [hw]; exact HP46.2); have hp_ : Kd.R (Kd.int .i64) 3 w47 w.heap.size (fun k_ => some k_ ≠ (.slice Ao21 x9_3.length co21 : Value).ownBlock) (.slice (some ⟨go43, 0, none⟩) x4_3.length co16) y154 := (by rw [hw, Ny154.out]; exact HP46.1); clear HP46; have n0_ := Aside0.mk (hp_); have n1_ := Aside0.mk (Kd.R_after (v := (.slice (some ⟨go43, 0, none⟩) x4_3.length co16)) (v1 := (.slice (some ⟨go43, 0, none⟩) x4_3.length co16)) (ok := (fun _ => True)) (by (with_reducible repeat (first | apply Kd.R_alloc | apply Kd.R_drewN | apply Kd.R_drew)); exact Kd.R_mono HO_9.out (fun _ hk => ⟨trivial, hk⟩)) hg (.inl rfl)); have n2_ := Aside0.mk ((by rw [hw]; exact below_set (HB.out) GB43.out : Below w.heap.size w w47)); clear HO_4; clear HO_9; clear HB; have HO_4 := n0_; have HO_9 := n1_; have HB := n2_; clear n0_ n1_ n2_; clear hg hw hp_; have p155 : 0 ≤ ((ji38) : Int) := of_decide_eq_true (by first | (with_reducible assumption) | assumption); have q155 : (ji38) < (l0.length : Int) := of_decide_eq_true (by first | (with_reducible assumption) | assumption); obtain ⟨ad155, e155, hx155_0⟩ := Kd.at_int HR0.out (ji38) p155 q155; obtain rfl : ad153 = ad155 := (by injection e155); replace hx155_0 := (HB.out.cell (World.block_lt_of_cell? w _ hx155_0)).trans hx155_0; replace p155 := eq_true p155; replace q155 := eq_true q155; have p45 : 0 ≤ (x15_3 : Int) := of_decide_eq_true (by first | (with_reducible assumption) | assumption); have q45 : (x15_3 : Int) < ((x9_3.length : Int) : Int) := of_decide_eq_true (by first | (with_reducible assumption) | assumption); obtain ⟨go45, co45, eo45, gb45, gl45, cl45, HG45⟩ := Kd.R_form HO_9.out (by omega); (first | cases eo45 | (injection eo45 with ea_ en_ ec_; (first | subst ea_ | (injection ea_ with ea_; subst ea_)); subst ec_; clear en_)); have GB45 := Aside0.mk gb45; have GG45 := Aside0.mk HG45; clear gb45 gl45 HG45; obtain ⟨hx45_0, hf45_0⟩ := Kd.R_celln 0 HO_9.out (x15_3 : Int) p45 q45; replace p45 := eq_true p45; replace q45 := eq_true q45; have n_ := Aside0.mk (Kd.R_mono (ok' := (fun k_ => some k_ ≠ (.slice (some ⟨go43, 0, none⟩) x4_3.length co16 : Value).ownBlock)) HO_9.out (fun k_ hk => hk.2)); clear HO_9; have HO_9 := n_; clear n_; obtain ⟨hy48_, hz48_⟩ := Kd.R_celln 0 HO_9.out (x15_3 : Int) (of_decide_eq_true (by first | (with_reducible assumption) | assumption)) (of_decide_eq_true (by first | (with_reducible assumption) | assumption)); have HP48 := Kd.R_putg HO_9.out (x15_3 : Int) (rd l0 (ji38))) | ((with_reducible refine gate_store (t := 3) (p := 111) rfl ?_); refine store_event (t := 3) (p := 111) (v := ?vo_w49) (w1 := (w47.setCell ⟨go45, (x15_3 : Int).toNat, none⟩ (.int .i64 (rd l0 (ji38))))) ?hg ?ho ?hn ?hr ?_; (case ho => rfl); (case hg => rfl); (case hn => rfl); (case hr => first | (go_simp; done) | (go_simp; rfl)); intro w49 hw; have hg : w47.grownBy w49 (some go45) := (by rw [hw]; exact HP48.2); have hp_ : Kd.R (Kd.int .i64) 3 w49 w.heap.size (fun k_ => some k_ ≠ (.slice (some ⟨go43, 0, none⟩) x4_3.length co16 : Value).ownBlock) (.slice (some ⟨go45, 0, none⟩) x9_3.length co21) y156 := (by rw [hw, Ny156.out]; exact HP48.1); clear HP48; have n0_ := Aside0.mk (Kd.R_after (v := (.slice (some ⟨go45, 0, none⟩) x9_3.length co21)) (v1 := (.slice (some ⟨go45, 0, none⟩) x9_3.length co21)) (ok := (fun _ => True)) (by (with_reducible repeat (first | apply Kd.R_alloc | apply Kd.R_drewN | apply Kd.R_drew)); exact Kd.R_mono HO_4.out (fun _ hk => ⟨trivial, hk⟩)) hg (.inl rfl)); have n1_ := Aside0.mk (hp_); have n2_ := Aside0.mk ((by rw [hw]; exact below_set (HB.out) GB45.out : Below w.heap.size w w49)); clear HO_4; clear HO_9; clear HB; have HO_4 := n0_; have HO_9 := n1_; have HB := n2_; clear n0_ n1_ n2_; clear hg hw hp_))
                                    (try simp only [← hl4_3, ← hl9_3])
                                    go_roundg k3
                                    case measure => have := HJ11.out; have := HJ28.out; have := HK3.out; omega
                                    case rel => exact ⟨(y154), (y156), (wrap64 (x15_3 + 1)), (by first | rfl | (simp; done) | (simp [*]; done)), H', ⟨by have := HJ11.out; have := HJ28.out; have := HK3.out; omega⟩, ⟨by (try simp only [hl4_3]); (try simp only [hl9_3]); (with_reducible repeat (first | apply Kd.R_alloc | apply Kd.R_drewN | apply Kd.R_drew)); exact Kd.R_mono HO_4.out (fun _ hk => hk.2)⟩, ⟨by (try simp only [hl4_3]); (try simp only [hl9_3]); (with_reducible repeat (first | apply Kd.R_alloc | apply Kd.R_drewN | apply Kd.R_drew)); exact HO_9.out⟩, ⟨by repeat (first | (with_reducible first | exact HB.out | apply below_alloc | apply pw_below_drewN | apply below_drew1) | exact HB.out)⟩⟩
                                  · rw [if_neg c44] at H
                                    exact absurd H (by simp)
                                · rw [if_neg c42] at H
                                  exact absurd H (by simp)
                              · rw [if_neg c41] at H
                                exact absurd H (by simp)
                            · rw [if_neg c40] at H
                              exact absurd H (by simp)
                          · rw [if_neg c39] at H
                            exact absurd H (by simp)
                        · rw [if_neg c37] at H
                          have c37b0 : decide (x15_3 < (l0.length : Int)) = false := decide_eq_false c37
                          clear c37
                          by_cases c50 : 0 ≤ (l0.length : Int)
                          · rw [if_pos c50] at H
                            have c50b0 := eq_true c50
                            have c50b1 : decide (0 ≤ (l0.length : Int)) = true := decide_eq_true c50
                            clear c50
                            by_cases c51 : (l0.length : Int) ≤ (x4_3.length : Int)
                            · rw [if_pos c51] at H
                              have c51b0 := eq_true c51
                              have c51b1 : decide ((l0.length : Int) ≤ (x4_3.length : Int)) = true := decide_eq_true c51
                              clear c51
                              obtain ⟨y157, hy157⟩ : ∃ y_ : List Int, y_ = (x4_3.take ((l0.length : Int) : Int).toNat) := ⟨_, rfl⟩
                              replace H : ((cells_Cut.f k3 y157).bind fun bt161 => ((cells_Pivot.f k3 (x4_3.take ((l0.length : Int) : Int).toNat)).bind fun bt167 => ((copseref6_Cut.f k3 x9_3).bind fun bt169 => ((copseref6_Pivot.f k3 x9_3).bind fun bt171 => (if bt161.1 = bt169.1 then (if bt167.1 = bt171.1 then ((copsekit_Num.f bt161.2).bind fun t173 => (if t173 = bt169.2 then ((copsekit_Num.f bt167.2).bind fun t174 => (some (t174 == bt171.2))) else (some false))) else (some false)) else (some false)))))) = some r := by first | (rw [hy157]; with_reducible exact H) | (have H2_ := (Option.bind_some _ _).symm.trans H; rw [hy157]; with_reducible exact H2_) | (have H2_ := (Option.bind_some _ _).symm.trans H; with_reducible exact H2_) | with_reducible exact H | (rw [hy157]; exact H) | exact H
                              have Ny157 := Aside0.mk hy157
                              clear hy157
                              replace H := Option.bind_eq_some_iff.mp H
                              obtain ⟨⟨t161, t162⟩, A520, H⟩ := H
                              replace H : ((cells_Pivot.f k3 (x4_3.take ((l0.length : Int) : Int).toNat)).bind fun bt167 => ((copseref6_Cut.f k3 x9_3).bind fun bt169 => ((copseref6_Pivot.f k3 x9_3).bind fun bt171 => (if t161 = bt169.1 then (if bt167.1 = bt171.1 then ((copsekit_Num.f t162).bind fun t173 => (if t173 = bt169.2 then ((copsekit_Num.f bt167.2).bind fun t174 => (some (t174 == bt171.2))) else (some false))) else (some false)) else (some false))))) = some r := H
                              have A52 := Aside0.mk A520
                              clear A520
                              have c53b0 := eq_true (of_decide_eq_true (by first | (with_reducible assumption) | assumption) : 0 ≤ (l0.length : Int))
                              have c54b0 := eq_true (of_decide_eq_true (by first | (with_reducible assumption) | assumption) : (l0.length : Int) ≤ (x4_3.length : Int))
                              obtain ⟨y163, hy163⟩ : ∃ y_ : List Int, y_ = (x4_3.take ((l0.length : Int) : Int).toNat) := ⟨_, rfl⟩
                              replace H : ((cells_Pivot.f k3 y163).bind fun bt167 => ((copseref6_Cut.f k3 x9_3).bind fun bt169 => ((copseref6_Pivot.f k3 x9_3).bind fun bt171 => (if t161 = bt169.1 then (if bt167.1 = bt171.1 then ((copsekit_Num.f t162).bind fun t173 => (if t173 = bt169.2 then ((copsekit_Num.f bt167.2).bind fun t174 => (some (t174 == bt171.2))) else (some false))) else (some false)) else (some false))))) = some r := by first | (rw [hy163]; with_reducible exact H) | (have H2_ := (Option.bind_some _ _).symm.trans H; rw [hy163]; with_reducible exact H2_) | (have H2_ := (Option.bind_some _ _).symm.trans H; with_reducible exact H2_) | with_reducible exact H | (rw [hy163]; exact H) | exact H
                              have Ny163 := Aside0.mk hy163
                              clear hy163
                              first | (have YEy163 := Aside0.mk (Ny163.out.trans Ny157.out.symm)) | skip
                              replace H := Option.bind_eq_some_iff.mp H
                              obtain ⟨⟨t167, t168⟩, A550, H⟩ := H
                              replace H : ((copseref6_Cut.f k3 x9_3).bind fun bt169 => ((copseref6_Pivot.f k3 x9_3).bind fun bt171 => (if t161 = bt169.1 then (if t167 = bt171.1 then ((copsekit_Num.f t162).bind fun t173 => (if t173 = bt169.2 then ((copsekit_Num.f t168).bind fun t174 => (some (t174 == bt171.2))) else (some false))) else (some false)) else (some false)))) = some r := H
                              have A55 := Aside0.mk A550
                              clear A550
                              replace H := Option.bind_eq_some_iff.mp H
                              obtain ⟨⟨t169, t170⟩, A560, H⟩ := H
                              replace H : ((copseref6_Pivot.f k3 x9_3).bind fun bt171 => (if t161 = t169 then (if t167 = bt171.1 then ((copsekit_Num.f t162).bind fun t173 => (if t173 = t170 then ((copsekit_Num.f t168).bind fun t174 => (some (t174 == bt171.2))) else (some false))) else (some false)) else (some false))) = some r := H
                              have A56 := Aside0.mk A560
                              clear A560
                              replace H := Option.bind_eq_some_iff.mp H
                              obtain ⟨⟨t171, t172⟩, A570, H⟩ := H
                              replace H : (if t161 = t169 then (if t167 = t171 then ((copsekit_Num.f t162).bind fun t173 => (if t173 = t170 then ((copsekit_Num.f t168).bind fun t174 => (some (t174 == t172))) else (some false))) else (some false)) else (some false)) = some r := H
                              have A57 := Aside0.mk A570
                              clear A570
                              by_cases c58 : t161 = t169
                              · rw [if_pos c58] at H
                                have c58b0 : (t161 == t169) = true := beq_iff_eq.mpr c58
                                have c58b1 : (t161 != t169) = false := bne_eq_false_iff_eq.mpr c58
                                clear c58
                                by_cases c59 : t167 = t171
                                · rw [if_pos c59] at H
                                  have c59b0 : (t167 == t171) = true := beq_iff_eq.mpr c59
                                  have c59b1 : (t167 != t171) = false := bne_eq_false_iff_eq.mpr c59
                                  clear c59
                                  replace H := Option.bind_eq_some_iff.mp H
                                  obtain ⟨t173, A600, H⟩ := H
                                  replace H : (if t173 = t170 then ((copsekit_Num.f t168).bind fun t174 => (some (t174 == t172))) else (some false)) = some r := H
                                  have A60 := Aside0.mk A600
                                  clear A600
                                  by_cases c61 : t173 = t170
                                  · rw [if_pos c61] at H
                                    have c61b0 : (t173 == t170) = true := beq_iff_eq.mpr c61
                                    have c61b1 : (t173 != t170) = false := bne_eq_false_iff_eq.mpr c61
                                    clear c61
                                    replace H := Option.bind_eq_some_iff.mp H
                                    obtain ⟨t174, A620, H⟩ := H
                                    replace H : (some (t174 == t172)) = some r := H
                                    have A62 := Aside0.mk A620
                                    clear A620
                                    obtain rfl := Option.some.inj H
                                    have q63 : ((l0.length : Int) : Int) ≤ ((x4_3.length : Int) : Int) := of_decide_eq_true (by first | (with_reducible assumption) | assumption)
                                    obtain ⟨i063, hi063, _, hsz63, _⟩ := info_parts info3
                                    have hroom63 : x4_3.length ≤ co16 := (Kd.R_reads' HO_4.out).2.1
                                    have hC63 : Kd.C (Kd.int .i64) _ Ao16 x4_3.length x4_3 := (Kd.R_reads' HO_4.out).2.2
                                    have hcut63 := cut_to (P := Tryd.prog) 43 3 .i64 Tryd.underlying43 hi063 Ao16 x4_3.length co16 (l0.length : Int) (of_decide_eq_true (by first | (with_reducible assumption) | assumption)) q63 hroom63
                                    have hr63 := Kd.C_take (m := ((l0.length : Int) : Int).toNat) hC63 (by omega)
                                    have hy63 : y157.length = ((l0.length : Int) : Int).toNat := (by rw [Ny157.out, List.length_take]; omega)
                                    rw [← Ny157.out] at hr63
                                    rw [← hy63] at hcut63
                                    have HR160 := Aside0.mk hr63
                                    have HC160 := Aside0.mk (show y157.length ≤ co16 from by omega)
                                    clear hr63 hC63 hroom63 hi063 hsz63
                                    have KY63 := Aside0.mk hy63
                                    clear hy63
                                    have KL63 := Aside0.mk (show ((l0.length : Int) : Int).toNat ≤ x4_3.length from by omega)
                                    replace q63 := eq_true q63
                                    go_wp2_with (first | ((with_reducible refine gate_callee (f := 21) rfl ?_); refine goesL_ (some 116) rfl rfl Tryd.func21 (by kernel_rfl) rfl #[.slice Ao16 y157.length co16] rfl (by (try simp only [List.map_toArray, List.map_cons, List.map_nil]); first | done | rfl | (simp only [List.length_drop, List.length_take]; rfl) | (simp only [YEy163.out]; rfl)) ?_; (with_reducible refine (cells_Cut.calls k3 E _ _ y157 t161 t162 _ ?side1 ?side2 ?side3 A52.out).mono ?_); (case side1 => exact (Glob.below HG.out (by repeat (first | (with_reducible first | exact HB.out | apply below_alloc | apply pw_below_drewN | apply below_drew1) | exact HB.out)))); (case side2 => repeat (first | exact (by repeat (first | (with_reducible exact HR160.out) | (with_reducible refine Kd.C_alloc ?_ _) | (with_reducible refine Kd.C_drewN ?_ _) | (with_reducible refine Kd.C_drew ?_) | exact HR160.out)) | (with_reducible refine Kd.C_alloc ?_ _) | (with_reducible refine Kd.C_drewN ?_ _) | (with_reducible refine Kd.C_drew ?_))); (case side3 => exact HC160.out); rintro e w64 ⟨rfl, hb⟩; refine ⟨_, rfl, ?_⟩; have n0_ := Aside0.mk (Kd.R_below (by (with_reducible repeat (first | apply Kd.R_alloc | apply Kd.R_drewN | apply Kd.R_drew)); exact HO_4.out) hb); have n1_ := Aside0.mk (Kd.R_below (by (with_reducible repeat (first | apply Kd.R_alloc | apply Kd.R_drewN | apply Kd.R_drew)); exact HO_9.out) hb); have n2_ := Aside0.mk (Kd.C_below (by repeat (first | (with_reducible exact HR160.out) | (with_reducible refine Kd.C_alloc ?_ _) | (with_reducible refine Kd.C_drewN ?_ _) | (with_reducible refine Kd.C_drew ?_) | exact HR160.out)) hb); have n3_ := Aside0.mk (below_step (by repeat (first | (with_reducible first | exact HB.out | apply below_alloc | apply pw_below_drewN | apply below_drew1) | exact HB.out)) hb); clear HO_4; clear HO_9; clear HR160; clear HB; have HO_4 := n0_; have HO_9 := n1_; have HR160 := n2_; have HB := n3_; clear n0_ n1_ n2_ n3_; (try clear hb); (try clear hb2); (try clear hk); (try clear hi); (try simp only [errW_none, errW_some]); have q65 : ((l0.length : Int) : Int) ≤ ((x4_3.length : Int) : Int) := of_decide_eq_true (by first | (with_reducible assumption) | assumption); obtain ⟨i065, hi065, _, hsz65, _⟩ := info_parts info3; have hroom65 : x4_3.length ≤ co16 := (Kd.R_reads' HO_4.out).2.1; have hC65 : Kd.C (Kd.int .i64) _ Ao16 x4_3.length x4_3 := (Kd.R_reads' HO_4.out).2.2; have hcut65 := cut_to (P := Tryd.prog) 43 3 .i64 Tryd.underlying43 hi065 Ao16 x4_3.length co16 (l0.length : Int) (of_decide_eq_true (by first | (with_reducible assumption) | assumption)) q65 hroom65; have hr65 := Kd.C_take (m := ((l0.length : Int) : Int).toNat) hC65 (by omega); have hy65 : y163.length = ((l0.length : Int) : Int).toNat := (by rw [Ny163.out, List.length_take]; omega); rw [← Ny163.out] at hr65; rw [← hy65] at hcut65; have HR166 := Aside0.mk hr65; have HC166 := Aside0.mk (show y163.length ≤ co16 from by omega); clear hr65 hC65 hroom65 hi065 hsz65; have KY65 := Aside0.mk hy65; clear hy65; have KL65 := Aside0.mk (show ((l0.length : Int) : Int).toNat ≤ x4_3.length from by omega); replace q65 := eq_true q65) | ((with_reducible refine gate_callee (f := 22) rfl ?_); refine goesL_ (some 123) rfl rfl Tryd.func22 (by kernel_rfl) rfl #[.slice Ao16 y163.length co16] rfl (by (try simp only [List.map_toArray, List.map_cons, List.map_nil]); first | done | rfl | (simp only [List.length_drop, List.length_take]; rfl) | (simp only [YEy163.out]; rfl)) ?_; (with_reducible refine (cells_Pivot.calls k3 E _ _ y163 t167 t168 _ ?side1 ?side2 ?side3 A55.out).mono ?_); (case side1 => exact (Glob.below HG.out (by repeat (first | (with_reducible first | exact HB.out | apply below_alloc | apply pw_below_drewN | apply below_drew1) | exact HB.out)))); (case side2 => repeat (first | exact (by repeat (first | (with_reducible exact HR166.out) | (with_reducible refine Kd.C_alloc ?_ _) | (with_reducible refine Kd.C_drewN ?_ _) | (with_reducible refine Kd.C_drew ?_) | exact HR166.out)) | (with_reducible refine Kd.C_alloc ?_ _) | (with_reducible refine Kd.C_drewN ?_ _) | (with_reducible refine Kd.C_drew ?_))); (case side3 => exact HC166.out); rintro e w66 ⟨rfl, hb⟩; refine ⟨_, rfl, ?_⟩; have n0_ := Aside0.mk (Kd.R_below (by (with_reducible repeat (first | apply Kd.R_alloc | apply Kd.R_drewN | apply Kd.R_drew)); exact HO_4.out) hb); have n1_ := Aside0.mk (Kd.R_below (by (with_reducible repeat (first | apply Kd.R_alloc | apply Kd.R_drewN | apply Kd.R_drew)); exact HO_9.out) hb); have n2_ := Aside0.mk (Kd.C_below (by repeat (first | (with_reducible exact HR160.out) | (with_reducible refine Kd.C_alloc ?_ _) | (with_reducible refine Kd.C_drewN ?_ _) | (with_reducible refine Kd.C_drew ?_) | exact HR160.out)) hb); have n3_ := Aside0.mk (Kd.C_below (by repeat (first | (with_reducible exact HR166.out) | (with_reducible refine Kd.C_alloc ?_ _) | (with_reducible refine Kd.C_drewN ?_ _) | (with_reducible refine Kd.C_drew ?_) | exact HR166.out)) hb); have n4_ := Aside0.mk (below_step (by repeat (first | (with_reducible first | exact HB.out | apply below_alloc | apply pw_below_drewN | apply below_drew1) | exact HB.out)) hb); clear HO_4; clear HO_9; clear HR160; clear HR166; clear HB; have HO_4 := n0_; have HO_9 := n1_; have HR160 := n2_; have HR166 := n3_; have HB := n4_; clear n0_ n1_ n2_ n3_ n4_; (try clear hb); (try clear hb2); (try clear hk); (try clear hi); (try simp only [errW_none, errW_some])) | ((with_reducible refine gate_callee (f := 23) rfl ?_); refine goesL_ (some 128) rfl rfl Tryd.func23 (by kernel_rfl) rfl #[.slice Ao21 x9_3.length co21] rfl (by (try simp only [List.map_toArray, List.map_cons, List.map_nil]); first | done | rfl | (simp only [List.length_drop, List.length_take]; rfl) | (simp only [YEy163.out]; rfl)) ?_; (with_reducible refine (copseref6_Cut.calls k3 _ _ x9_3 t169 t170 _ ?side1 ?side2 A56.out).mono ?_); (case side1 => repeat (first | exact (Kd.R_reads' HO_9.out).2.2 | (with_reducible refine Kd.C_alloc ?_ _) | (with_reducible refine Kd.C_drewN ?_ _) | (with_reducible refine Kd.C_drew ?_))); (case side2 => exact (Kd.R_reads' HO_9.out).2.1); rintro e w' ⟨rfl, ⟨nd, rfl⟩⟩; refine ⟨_, rfl, ?_⟩) | ((with_reducible refine gate_callee (f := 24) rfl ?_); refine goesL_ (some 133) rfl rfl Tryd.func24 (by kernel_rfl) rfl #[.slice Ao21 x9_3.length co21] rfl (by (try simp only [List.map_toArray, List.map_cons, List.map_nil]); first | done | rfl | (simp only [List.length_drop, List.length_take]; rfl) | (simp only [YEy163.out]; rfl)) ?_; (with_reducible refine (copseref6_Pivot.calls k3 _ _ x9_3 t171 t172 _ ?side1 ?side2 A57.out).mono ?_); (case side1 => repeat (first | exact (Kd.R_reads' HO_9.out).2.2 | (with_reducible refine Kd.C_alloc ?_ _) | (with_reducible refine Kd.C_drewN ?_ _) | (with_reducible refine Kd.C_drew ?_))); (case side2 => exact (Kd.R_reads' HO_9.out).2.1); rintro e w' ⟨rfl, ⟨nd, rfl⟩⟩; refine ⟨_, rfl, ?_⟩; have CA60 := fun (W : World) (hG_ : Glob E W) => copsekit_Num.calls E t162 t173 W hG_ A60.out; try simp only [errW_none, errW_some] at CA60) | (go_at_call 16; (with_reducible refine (CA60 _ ?side1).mono ?_); (case side1 => exact (Glob.below HG.out (by repeat (first | (with_reducible first | exact HB.out | apply below_alloc | apply pw_below_drewN | apply below_drew1) | exact HB.out)))); rintro e w' ⟨rfl, ⟨nd, rfl⟩⟩; have CA62 := fun (W : World) (hG_ : Glob E W) => copsekit_Num.calls E t168 t174 W hG_ A62.out; try simp only [errW_none, errW_some] at CA62) | (go_at_call 16; (with_reducible refine (CA62 _ ?side1).mono ?_); (case side1 => exact (Glob.below HG.out (by repeat (first | (with_reducible first | exact HB.out | apply below_alloc | apply pw_below_drewN | apply below_drew1) | exact HB.out)))); rintro e w' ⟨rfl, ⟨nd, rfl⟩⟩))
                                    go_ret
                                    exact ⟨by first | rfl | (simp [errW_none, errW_some] <;> rfl) | (simp [*, errW_none, errW_some] <;> rfl), by repeat (first | (with_reducible first | exact HB.out | apply below_alloc | apply pw_below_drewN | apply below_drew1) | exact HB.out)⟩
                                  · rw [if_neg c61] at H
                                    have c61b0 : (t173 == t170) = false := beq_eq_false_iff_ne.mpr c61
                                    have c61b1 : (t173 != t170) = true := bne_iff_ne.mpr c61
                                    obtain rfl := Option.some.inj H
                                    have q67 : ((l0.length : Int) : Int) ≤ ((x4_3.length : Int) : Int) := of_decide_eq_true (by first | (with_reducible assumption) | assumption)
                                    obtain ⟨i067, hi067, _, hsz67, _⟩ := info_parts info3
                                    have hroom67 : x4_3.length ≤ co16 := (Kd.R_reads' HO_4.out).2.1
                                    have hC67 : Kd.C (Kd.int .i64) _ Ao16 x4_3.length x4_3 := (Kd.R_reads' HO_4.out).2.2
                                    have hcut67 := cut_to (P := Tryd.prog) 43 3 .i64 Tryd.underlying43 hi067 Ao16 x4_3.length co16 (l0.length : Int) (of_decide_eq_true (by first | (with_reducible assumption) | assumption)) q67 hroom67
                                    have hr67 := Kd.C_take (m := ((l0.length : Int) : Int).toNat) hC67 (by omega)
                                    have hy67 : y157.length = ((l0.length : Int) : Int).toNat := (by rw [Ny157.out, List.length_take]; omega)
                                    rw [← Ny157.out] at hr67
                                    rw [← hy67] at hcut67
                                    have HR160 := Aside0.mk hr67
                                    have HC160 := Aside0.mk (show y157.length ≤ co16 from by omega)
                                    clear hr67 hC67 hroom67 hi067 hsz67
                                    have KY67 := Aside0.mk hy67
                                    clear hy67
                                    have KL67 := Aside0.mk (show ((l0.length : Int) : Int).toNat ≤ x4_3.length from by omega)
                                    replace q67 := eq_true q67
                                    go_wp2_with (first | ((with_reducible refine gate_callee (f := 21) rfl ?_); refine goesL_ (some 116) rfl rfl Tryd.func21 (by kernel_rfl) rfl #[.slice Ao16 y157.length co16] rfl (by (try simp only [List.map_toArray, List.map_cons, List.map_nil]); first | done | rfl | (simp only [List.length_drop, List.length_take]; rfl) | (simp only [YEy163.out]; rfl)) ?_; (with_reducible refine (cells_Cut.calls k3 E _ _ y157 t161 t162 _ ?side1 ?side2 ?side3 A52.out).mono ?_); (case side1 => exact (Glob.below HG.out (by repeat (first | (with_reducible first | exact HB.out | apply below_alloc | apply pw_below_drewN | apply below_drew1) | exact HB.out)))); (case side2 => repeat (first | exact (by repeat (first | (with_reducible exact HR160.out) | (with_reducible refine Kd.C_alloc ?_ _) | (with_reducible refine Kd.C_drewN ?_ _) | (with_reducible refine Kd.C_drew ?_) | exact HR160.out)) | (with_reducible refine Kd.C_alloc ?_ _) | (with_reducible refine Kd.C_drewN ?_ _) | (with_reducible refine Kd.C_drew ?_))); (case side3 => exact HC160.out); rintro e w68 ⟨rfl, hb⟩; refine ⟨_, rfl, ?_⟩; have n0_ := Aside0.mk (Kd.R_below (by (with_reducible repeat (first | apply Kd.R_alloc | apply Kd.R_drewN | apply Kd.R_drew)); exact HO_4.out) hb); have n1_ := Aside0.mk (Kd.R_below (by (with_reducible repeat (first | apply Kd.R_alloc | apply Kd.R_drewN | apply Kd.R_drew)); exact HO_9.out) hb); have n2_ := Aside0.mk (Kd.C_below (by repeat (first | (with_reducible exact HR160.out) | (with_reducible refine Kd.C_alloc ?_ _) | (with_reducible refine Kd.C_drewN ?_ _) | (with_reducible refine Kd.C_drew ?_) | exact HR160.out)) hb); have n3_ := Aside0.mk (below_step (by repeat (first | (with_reducible first | exact HB.out | apply below_alloc | apply pw_below_drewN | apply below_drew1) | exact HB.out)) hb); clear HO_4; clear HO_9; clear HR160; clear HB; have HO_4 := n0_; have HO_9 := n1_; have HR160 := n2_; have HB := n3_; clear n0_ n1_ n2_ n3_; (try clear hb); (try clear hb2); (try clear hk); (try clear hi); (try simp only [errW_none, errW_some]); have q69 : ((l0.length : Int) : Int) ≤ ((x4_3.length : Int) : Int) := of_decide_eq_true (by first | (with_reducible assumption) | assumption); obtain ⟨i069, hi069, _, hsz69, _⟩ := info_parts info3; have hroom69 : x4_3.length ≤ co16 := (Kd.R_reads' HO_4.out).2.1; have hC69 : Kd.C (Kd.int .i64) _ Ao16 x4_3.length x4_3 := (Kd.R_reads' HO_4.out).2.2; have hcut69 := cut_to (P := Tryd.prog) 43 3 .i64 Tryd.underlying43 hi069 Ao16 x4_3.length co16 (l0.length : Int) (of_decide_eq_true (by first | (with_reducible assumption) | assumption)) q69 hroom69; have hr69 := Kd.C_take (m := ((l0.length : Int) : Int).toNat) hC69 (by omega); have hy69 : y163.length = ((l0.length : Int) : Int).toNat := (by rw [Ny163.out, List.length_take]; omega); rw [← Ny163.out] at hr69; rw [← hy69] at hcut69; have HR166 := Aside0.mk hr69; have HC166 := Aside0.mk (show y163.length ≤ co16 from by omega); clear hr69 hC69 hroom69 hi069 hsz69; have KY69 := Aside0.mk hy69; clear hy69; have KL69 := Aside0.mk (show ((l0.length : Int) : Int).toNat ≤ x4_3.length from by omega); replace q69 := eq_true q69) | ((with_reducible refine gate_callee (f := 22) rfl ?_); refine goesL_ (some 123) rfl rfl Tryd.func22 (by kernel_rfl) rfl #[.slice Ao16 y163.length co16] rfl (by (try simp only [List.map_toArray, List.map_cons, List.map_nil]); first | done | rfl | (simp only [List.length_drop, List.length_take]; rfl) | (simp only [YEy163.out]; rfl)) ?_; (with_reducible refine (cells_Pivot.calls k3 E _ _ y163 t167 t168 _ ?side1 ?side2 ?side3 A55.out).mono ?_); (case side1 => exact (Glob.below HG.out (by repeat (first | (with_reducible first | exact HB.out | apply below_alloc | apply pw_below_drewN | apply below_drew1) | exact HB.out)))); (case side2 => repeat (first | exact (by repeat (first | (with_reducible exact HR166.out) | (with_reducible refine Kd.C_alloc ?_ _) | (with_reducible refine Kd.C_drewN ?_ _) | (with_reducible refine Kd.C_drew ?_) | exact HR166.out)) | (with_reducible refine Kd.C_alloc ?_ _) | (with_reducible refine Kd.C_drewN ?_ _) | (with_reducible refine Kd.C_drew ?_))); (case side3 => exact HC166.out); rintro e w70 ⟨rfl, hb⟩; refine ⟨_, rfl, ?_⟩; have n0_ := Aside0.mk (Kd.R_below (by (with_reducible repeat (first | apply Kd.R_alloc | apply Kd.R_drewN | apply Kd.R_drew)); exact HO_4.out) hb); have n1_ := Aside0.mk (Kd.R_below (by (with_reducible repeat (first | apply Kd.R_alloc | apply Kd.R_drewN | apply Kd.R_drew)); exact HO_9.out) hb); have n2_ := Aside0.mk (Kd.C_below (by repeat (first | (with_reducible exact HR160.out) | (with_reducible refine Kd.C_alloc ?_ _) | (with_reducible refine Kd.C_drewN ?_ _) | (with_reducible refine Kd.C_drew ?_) | exact HR160.out)) hb); have n3_ := Aside0.mk (Kd.C_below (by repeat (first | (with_reducible exact HR166.out) | (with_reducible refine Kd.C_alloc ?_ _) | (with_reducible refine Kd.C_drewN ?_ _) | (with_reducible refine Kd.C_drew ?_) | exact HR166.out)) hb); have n4_ := Aside0.mk (below_step (by repeat (first | (with_reducible first | exact HB.out | apply below_alloc | apply pw_below_drewN | apply below_drew1) | exact HB.out)) hb); clear HO_4; clear HO_9; clear HR160; clear HR166; clear HB; have HO_4 := n0_; have HO_9 := n1_; have HR160 := n2_; have HR166 := n3_; have HB := n4_; clear n0_ n1_ n2_ n3_ n4_; (try clear hb); (try clear hb2); (try clear hk); (try clear hi); (try simp only [errW_none, errW_some])) | ((with_reducible refine gate_callee (f := 23) rfl ?_); refine goesL_ (some 128) rfl rfl Tryd.func23 (by kernel_rfl) rfl #[.slice Ao21 x9_3.length co21] rfl (by (try simp only [List.map_toArray, List.map_cons, List.map_nil]); first | done | rfl | (simp only [List.length_drop, List.length_take]; rfl) | (simp only [YEy163.out]; rfl)) ?_; (with_reducible refine (copseref6_Cut.calls k3 _ _ x9_3 t169 t170 _ ?side1 ?side2 A56.out).mono ?_); (case side1 => repeat (first | exact (Kd.R_reads' HO_9.out).2.2 | (with_reducible refine Kd.C_alloc ?_ _) | (with_reducible refine Kd.C_drewN ?_ _) | (with_reducible refine Kd.C_drew ?_))); (case side2 => exact (Kd.R_reads' HO_9.out).2.1); rintro e w' ⟨rfl, ⟨nd, rfl⟩⟩; refine ⟨_, rfl, ?_⟩) | ((with_reducible refine gate_callee (f := 24) rfl ?_); refine goesL_ (some 133) rfl rfl Tryd.func24 (by kernel_rfl) rfl #[.slice Ao21 x9_3.length co21] rfl (by (try simp only [List.map_toArray, List.map_cons, List.map_nil]); first | done | rfl | (simp only [List.length_drop, List.length_take]; rfl) | (simp only [YEy163.out]; rfl)) ?_; (with_reducible refine (copseref6_Pivot.calls k3 _ _ x9_3 t171 t172 _ ?side1 ?side2 A57.out).mono ?_); (case side1 => repeat (first | exact (Kd.R_reads' HO_9.out).2.2 | (with_reducible refine Kd.C_alloc ?_ _) | (with_reducible refine Kd.C_drewN ?_ _) | (with_reducible refine Kd.C_drew ?_))); (case side2 => exact (Kd.R_reads' HO_9.out).2.1); rintro e w' ⟨rfl, ⟨nd, rfl⟩⟩; refine ⟨_, rfl, ?_⟩; have CA60 := fun (W : World) (hG_ : Glob E W) => copsekit_Num.calls E t162 t173 W hG_ A60.out; try simp only [errW_none, errW_some] at CA60) | (go_at_call 16; (with_reducible refine (CA60 _ ?side1).mono ?_); (case side1 => exact (Glob.below HG.out (by repeat (first | (with_reducible first | exact HB.out | apply below_alloc | apply pw_below_drewN | apply below_drew1) | exact HB.out)))); rintro e w' ⟨rfl, ⟨nd, rfl⟩⟩))
                                    go_ret
                                    exact ⟨by first | rfl | (simp [errW_none, errW_some] <;> rfl) | (simp [*, errW_none, errW_some] <;> rfl), by repeat (first | (with_reducible first | exact HB.out | apply below_alloc | apply pw_below_drewN | apply below_drew1) | exact HB.out)⟩
                                · rw [if_neg c59] at H
                                  have c59b0 : (t167 == t171) = false := beq_eq_false_iff_ne.mpr c59
                                  have c59b1 : (t167 != t171) = true := bne_iff_ne.mpr c59
                                  obtain rfl := Option.some.inj H
                                  have q71 : ((l0.length : Int) : Int) ≤ ((x4_3.length : Int) : Int) := of_decide_eq_true (by first | (with_reducible assumption) | assumption)
                                  obtain ⟨i071, hi071, _, hsz71, _⟩ := info_parts info3
                                  have hroom71 : x4_3.length ≤ co16 := (Kd.R_reads' HO_4.out).2.1
                                  have hC71 : Kd.C (Kd.int .i64) _ Ao16 x4_3.length x4_3 := (Kd.R_reads' HO_4.out).2.2
                                  have hcut71 := cut_to (P := Tryd.prog) 43 3 .i64 Tryd.underlying43 hi071 Ao16 x4_3.length co16 (l0.length : Int) (of_decide_eq_true (by first | (with_reducible assumption) | assumption)) q71 hroom71
                                  have hr71 := Kd.C_take (m := ((l0.length : Int) : Int).toNat) hC71 (by omega)
                                  have hy71 : y157.length = ((l0.length : Int) : Int).toNat := (by rw [Ny157.out, List.length_take]; omega)
                                  rw [← Ny157.out] at hr71
                                  rw [← hy71] at hcut71
                                  have HR160 := Aside0.mk hr71
                                  have HC160 := Aside0.mk (show y157.length ≤ co16 from by omega)
                                  clear hr71 hC71 hroom71 hi071 hsz71
                                  have KY71 := Aside0.mk hy71
                                  clear hy71
                                  have KL71 := Aside0.mk (show ((l0.length : Int) : Int).toNat ≤ x4_3.length from by omega)
                                  replace q71 := eq_true q71
                                  go_wp2_with (first | ((with_reducible refine gate_callee (f := 21) rfl ?_); refine goesL_ (some 116) rfl rfl Tryd.func21 (by kernel_rfl) rfl #[.slice Ao16 y157.length co16] rfl (by (try simp only [List.map_toArray, List.map_cons, List.map_nil]); first | done | rfl | (simp only [List.length_drop, List.length_take]; rfl) | (simp only [YEy163.out]; rfl)) ?_; (with_reducible refine (cells_Cut.calls k3 E _ _ y157 t161 t162 _ ?side1 ?side2 ?side3 A52.out).mono ?_); (case side1 => exact (Glob.below HG.out (by repeat (first | (with_reducible first | exact HB.out | apply below_alloc | apply pw_below_drewN | apply below_drew1) | exact HB.out)))); (case side2 => repeat (first | exact (by repeat (first | (with_reducible exact HR160.out) | (with_reducible refine Kd.C_alloc ?_ _) | (with_reducible refine Kd.C_drewN ?_ _) | (with_reducible refine Kd.C_drew ?_) | exact HR160.out)) | (with_reducible refine Kd.C_alloc ?_ _) | (with_reducible refine Kd.C_drewN ?_ _) | (with_reducible refine Kd.C_drew ?_))); (case side3 => exact HC160.out); rintro e w72 ⟨rfl, hb⟩; refine ⟨_, rfl, ?_⟩; have n0_ := Aside0.mk (Kd.R_below (by (with_reducible repeat (first | apply Kd.R_alloc | apply Kd.R_drewN | apply Kd.R_drew)); exact HO_4.out) hb); have n1_ := Aside0.mk (Kd.R_below (by (with_reducible repeat (first | apply Kd.R_alloc | apply Kd.R_drewN | apply Kd.R_drew)); exact HO_9.out) hb); have n2_ := Aside0.mk (Kd.C_below (by repeat (first | (with_reducible exact HR160.out) | (with_reducible refine Kd.C_alloc ?_ _) | (with_reducible refine Kd.C_drewN ?_ _) | (with_reducible refine Kd.C_drew ?_) | exact HR160.out)) hb); have n3_ := Aside0.mk (below_step (by repeat (first | (with_reducible first | exact HB.out | apply below_alloc | apply pw_below_drewN | apply below_drew1) | exact HB.out)) hb); clear HO_4; clear HO_9; clear HR160; clear HB; have HO_4 := n0_; have HO_9 := n1_; have HR160 := n2_; have HB := n3_; clear n0_ n1_ n2_ n3_; (try clear hb); (try clear hb2); (try clear hk); (try clear hi); (try simp only [errW_none, errW_some]); have q73 : ((l0.length : Int) : Int) ≤ ((x4_3.length : Int) : Int) := of_decide_eq_true (by first | (with_reducible assumption) | assumption); obtain ⟨i073, hi073, _, hsz73, _⟩ := info_parts info3; have hroom73 : x4_3.length ≤ co16 := (Kd.R_reads' HO_4.out).2.1; have hC73 : Kd.C (Kd.int .i64) _ Ao16 x4_3.length x4_3 := (Kd.R_reads' HO_4.out).2.2; have hcut73 := cut_to (P := Tryd.prog) 43 3 .i64 Tryd.underlying43 hi073 Ao16 x4_3.length co16 (l0.length : Int) (of_decide_eq_true (by first | (with_reducible assumption) | assumption)) q73 hroom73; have hr73 := Kd.C_take (m := ((l0.length : Int) : Int).toNat) hC73 (by omega); have hy73 : y163.length = ((l0.length : Int) : Int).toNat := (by rw [Ny163.out, List.length_take]; omega); rw [← Ny163.out] at hr73; rw [← hy73] at hcut73; have HR166 := Aside0.mk hr73; have HC166 := Aside0.mk (show y163.length ≤ co16 from by omega); clear hr73 hC73 hroom73 hi073 hsz73; have KY73 := Aside0.mk hy73; clear hy73; have KL73 := Aside0.mk (show ((l0.length : Int) : Int).toNat ≤ x4_3.length from by omega); replace q73 := eq_true q73) | ((with_reducible refine gate_callee (f := 22) rfl ?_); refine goesL_ (some 123) rfl rfl Tryd.func22 (by kernel_rfl) rfl #[.slice Ao16 y163.length co16] rfl (by (try simp only [List.map_toArray, List.map_cons, List.map_nil]); first | done | rfl | (simp only [List.length_drop, List.length_take]; rfl) | (simp only [YEy163.out]; rfl)) ?_; (with_reducible refine (cells_Pivot.calls k3 E _ _ y163 t167 t168 _ ?side1 ?side2 ?side3 A55.out).mono ?_); (case side1 => exact (Glob.below HG.out (by repeat (first | (with_reducible first | exact HB.out | apply below_alloc | apply pw_below_drewN | apply below_drew1) | exact HB.out)))); (case side2 => repeat (first | exact (by repeat (first | (with_reducible exact HR166.out) | (with_reducible refine Kd.C_alloc ?_ _) | (with_reducible refine Kd.C_drewN ?_ _) | (with_reducible refine Kd.C_drew ?_) | exact HR166.out)) | (with_reducible refine Kd.C_alloc ?_ _) | (with_reducible refine Kd.C_drewN ?_ _) | (with_reducible refine Kd.C_drew ?_))); (case side3 => exact HC166.out); rintro e w74 ⟨rfl, hb⟩; refine ⟨_, rfl, ?_⟩; have n0_ := Aside0.mk (Kd.R_below (by (with_reducible repeat (first | apply Kd.R_alloc | apply Kd.R_drewN | apply Kd.R_drew)); exact HO_4.out) hb); have n1_ := Aside0.mk (Kd.R_below (by (with_reducible repeat (first | apply Kd.R_alloc | apply Kd.R_drewN | apply Kd.R_drew)); exact HO_9.out) hb); have n2_ := Aside0.mk (Kd.C_below (by repeat (first | (with_reducible exact HR160.out) | (with_reducible refine Kd.C_alloc ?_ _) | (with_reducible refine Kd.C_drewN ?_ _) | (with_reducible refine Kd.C_drew ?_) | exact HR160.out)) hb); have n3_ := Aside0.mk (Kd.C_below (by repeat (first | (with_reducible exact HR166.out) | (with_reducible refine Kd.C_alloc ?_ _) | (with_reducible refine Kd.C_drewN ?_ _) | (with_reducible refine Kd.C_drew ?_) | exact HR166.out)) hb); have n4_ := Aside0.mk (below_step (by repeat (first | (with_reducible first | exact HB.out | apply below_alloc | apply pw_below_drewN | apply below_drew1) | exact HB.out)) hb); clear HO_4; clear HO_9; clear HR160; clear HR166; clear HB; have HO_4 := n0_; have HO_9 := n1_; have HR160 := n2_; have HR166 := n3_; have HB := n4_; clear n0_ n1_ n2_ n3_ n4_; (try clear hb); (try clear hb2); (try clear hk); (try clear hi); (try simp only [errW_none, errW_some])) | ((with_reducible refine gate_callee (f := 23) rfl ?_); refine goesL_ (some 128) rfl rfl Tryd.func23 (by kernel_rfl) rfl #[.slice Ao21 x9_3.length co21] rfl (by (try simp only [List.map_toArray, List.map_cons, List.map_nil]); first | done | rfl | (simp only [List.length_drop, List.length_take]; rfl) | (simp only [YEy163.out]; rfl)) ?_; (with_reducible refine (copseref6_Cut.calls k3 _ _ x9_3 t169 t170 _ ?side1 ?side2 A56.out).mono ?_); (case side1 => repeat (first | exact (Kd.R_reads' HO_9.out).2.2 | (with_reducible refine Kd.C_alloc ?_ _) | (with_reducible refine Kd.C_drewN ?_ _) | (with_reducible refine Kd.C_drew ?_))); (case side2 => exact (Kd.R_reads' HO_9.out).2.1); rintro e w' ⟨rfl, ⟨nd, rfl⟩⟩; refine ⟨_, rfl, ?_⟩) | ((with_reducible refine gate_callee (f := 24) rfl ?_); refine goesL_ (some 133) rfl rfl Tryd.func24 (by kernel_rfl) rfl #[.slice Ao21 x9_3.length co21] rfl (by (try simp only [List.map_toArray, List.map_cons, List.map_nil]); first | done | rfl | (simp only [List.length_drop, List.length_take]; rfl) | (simp only [YEy163.out]; rfl)) ?_; (with_reducible refine (copseref6_Pivot.calls k3 _ _ x9_3 t171 t172 _ ?side1 ?side2 A57.out).mono ?_); (case side1 => repeat (first | exact (Kd.R_reads' HO_9.out).2.2 | (with_reducible refine Kd.C_alloc ?_ _) | (with_reducible refine Kd.C_drewN ?_ _) | (with_reducible refine Kd.C_drew ?_))); (case side2 => exact (Kd.R_reads' HO_9.out).2.1); rintro e w' ⟨rfl, ⟨nd, rfl⟩⟩; refine ⟨_, rfl, ?_⟩))
                                  go_ret
                                  exact ⟨by first | rfl | (simp [errW_none, errW_some] <;> rfl) | (simp [*, errW_none, errW_some] <;> rfl), by repeat (first | (with_reducible first | exact HB.out | apply below_alloc | apply pw_below_drewN | apply below_drew1) | exact HB.out)⟩
                              · rw [if_neg c58] at H
                                have c58b0 : (t161 == t169) = false := beq_eq_false_iff_ne.mpr c58
                                have c58b1 : (t161 != t169) = true := bne_iff_ne.mpr c58
                                obtain rfl := Option.some.inj H
                                have q75 : ((l0.length : Int) : Int) ≤ ((x4_3.length : Int) : Int) := of_decide_eq_true (by first | (with_reducible assumption) | assumption)
                                obtain ⟨i075, hi075, _, hsz75, _⟩ := info_parts info3
                                have hroom75 : x4_3.length ≤ co16 := (Kd.R_reads' HO_4.out).2.1
                                have hC75 : Kd.C (Kd.int .i64) _ Ao16 x4_3.length x4_3 := (Kd.R_reads' HO_4.out).2.2
                                have hcut75 := cut_to (P := Tryd.prog) 43 3 .i64 Tryd.underlying43 hi075 Ao16 x4_3.length co16 (l0.length : Int) (of_decide_eq_true (by first | (with_reducible assumption) | assumption)) q75 hroom75
                                have hr75 := Kd.C_take (m := ((l0.length : Int) : Int).toNat) hC75 (by omega)
                                have hy75 : y157.length = ((l0.length : Int) : Int).toNat := (by rw [Ny157.out, List.length_take]; omega)
                                rw [← Ny157.out] at hr75
                                rw [← hy75] at hcut75
                                have HR160 := Aside0.mk hr75
                                have HC160 := Aside0.mk (show y157.length ≤ co16 from by omega)
                                clear hr75 hC75 hroom75 hi075 hsz75
                                have KY75 := Aside0.mk hy75
                                clear hy75
                                have KL75 := Aside0.mk (show ((l0.length : Int) : Int).toNat ≤ x4_3.length from by omega)
                                replace q75 := eq_true q75
                                go_wp2_with (first | ((with_reducible refine gate_callee (f := 21) rfl ?_); refine goesL_ (some 116) rfl rfl Tryd.func21 (by kernel_rfl) rfl #[.slice Ao16 y157.length co16] rfl (by (try simp only [List.map_toArray, List.map_cons, List.map_nil]); first | done | rfl | (simp only [List.length_drop, List.length_take]; rfl) | (simp only [YEy163.out]; rfl)) ?_; (with_reducible refine (cells_Cut.calls k3 E _ _ y157 t161 t162 _ ?side1 ?side2 ?side3 A52.out).mono ?_); (case side1 => exact (Glob.below HG.out (by repeat (first | (with_reducible first | exact HB.out | apply below_alloc | apply pw_below_drewN | apply below_drew1) | exact HB.out)))); (case side2 => repeat (first | exact (by repeat (first | (with_reducible exact HR160.out) | (with_reducible refine Kd.C_alloc ?_ _) | (with_reducible refine Kd.C_drewN ?_ _) | (with_reducible refine Kd.C_drew ?_) | exact HR160.out)) | (with_reducible refine Kd.C_alloc ?_ _) | (with_reducible refine Kd.C_drewN ?_ _) | (with_reducible refine Kd.C_drew ?_))); (case side3 => exact HC160.out); rintro e w76 ⟨rfl, hb⟩; refine ⟨_, rfl, ?_⟩; have n0_ := Aside0.mk (Kd.R_below (by (with_reducible repeat (first | apply Kd.R_alloc | apply Kd.R_drewN | apply Kd.R_drew)); exact HO_4.out) hb); have n1_ := Aside0.mk (Kd.R_below (by (with_reducible repeat (first | apply Kd.R_alloc | apply Kd.R_drewN | apply Kd.R_drew)); exact HO_9.out) hb); have n2_ := Aside0.mk (Kd.C_below (by repeat (first | (with_reducible exact HR160.out) | (with_reducible refine Kd.C_alloc ?_ _) | (with_reducible refine Kd.C_drewN ?_ _) | (with_reducible refine Kd.C_drew ?_) | exact HR160.out)) hb); have n3_ := Aside0.mk (below_step (by repeat (first | (with_reducible first | exact HB.out | apply below_alloc | apply pw_below_drewN | apply below_drew1) | exact HB.out)) hb); clear HO_4; clear HO_9; clear HR160; clear HB; have HO_4 := n0_; have HO_9 := n1_; have HR160 := n2_; have HB := n3_; clear n0_ n1_ n2_ n3_; (try clear hb); (try clear hb2); (try clear hk); (try clear hi); (try simp only [errW_none, errW_some]); have q77 : ((l0.length : Int) : Int) ≤ ((x4_3.length : Int) : Int) := of_decide_eq_true (by first | (with_reducible assumption) | assumption); obtain ⟨i077, hi077, _, hsz77, _⟩ := info_parts info3; have hroom77 : x4_3.length ≤ co16 := (Kd.R_reads' HO_4.out).2.1; have hC77 : Kd.C (Kd.int .i64) _ Ao16 x4_3.length x4_3 := (Kd.R_reads' HO_4.out).2.2; have hcut77 := cut_to (P := Tryd.prog) 43 3 .i64 Tryd.underlying43 hi077 Ao16 x4_3.length co16 (l0.length : Int) (of_decide_eq_true (by first | (with_reducible assumption) | assumption)) q77 hroom77; have hr77 := Kd.C_take (m := ((l0.length : Int) : Int).toNat) hC77 (by omega); have hy77 : y163.length = ((l0.length : Int) : Int).toNat := (by rw [Ny163.out, List.length_take]; omega); rw [← Ny163.out] at hr77; rw [← hy77] at hcut77; have HR166 := Aside0.mk hr77; have HC166 := Aside0.mk (show y163.length ≤ co16 from by omega); clear hr77 hC77 hroom77 hi077 hsz77; have KY77 := Aside0.mk hy77; clear hy77; have KL77 := Aside0.mk (show ((l0.length : Int) : Int).toNat ≤ x4_3.length from by omega); replace q77 := eq_true q77) | ((with_reducible refine gate_callee (f := 22) rfl ?_); refine goesL_ (some 123) rfl rfl Tryd.func22 (by kernel_rfl) rfl #[.slice Ao16 y163.length co16] rfl (by (try simp only [List.map_toArray, List.map_cons, List.map_nil]); first | done | rfl | (simp only [List.length_drop, List.length_take]; rfl) | (simp only [YEy163.out]; rfl)) ?_; (with_reducible refine (cells_Pivot.calls k3 E _ _ y163 t167 t168 _ ?side1 ?side2 ?side3 A55.out).mono ?_); (case side1 => exact (Glob.below HG.out (by repeat (first | (with_reducible first | exact HB.out | apply below_alloc | apply pw_below_drewN | apply below_drew1) | exact HB.out)))); (case side2 => repeat (first | exact (by repeat (first | (with_reducible exact HR166.out) | (with_reducible refine Kd.C_alloc ?_ _) | (with_reducible refine Kd.C_drewN ?_ _) | (with_reducible refine Kd.C_drew ?_) | exact HR166.out)) | (with_reducible refine Kd.C_alloc ?_ _) | (with_reducible refine Kd.C_drewN ?_ _) | (with_reducible refine Kd.C_drew ?_))); (case side3 => exact HC166.out); rintro e w78 ⟨rfl, hb⟩; refine ⟨_, rfl, ?_⟩; have n0_ := Aside0.mk (Kd.R_below (by (with_reducible repeat (first | apply Kd.R_alloc | apply Kd.R_drewN | apply Kd.R_drew)); exact HO_4.out) hb); have n1_ := Aside0.mk (Kd.R_below (by (with_reducible repeat (first | apply Kd.R_alloc | apply Kd.R_drewN | apply Kd.R_drew)); exact HO_9.out) hb); have n2_ := Aside0.mk (Kd.C_below (by repeat (first | (with_reducible exact HR160.out) | (with_reducible refine Kd.C_alloc ?_ _) | (with_reducible refine Kd.C_drewN ?_ _) | (with_reducible refine Kd.C_drew ?_) | exact HR160.out)) hb); have n3_ := Aside0.mk (Kd.C_below (by repeat (first | (with_reducible exact HR166.out) | (with_reducible refine Kd.C_alloc ?_ _) | (with_reducible refine Kd.C_drewN ?_ _) | (with_reducible refine Kd.C_drew ?_) | exact HR166.out)) hb); have n4_ := Aside0.mk (below_step (by repeat (first | (with_reducible first | exact HB.out | apply below_alloc | apply pw_below_drewN | apply below_drew1) | exact HB.out)) hb); clear HO_4; clear HO_9; clear HR160; clear HR166; clear HB; have HO_4 := n0_; have HO_9 := n1_; have HR160 := n2_; have HR166 := n3_; have HB := n4_; clear n0_ n1_ n2_ n3_ n4_; (try clear hb); (try clear hb2); (try clear hk); (try clear hi); (try simp only [errW_none, errW_some])) | ((with_reducible refine gate_callee (f := 23) rfl ?_); refine goesL_ (some 128) rfl rfl Tryd.func23 (by kernel_rfl) rfl #[.slice Ao21 x9_3.length co21] rfl (by (try simp only [List.map_toArray, List.map_cons, List.map_nil]); first | done | rfl | (simp only [List.length_drop, List.length_take]; rfl) | (simp only [YEy163.out]; rfl)) ?_; (with_reducible refine (copseref6_Cut.calls k3 _ _ x9_3 t169 t170 _ ?side1 ?side2 A56.out).mono ?_); (case side1 => repeat (first | exact (Kd.R_reads' HO_9.out).2.2 | (with_reducible refine Kd.C_alloc ?_ _) | (with_reducible refine Kd.C_drewN ?_ _) | (with_reducible refine Kd.C_drew ?_))); (case side2 => exact (Kd.R_reads' HO_9.out).2.1); rintro e w' ⟨rfl, ⟨nd, rfl⟩⟩; refine ⟨_, rfl, ?_⟩) | ((with_reducible refine gate_callee (f := 24) rfl ?_); refine goesL_ (some 133) rfl rfl Tryd.func24 (by kernel_rfl) rfl #[.slice Ao21 x9_3.length co21] rfl (by (try simp only [List.map_toArray, List.map_cons, List.map_nil]); first | done | rfl | (simp only [List.length_drop, List.length_take]; rfl) | (simp only [YEy163.out]; rfl)) ?_; (with_reducible refine (copseref6_Pivot.calls k3 _ _ x9_3 t171 t172 _ ?side1 ?side2 A57.out).mono ?_); (case side1 => repeat (first | exact (Kd.R_reads' HO_9.out).2.2 | (with_reducible refine Kd.C_alloc ?_ _) | (with_reducible refine Kd.C_drewN ?_ _) | (with_reducible refine Kd.C_drew ?_))); (case side2 => exact (Kd.R_reads' HO_9.out).2.1); rintro e w' ⟨rfl, ⟨nd, rfl⟩⟩; refine ⟨_, rfl, ?_⟩))
                                go_ret
                                exact ⟨by first | rfl | (simp [errW_none, errW_some] <;> rfl) | (simp [*, errW_none, errW_some] <;> rfl), by repeat (first | (with_reducible first | exact HB.out | apply below_alloc | apply pw_below_drewN | apply below_drew1) | exact HB.out)⟩
                            · rw [if_neg c51] at H
                              exact absurd H (by simp)
                          · rw [if_neg c50] at H
                            exact absurd H (by simp)
        · rw [if_neg c5] at H
          exact absurd H (by simp)
      · rw [if_neg c4] at H
        exact absurd H (by simp)
    · rw [if_neg c3] at H
      exact absurd H (by simp)
  · rw [if_neg c2] at H
    exact absurd H (by simp)

end Go.Proofs.YtmjdkddpfcfepaaDoor.XCellsCuts
