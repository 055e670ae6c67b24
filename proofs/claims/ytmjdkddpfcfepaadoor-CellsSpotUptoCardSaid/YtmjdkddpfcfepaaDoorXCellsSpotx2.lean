-- Printed for this claim by a program (wip/printx) that builds on the kit's print. Not trusted: Lean checks it.
import Derived.Test.YtmjdkddpfcfepaaDoorXCellsSpotx0
namespace Go.Proofs.YtmjdkddpfcfepaaDoor.XCellsSpot
open Go.RowKit Go.Proofs.YtmjdkddpfcfepaaDoorW.PrintWords Go.Proofs.YtmjdkddpfcfepaaDoorW.PrintLast Go.Proofs.YtmjdkddpfcfepaaDoorW.PrintMore
attribute [local go_sem] max2_int min2_int max_two min_two max_three min_three max_four min_four   -- for this text's walks alone
set_option linter.unusedVariables false
set_option linter.unusedSimpArgs false

/-! ### cells_Read: function 18 -/
mutual
def cells_Read.j0 : Nat → Int → ByteArray → Bool → Option (List ByteArray × Option Int)
  | 0, _, _, _ => none
  | k + 1, x0, x1, x21 => if x21 = true then (some (([] : List ByteArray), some 2)) else (if 0 ≤ x0 then (if (x0 : Int).toNat ≤ 17592186044416 then (cells_Read.l0 k x1 (([] : List ByteArray)) (wrap64 (2 * x0)) x0 0) else (none)) else (none))
def cells_Read.l0 : Nat → ByteArray → List ByteArray → Int → Int → Int → Option (List ByteArray × Option Int)
  | 0, _, _, _, _, _ => none
  | k + 1, x1, x6, x7, x27, x28 => if x28 < x27 then (if 0 ≤ (wrap64 (2 * x28)) then (if (wrap64 (2 * x28)) < (x1.size : Int) then (if 0 ≤ (wrap64 ((wrap64 (2 * x28)) + 1)) then (if (wrap64 ((wrap64 (2 * x28)) + 1)) < (x1.size : Int) then (if (Go.bits .or .i64 (wrap64 ((wrap64 (bt x1 (wrap64 (2 * x28)))) * 256)) (wrap64 (bt x1 (wrap64 ((wrap64 (2 * x28)) + 1))))) < x7 then (some (([] : List ByteArray), some 2)) else (if (Go.bits .or .i64 (wrap64 ((wrap64 (bt x1 (wrap64 (2 * x28)))) * 256)) (wrap64 (bt x1 (wrap64 ((wrap64 (2 * x28)) + 1))))) > (x1.size : Int) then (some (([] : List ByteArray), some 2)) else (if 0 ≤ x7 then (if x7 ≤ (Go.bits .or .i64 (wrap64 ((wrap64 (bt x1 (wrap64 (2 * x28)))) * 256)) (wrap64 (bt x1 (wrap64 ((wrap64 (2 * x28)) + 1))))) then (if (Go.bits .or .i64 (wrap64 ((wrap64 (bt x1 (wrap64 (2 * x28)))) * 256)) (wrap64 (bt x1 (wrap64 ((wrap64 (2 * x28)) + 1))))) ≤ (x1.size : Int) then (if x6.length < 8796093022208 then (cells_Read.l0 k x1 (x6 ++ [x1.extract (x7 : Int).toNat ((Go.bits .or .i64 (wrap64 ((wrap64 (bt x1 (wrap64 (2 * x28)))) * 256)) (wrap64 (bt x1 (wrap64 ((wrap64 (2 * x28)) + 1))))) : Int).toNat]) (Go.bits .or .i64 (wrap64 ((wrap64 (bt x1 (wrap64 (2 * x28)))) * 256)) (wrap64 (bt x1 (wrap64 ((wrap64 (2 * x28)) + 1))))) x27 (wrap64 (x28 + 1))) else (none)) else (none)) else (none)) else (none)))) else (none)) else (none)) else (none)) else (none)) else (cells_Read.l1 k x1 x6 x7)
def cells_Read.l1 : Nat → ByteArray → List ByteArray → Int → Option (List ByteArray × Option Int)
  | 0, _, _, _ => none
  | k + 1, x1, x6, x10 => if x10 < (x1.size : Int) then (if 0 ≤ x10 then (if (bt x1 x10) = 0 then (cells_Read.l1 k x1 x6 (wrap64 (x10 + 1))) else (some (([] : List ByteArray), some 2))) else (none)) else (some (x6, none))
end
def cells_Read.f (k : Nat) (a0 : Int) (a1 : ByteArray) : Option (List ByteArray × Option Int) := if a0 < 0 then (cells_Read.j0 k a0 a1 true) else (if a0 > 2036 then (cells_Read.j0 k a0 a1 true) else (cells_Read.j0 k a0 a1 ((a1.size : Int) != 4072)))
theorem cells_Read.mono_l : ∀ k, (∀ y0 y1 y2, LeO (cells_Read.j0 k y0 y1 y2) (cells_Read.j0 (k + 1) y0 y1 y2)) ∧ (∀ y0 y1 y2 y3 y4, LeO (cells_Read.l0 k y0 y1 y2 y3 y4) (cells_Read.l0 (k + 1) y0 y1 y2 y3 y4)) ∧ (∀ y0 y1 y2, LeO (cells_Read.l1 k y0 y1 y2) (cells_Read.l1 (k + 1) y0 y1 y2))
  | 0 => ⟨fun _ _ _ r h => by simp [cells_Read.j0] at h, fun _ _ _ _ _ r h => by simp [cells_Read.l0] at h, fun _ _ _ r h => by simp [cells_Read.l1] at h⟩
  | k + 1 => by
    obtain ⟨ih0, ih1, ih2⟩ := cells_Read.mono_l k
    refine ⟨?_, ?_, ?_⟩
    · intro y0 y1 y2
      unfold cells_Read.j0
      repeat' first
      | (with_reducible exact ih0 _ _ _)
      | (with_reducible exact ih1 _ _ _ _ _)
      | (with_reducible exact ih2 _ _ _)
      | (with_reducible exact LeO.refl _)
      | (with_reducible exact LeO.none _)
      | (with_reducible refine LeO.ite ?_ ?_)
      | (with_reducible refine LeO.bind ?_ (fun _ => ?_))
      | exact ih0 _ _ _
      | exact ih1 _ _ _ _ _
      | exact ih2 _ _ _
      | exact LeO.none _
      | refine LeO.ite ?_ ?_
      | refine LeO.bind ?_ (fun _ => ?_)
    · intro y0 y1 y2 y3 y4
      unfold cells_Read.l0
      repeat' first
      | (with_reducible exact ih0 _ _ _)
      | (with_reducible exact ih1 _ _ _ _ _)
      | (with_reducible exact ih2 _ _ _)
      | (with_reducible exact LeO.refl _)
      | (with_reducible exact LeO.none _)
      | (with_reducible refine LeO.ite ?_ ?_)
      | (with_reducible refine LeO.bind ?_ (fun _ => ?_))
      | exact ih0 _ _ _
      | exact ih1 _ _ _ _ _
      | exact ih2 _ _ _
      | exact LeO.none _
      | refine LeO.ite ?_ ?_
      | refine LeO.bind ?_ (fun _ => ?_)
    · intro y0 y1 y2
      unfold cells_Read.l1
      repeat' first
      | (with_reducible exact ih0 _ _ _)
      | (with_reducible exact ih1 _ _ _ _ _)
      | (with_reducible exact ih2 _ _ _)
      | (with_reducible exact LeO.refl _)
      | (with_reducible exact LeO.none _)
      | (with_reducible refine LeO.ite ?_ ?_)
      | (with_reducible refine LeO.bind ?_ (fun _ => ?_))
      | exact ih0 _ _ _
      | exact ih1 _ _ _ _ _
      | exact ih2 _ _ _
      | exact LeO.none _
      | refine LeO.ite ?_ ?_
      | refine LeO.bind ?_ (fun _ => ?_)
theorem cells_Read.mono : ∀ a0 a1 k, LeO (cells_Read.f k a0 a1) (cells_Read.f (k + 1) a0 a1) := by
  intro a0 a1 k
  obtain ⟨ih0, ih1, ih2⟩ := cells_Read.mono_l k
  unfold cells_Read.f
  repeat' first
      | (with_reducible exact ih0 _ _ _)
      | (with_reducible exact ih1 _ _ _ _ _)
      | (with_reducible exact ih2 _ _ _)
      | (with_reducible exact LeO.refl _)
      | (with_reducible exact LeO.none _)
      | (with_reducible refine LeO.ite ?_ ?_)
      | (with_reducible refine LeO.bind ?_ (fun _ => ?_))
      | exact ih0 _ _ _
      | exact ih1 _ _ _ _ _
      | exact ih2 _ _ _
      | exact LeO.none _
      | refine LeO.ite ?_ ?_
      | refine LeO.bind ?_ (fun _ => ?_)
set_option maxHeartbeats 8000000 in
set_option maxRecDepth 100000 in
theorem cells_Read.calls (k : Nat) (E : Int → Addr) (a0 : Int) (a1 : ByteArray) (r1 : List ByteArray) (r2 : Option Int) (w : World) (hG : Glob E w) (h : cells_Read.f k a0 a1 = some (r1, r2)) :
    Calls Tryd.prog 18 #[.int .i64 a0, .string a1] w fun e w' => ∃ v0_ : Value, e = .returned (.tuple #[v0_, errW E r2]) ∧ Kd.R Kd.string 9 w' w.heap.size (fun _ => True) v0_ r1 ∧ Below w.heap.size w w' := by
  have HB := Aside0.mk (Below.refl w.heap.size w)
  have HG := Aside0.mk hG
  clear hG
  have H : (if a0 < 0 then (cells_Read.j0 k a0 a1 true) else (if a0 > 2036 then (cells_Read.j0 k a0 a1 true) else (cells_Read.j0 k a0 a1 ((a1.size : Int) != 4072)))) = some (r1, r2) := h
  clear h
  have HC3 := Aside0.mk H
  clear H
  go_enter Tryd.func18, Tryd.ntmps18
  go_upto_region 1 with (fail)
  repeat (go_quiet (fail); go_upto_region 1 with (fail))
  go_cut [21] (fun v21 wc => ∃ (kq : Nat) (x21_2 : Bool), v21 = .bool x21_2 ∧ Aside0 (cells_Read.j0 kq a0 a1 x21_2 = some (r1, r2)) ∧ Aside0 (kq ≤ k) ∧ Aside0 (Below w.heap.size w wc))
  case first =>
    have H := HC3.out
    clear HC3
    by_cases c4 : a0 < 0
    · rw [if_pos c4] at H
      have c4b0 : decide (a0 < 0) = true := decide_eq_true c4
      clear c4
      (first | rw [c4b0] | (simp only [i64_w, i32_w]; rw [c4b0]) | skip)
      have H' := Aside0.mk H
      clear H
      go_wp2
      repeat (go_quiet (fail); try go_wp2)
      go_meet
      case rel => exact ⟨_, (true), (by first | rfl | (simp; done) | (simp [*]; done)), H', ⟨by first | omega | exact Nat.le_refl _⟩, ⟨by repeat (first | (with_reducible first | exact HB.out | apply below_alloc | apply pw_below_drewN | apply below_drew1) | exact HB.out)⟩⟩
    · rw [if_neg c4] at H
      have c4b0 : decide (a0 < 0) = false := decide_eq_false c4
      clear c4
      (first | rw [c4b0] | (simp only [i64_w, i32_w]; rw [c4b0]) | skip)
      by_cases c5 : a0 > 2036
      · rw [if_pos c5] at H
        have c5b0 : decide (2036 < a0) = true := decide_eq_true c5
        clear c5
        have H' := Aside0.mk H
        clear H
        go_wp2
        repeat (go_quiet (fail); try go_wp2)
        go_meet
        case rel => exact ⟨_, (true), (by first | rfl | (simp; done) | (simp [*]; done)), H', ⟨by first | omega | exact Nat.le_refl _⟩, ⟨by repeat (first | (with_reducible first | exact HB.out | apply below_alloc | apply pw_below_drewN | apply below_drew1) | exact HB.out)⟩⟩
      · rw [if_neg c5] at H
        have c5b0 : decide (2036 < a0) = false := decide_eq_false c5
        clear c5
        have H' := Aside0.mk H
        clear H
        go_wp2
        repeat (go_quiet (fail); try go_wp2)
        go_meet
        case rel => exact ⟨_, (((a1.size : Int) != 4072)), (by first | rfl | (simp; done) | (simp [*]; done)), H', ⟨by first | omega | exact Nat.le_refl _⟩, ⟨by repeat (first | (with_reducible first | exact HB.out | apply below_alloc | apply pw_below_drewN | apply below_drew1) | exact HB.out)⟩⟩
  case rest =>
    clear HC3
    try clear c1
    try clear p2
    try clear c4
    try clear c4b0
    try clear c5
    try clear c5b0
    obtain ⟨kq, x21_2, rfl, HA, HJ2, HB⟩ := hcut
    cases kq with
    | zero => exact absurd HA.out (by simp [cells_Read.j0])
    | succ kj2 =>
      have H := HA.out
      clear HA
      simp only [cells_Read.j0] at H
      by_cases c6 : x21_2 = true
      · subst c6
        have H1 : (some (([] : List ByteArray), some 2)) = some (r1, r2) := by rw [if_pos rfl] at H; exact H
        clear H
        have H := H1
        clear H1
        simp only [Option.some.injEq, Prod.mk.injEq] at H
        obtain ⟨rfl, rfl⟩ := H
        have hx7 : wc.cell? ⟨1, 0, none⟩ = some (errW E (some 2)) := Glob.c1 (Glob.below HG.out (by repeat (first | (with_reducible first | exact HB.out | apply below_alloc | apply pw_below_drewN | apply below_drew1) | exact HB.out)))
        simp only [errW_some] at hx7
        go_wp2
        repeat (go_quiet (fail); try go_wp2)
        go_ret2
        exact ⟨_, by first | rfl | (simp [errW_none, errW_some] <;> rfl) | (simp [*, errW_none, errW_some] <;> rfl), by first | exact Kd.R_nil _ _ _ _ _ | exact Kd.N_nil _ _ _ _ _ | exact Kd.V_nil _ _ _ _ _ | exact Kd.Q_nil _ _ _ _ _ | exact Kd.S_nil _ _ _ _ _, by repeat (first | (with_reducible first | exact HB.out | apply below_alloc | apply pw_below_drewN | apply below_drew1) | exact HB.out)⟩
      · replace c6 := Bool.eq_false_iff.mpr c6
        subst c6
        have H1 : (if 0 ≤ a0 then (if (a0 : Int).toNat ≤ 17592186044416 then (cells_Read.l0 kj2 a1 (([] : List ByteArray)) (wrap64 (2 * a0)) a0 0) else (none)) else (none)) = some (r1, r2) := by rw [if_neg (show ¬ (false = true) by decide)] at H; exact H
        clear H
        have H := H1
        clear H1
        by_cases c8 : 0 ≤ a0
        · rw [if_pos c8] at H
          have c8b0 := eq_true c8
          have c8b1 : decide (0 ≤ a0) = true := decide_eq_true c8
          clear c8
          by_cases c9 : (a0 : Int).toNat ≤ 17592186044416
          · rw [if_pos c9] at H
            have c9b0 := eq_true c9
            have c9b1 : decide ((a0 : Int).toNat ≤ 17592186044416) = true := decide_eq_true c9
            clear c9
            obtain ⟨y107, hy107⟩ : ∃ y_ : List ByteArray, y_ = (([] : List ByteArray)) := ⟨_, rfl⟩
            replace H : (cells_Read.l0 kj2 a1 y107 (wrap64 (2 * a0)) a0 0) = some (r1, r2) := by first | (rw [hy107]; with_reducible exact H) | (have H2_ := (Option.bind_some _ _).symm.trans H; rw [hy107]; with_reducible exact H2_) | (have H2_ := (Option.bind_some _ _).symm.trans H; with_reducible exact H2_) | with_reducible exact H | (rw [hy107]; exact H) | exact H
            have Ny107 := Aside0.mk hy107
            clear hy107
            have H' := Aside0.mk H
            clear H
            go_wp2_with (first | ((with_reducible refine gate_dst (N := 24) rfl ?_); (try (refine gate_guard (by rfl) ?_; dsimp only)); refine R_make0 Kd.string _ 9 rfl (N := 24) rfl 22 _ _ rfl a0 rfl rfl Tryd.underlying22 (.string ⟨#[]⟩) 16 info9 rfl (by decide) (by omega) (⟨#[]⟩ : ByteArray) (ok := fun _ => True) (okp := fun _ => True) rfl (fun _ hk => hk) trivial (of_decide_eq_true (by first | (with_reducible assumption) | assumption)) (Nat.le_trans (Nat.mul_le_mul_right _ (of_decide_eq_true (by first | (with_reducible assumption) | assumption) : a0.toNat ≤ 17592186044416)) (by omega)) (Below.refl _ _) (Nat.le_refl _) ?_; intro v108 w10 ho11 hb hg_ hnew_; clear hg_ hnew_; (first | rw [← Ny107.out] at ho11 | (simp only [Int.reduceToNat] at ho11; rw [← Ny107.out] at ho11)); have n0_ := Aside0.mk (Kd.R_lower ho11 (below_size (by repeat (first | (with_reducible first | exact HB.out | apply below_alloc | apply pw_below_drewN | apply below_drew1) | exact HB.out)))); have n1_ := Aside0.mk (below_step (by repeat (first | (with_reducible first | exact HB.out | apply below_alloc | apply pw_below_drewN | apply below_drew1) | exact HB.out)) hb); clear HB; have HO109 := n0_; have HB := n1_; clear n0_ n1_; clear hb ho11))
            repeat (go_quiet (first | ((with_reducible refine gate_dst (N := 24) rfl ?_); (try (refine gate_guard (by rfl) ?_; dsimp only)); refine R_make0 Kd.string _ 9 rfl (N := 24) rfl 22 _ _ rfl a0 rfl rfl Tryd.underlying22 (.string ⟨#[]⟩) 16 info9 rfl (by decide) (by omega) (⟨#[]⟩ : ByteArray) (ok := fun _ => True) (okp := fun _ => True) rfl (fun _ hk => hk) trivial (of_decide_eq_true (by first | (with_reducible assumption) | assumption)) (Nat.le_trans (Nat.mul_le_mul_right _ (of_decide_eq_true (by first | (with_reducible assumption) | assumption) : a0.toNat ≤ 17592186044416)) (by omega)) (Below.refl _ _) (Nat.le_refl _) ?_; intro v108 w10 ho11 hb hg_ hnew_; clear hg_ hnew_; (first | rw [← Ny107.out] at ho11 | (simp only [Int.reduceToNat] at ho11; rw [← Ny107.out] at ho11)); have n0_ := Aside0.mk (Kd.R_lower ho11 (below_size (by repeat (first | (with_reducible first | exact HB.out | apply below_alloc | apply pw_below_drewN | apply below_drew1) | exact HB.out)))); have n1_ := Aside0.mk (below_step (by repeat (first | (with_reducible first | exact HB.out | apply below_alloc | apply pw_below_drewN | apply below_drew1) | exact HB.out)) hb); clear HB; have HO109 := n0_; have HB := n1_; clear n0_ n1_; clear hb ho11)); try go_wp2_with (first | ((with_reducible refine gate_dst (N := 24) rfl ?_); (try (refine gate_guard (by rfl) ?_; dsimp only)); refine R_make0 Kd.string _ 9 rfl (N := 24) rfl 22 _ _ rfl a0 rfl rfl Tryd.underlying22 (.string ⟨#[]⟩) 16 info9 rfl (by decide) (by omega) (⟨#[]⟩ : ByteArray) (ok := fun _ => True) (okp := fun _ => True) rfl (fun _ hk => hk) trivial (of_decide_eq_true (by first | (with_reducible assumption) | assumption)) (Nat.le_trans (Nat.mul_le_mul_right _ (of_decide_eq_true (by first | (with_reducible assumption) | assumption) : a0.toNat ≤ 17592186044416)) (by omega)) (Below.refl _ _) (Nat.le_refl _) ?_; intro v108 w10 ho11 hb hg_ hnew_; clear hg_ hnew_; (first | rw [← Ny107.out] at ho11 | (simp only [Int.reduceToNat] at ho11; rw [← Ny107.out] at ho11)); have n0_ := Aside0.mk (Kd.R_lower ho11 (below_size (by repeat (first | (with_reducible first | exact HB.out | apply below_alloc | apply pw_below_drewN | apply below_drew1) | exact HB.out)))); have n1_ := Aside0.mk (below_step (by repeat (first | (with_reducible first | exact HB.out | apply below_alloc | apply pw_below_drewN | apply below_drew1) | exact HB.out)) hb); clear HB; have HO109 := n0_; have HB := n1_; clear n0_ n1_; clear hb ho11)))
            go_loopg [6, 7, 28] kj2 (fun kq v6 v7 v28 w' => ∃ (x6_2 : List ByteArray) (x7_2 : Int) (x28_2 : Int), v7 = .int .i64 x7_2 ∧ v28 = .int .i64 x28_2 ∧ Aside0 (cells_Read.l0 kq a1 x6_2 x7_2 a0 x28_2 = some (r1, r2)) ∧ Aside0 (kq ≤ kj2) ∧ Aside0 (Kd.R Kd.string 9 w' w.heap.size (fun _ => True) v6 x6_2) ∧ Aside0 (Below w.heap.size w w'))
            case atStart => exact ⟨(y107), (wrap64 (2 * a0)), (0), (by first | rfl | (simp; done) | (simp [*]; done)), (by first | rfl | (simp; done) | (simp [*]; done)), H', ⟨Nat.le_refl _⟩, ⟨by (with_reducible repeat (first | apply Kd.R_alloc | apply Kd.R_drewN | apply Kd.R_drew)); exact HO109.out⟩, ⟨by repeat (first | (with_reducible first | exact HB.out | apply below_alloc | apply pw_below_drewN | apply below_drew1) | exact HB.out)⟩⟩
            case round =>
              clear H'
              try clear c1
              try clear p2
              try clear c4
              try clear c4b0
              try clear c5
              try clear c5b0
              try clear c6
              try clear p6
              try clear hx7
              try clear c8
              try clear c8b0
              try clear c8b1
              try clear c9
              try clear c9b0
              try clear c9b1
              try clear p2
              obtain ⟨x6_2, x7_2, x28_2, rfl, rfl, HA, HK2, HO_6, HB⟩ := hrel
              cases gk with
              | zero => exact absurd HA.out (by simp [cells_Read.l0])
              | succ k2 =>
                have H := HA.out
                clear HA
                simp only [cells_Read.l0] at H
                by_cases c12 : x28_2 < a0
                · rw [if_pos c12] at H
                  have c12b0 : decide (x28_2 < a0) = true := decide_eq_true c12
                  clear c12
                  obtain ⟨ji13, hji13⟩ : ∃ j_ : Int, (wrap64 (2 * x28_2)) = j_ := ⟨_, rfl⟩
                  replace H : (if 0 ≤ (ji13) then (if (ji13) < (a1.size : Int) then (if 0 ≤ (wrap64 ((ji13) + 1)) then (if (wrap64 ((ji13) + 1)) < (a1.size : Int) then (if (Go.bits .or .i64 (wrap64 ((wrap64 (bt a1 (ji13))) * 256)) (wrap64 (bt a1 (wrap64 ((ji13) + 1))))) < x7_2 then (some (([] : List ByteArray), some 2)) else (if (Go.bits .or .i64 (wrap64 ((wrap64 (bt a1 (ji13))) * 256)) (wrap64 (bt a1 (wrap64 ((ji13) + 1))))) > (a1.size : Int) then (some (([] : List ByteArray), some 2)) else (if 0 ≤ x7_2 then (if x7_2 ≤ (Go.bits .or .i64 (wrap64 ((wrap64 (bt a1 (ji13))) * 256)) (wrap64 (bt a1 (wrap64 ((ji13) + 1))))) then (if (Go.bits .or .i64 (wrap64 ((wrap64 (bt a1 (ji13))) * 256)) (wrap64 (bt a1 (wrap64 ((ji13) + 1))))) ≤ (a1.size : Int) then (if x6_2.length < 8796093022208 then (cells_Read.l0 k2 a1 (x6_2 ++ [a1.extract (x7_2 : Int).toNat ((Go.bits .or .i64 (wrap64 ((wrap64 (bt a1 (ji13))) * 256)) (wrap64 (bt a1 (wrap64 ((ji13) + 1))))) : Int).toNat]) (Go.bits .or .i64 (wrap64 ((wrap64 (bt a1 (ji13))) * 256)) (wrap64 (bt a1 (wrap64 ((ji13) + 1))))) a0 (wrap64 (x28_2 + 1))) else (none)) else (none)) else (none)) else (none)))) else (none)) else (none)) else (none)) else (none)) = some (r1, r2) := by first | (rw [hji13] at H; exact H) | (simp only [hji13] at H ⊢; exact H)
                  have hji13w : (IntKind.i64.wrap (2 * x28_2)) = ji13 := (i64_w _).trans hji13
                  by_cases c14 : 0 ≤ (ji13)
                  · rw [if_pos c14] at H
                    have c14b0 : decide (0 ≤ (ji13)) = true := decide_eq_true c14
                    clear c14
                    by_cases c15 : (ji13) < (a1.size : Int)
                    · rw [if_pos c15] at H
                      have c15b0 : decide ((ji13) < (a1.size : Int)) = true := decide_eq_true c15
                      clear c15
                      obtain ⟨ji17, hji17⟩ : ∃ j_ : Int, (wrap64 ((ji13) + 1)) = j_ := ⟨_, rfl⟩
                      replace H : (if 0 ≤ (ji17) then (if (ji17) < (a1.size : Int) then (if (Go.bits .or .i64 (wrap64 ((wrap64 (bt a1 (ji13))) * 256)) (wrap64 (bt a1 (ji17)))) < x7_2 then (some (([] : List ByteArray), some 2)) else (if (Go.bits .or .i64 (wrap64 ((wrap64 (bt a1 (ji13))) * 256)) (wrap64 (bt a1 (ji17)))) > (a1.size : Int) then (some (([] : List ByteArray), some 2)) else (if 0 ≤ x7_2 then (if x7_2 ≤ (Go.bits .or .i64 (wrap64 ((wrap64 (bt a1 (ji13))) * 256)) (wrap64 (bt a1 (ji17)))) then (if (Go.bits .or .i64 (wrap64 ((wrap64 (bt a1 (ji13))) * 256)) (wrap64 (bt a1 (ji17)))) ≤ (a1.size : Int) then (if x6_2.length < 8796093022208 then (cells_Read.l0 k2 a1 (x6_2 ++ [a1.extract (x7_2 : Int).toNat ((Go.bits .or .i64 (wrap64 ((wrap64 (bt a1 (ji13))) * 256)) (wrap64 (bt a1 (ji17)))) : Int).toNat]) (Go.bits .or .i64 (wrap64 ((wrap64 (bt a1 (ji13))) * 256)) (wrap64 (bt a1 (ji17)))) a0 (wrap64 (x28_2 + 1))) else (none)) else (none)) else (none)) else (none)))) else (none)) else (none)) = some (r1, r2) := by first | (rw [hji17] at H; exact H) | (simp only [hji17] at H ⊢; exact H)
                      have hji17w : (IntKind.i64.wrap ((ji13) + 1)) = ji17 := (i64_w _).trans hji17
                      by_cases c18 : 0 ≤ (ji17)
                      · rw [if_pos c18] at H
                        have c18b0 : decide (0 ≤ (ji17)) = true := decide_eq_true c18
                        clear c18
                        by_cases c19 : (ji17) < (a1.size : Int)
                        · rw [if_pos c19] at H
                          have c19b0 : decide ((ji17) < (a1.size : Int)) = true := decide_eq_true c19
                          clear c19
                          by_cases c21 : (Go.bits .or .i64 (wrap64 ((wrap64 (bt a1 (ji13))) * 256)) (wrap64 (bt a1 (ji17)))) < x7_2
                          · rw [if_pos c21] at H
                            have c21b0 : decide ((Go.bits .or .i64 (wrap64 ((wrap64 (bt a1 (ji13))) * 256)) (wrap64 (bt a1 (ji17)))) < x7_2) = true := decide_eq_true c21
                            clear c21
                            simp only [Option.some.injEq, Prod.mk.injEq] at H
                            obtain ⟨rfl, rfl⟩ := H
                            have p16 : 0 ≤ ((ji13) : Int) := of_decide_eq_true (by first | (with_reducible assumption) | assumption)
                            have q16 : (ji13) < (a1.size : Int) := of_decide_eq_true (by first | (with_reducible assumption) | assumption)
                            have hx16 := bt_at a1 (ji13)
                            replace p16 := eq_true p16
                            replace q16 := eq_true q16
                            have p20 : 0 ≤ ((ji17) : Int) := of_decide_eq_true (by first | (with_reducible assumption) | assumption)
                            have q20 : (ji17) < (a1.size : Int) := of_decide_eq_true (by first | (with_reducible assumption) | assumption)
                            have hx20 := bt_at a1 (ji17)
                            replace p20 := eq_true p20
                            replace q20 := eq_true q20
                            have hx22 : wr.cell? ⟨1, 0, none⟩ = some (errW E (some 2)) := Glob.c1 (Glob.below HG.out (by repeat (first | (with_reducible first | exact HB.out | apply below_alloc | apply pw_below_drewN | apply below_drew1) | exact HB.out)))
                            simp only [errW_some] at hx22
                            go_wp2
                            repeat (go_quiet (fail); try go_wp2)
                            go_ret2
                            exact ⟨_, by first | rfl | (simp [errW_none, errW_some] <;> rfl) | (simp only [← hji13, ← hji17]; first | rfl | (simp [errW_none, errW_some] <;> rfl)) | (simp [*, errW_none, errW_some] <;> rfl), by first | exact Kd.R_nil _ _ _ _ _ | exact Kd.N_nil _ _ _ _ _ | exact Kd.V_nil _ _ _ _ _ | exact Kd.Q_nil _ _ _ _ _ | exact Kd.S_nil _ _ _ _ _, by repeat (first | (with_reducible first | exact HB.out | apply below_alloc | apply pw_below_drewN | apply below_drew1) | exact HB.out)⟩
                          · rw [if_neg c21] at H
                            have c21b0 : decide ((Go.bits .or .i64 (wrap64 ((wrap64 (bt a1 (ji13))) * 256)) (wrap64 (bt a1 (ji17)))) < x7_2) = false := decide_eq_false c21
                            clear c21
                            by_cases c23 : (Go.bits .or .i64 (wrap64 ((wrap64 (bt a1 (ji13))) * 256)) (wrap64 (bt a1 (ji17)))) > (a1.size : Int)
                            · rw [if_pos c23] at H
                              have c23b0 : decide ((a1.size : Int) < (Go.bits .or .i64 (wrap64 ((wrap64 (bt a1 (ji13))) * 256)) (wrap64 (bt a1 (ji17))))) = true := decide_eq_true c23
                              clear c23
                              simp only [Option.some.injEq, Prod.mk.injEq] at H
                              obtain ⟨rfl, rfl⟩ := H
                              have p16 : 0 ≤ ((ji13) : Int) := of_decide_eq_true (by first | (with_reducible assumption) | assumption)
                              have q16 : (ji13) < (a1.size : Int) := of_decide_eq_true (by first | (with_reducible assumption) | assumption)
                              have hx16 := bt_at a1 (ji13)
                              replace p16 := eq_true p16
                              replace q16 := eq_true q16
                              have p20 : 0 ≤ ((ji17) : Int) := of_decide_eq_true (by first | (with_reducible assumption) | assumption)
                              have q20 : (ji17) < (a1.size : Int) := of_decide_eq_true (by first | (with_reducible assumption) | assumption)
                              have hx20 := bt_at a1 (ji17)
                              replace p20 := eq_true p20
                              replace q20 := eq_true q20
                              have hx24 : wr.cell? ⟨1, 0, none⟩ = some (errW E (some 2)) := Glob.c1 (Glob.below HG.out (by repeat (first | (with_reducible first | exact HB.out | apply below_alloc | apply pw_below_drewN | apply below_drew1) | exact HB.out)))
                              simp only [errW_some] at hx24
                              go_wp2
                              repeat (go_quiet (fail); try go_wp2)
                              go_ret2
                              exact ⟨_, by first | rfl | (simp [errW_none, errW_some] <;> rfl) | (simp only [← hji13, ← hji17]; first | rfl | (simp [errW_none, errW_some] <;> rfl)) | (simp [*, errW_none, errW_some] <;> rfl), by first | exact Kd.R_nil _ _ _ _ _ | exact Kd.N_nil _ _ _ _ _ | exact Kd.V_nil _ _ _ _ _ | exact Kd.Q_nil _ _ _ _ _ | exact Kd.S_nil _ _ _ _ _, by repeat (first | (with_reducible first | exact HB.out | apply below_alloc | apply pw_below_drewN | apply below_drew1) | exact HB.out)⟩
                            · rw [if_neg c23] at H
                              have c23b0 : decide ((a1.size : Int) < (Go.bits .or .i64 (wrap64 ((wrap64 (bt a1 (ji13))) * 256)) (wrap64 (bt a1 (ji17))))) = false := decide_eq_false c23
                              clear c23
                              by_cases c25 : 0 ≤ x7_2
                              · rw [if_pos c25] at H
                                have c25b0 := eq_true c25
                                have c25b1 : decide (0 ≤ x7_2) = true := decide_eq_true c25
                                clear c25
                                by_cases c26 : x7_2 ≤ (Go.bits .or .i64 (wrap64 ((wrap64 (bt a1 (ji13))) * 256)) (wrap64 (bt a1 (ji17))))
                                · rw [if_pos c26] at H
                                  have c26b0 := eq_true c26
                                  have c26b1 : decide (x7_2 ≤ (Go.bits .or .i64 (wrap64 ((wrap64 (bt a1 (ji13))) * 256)) (wrap64 (bt a1 (ji17))))) = true := decide_eq_true c26
                                  clear c26
                                  by_cases c27 : (Go.bits .or .i64 (wrap64 ((wrap64 (bt a1 (ji13))) * 256)) (wrap64 (bt a1 (ji17)))) ≤ (a1.size : Int)
                                  · rw [if_pos c27] at H
                                    have c27b0 := eq_true c27
                                    have c27b1 : decide ((Go.bits .or .i64 (wrap64 ((wrap64 (bt a1 (ji13))) * 256)) (wrap64 (bt a1 (ji17)))) ≤ (a1.size : Int)) = true := decide_eq_true c27
                                    clear c27
                                    by_cases c28 : x6_2.length < 8796093022208
                                    · rw [if_pos c28] at H
                                      have LMc28 := Aside0.mk c28
                                      clear c28
                                      obtain ⟨y110, hy110⟩ : ∃ y_ : List ByteArray, y_ = (x6_2 ++ [a1.extract (x7_2 : Int).toNat ((Go.bits .or .i64 (wrap64 ((wrap64 (bt a1 (ji13))) * 256)) (wrap64 (bt a1 (ji17)))) : Int).toNat]) := ⟨_, rfl⟩
                                      replace H : (cells_Read.l0 k2 a1 y110 (Go.bits .or .i64 (wrap64 ((wrap64 (bt a1 (ji13))) * 256)) (wrap64 (bt a1 (ji17)))) a0 (wrap64 (x28_2 + 1))) = some (r1, r2) := by first | (rw [hy110]; with_reducible exact H) | (have H2_ := (Option.bind_some _ _).symm.trans H; rw [hy110]; with_reducible exact H2_) | (have H2_ := (Option.bind_some _ _).symm.trans H; with_reducible exact H2_) | with_reducible exact H | (rw [hy110]; exact H) | exact H
                                      have Ny110 := Aside0.mk hy110
                                      clear hy110
                                      have H' := Aside0.mk H
                                      clear H
                                      have p16 : 0 ≤ ((ji13) : Int) := of_decide_eq_true (by first | (with_reducible assumption) | assumption)
                                      have q16 : (ji13) < (a1.size : Int) := of_decide_eq_true (by first | (with_reducible assumption) | assumption)
                                      have hx16 := bt_at a1 (ji13)
                                      replace p16 := eq_true p16
                                      replace q16 := eq_true q16
                                      have p20 : 0 ≤ ((ji17) : Int) := of_decide_eq_true (by first | (with_reducible assumption) | assumption)
                                      have q20 : (ji17) < (a1.size : Int) := of_decide_eq_true (by first | (with_reducible assumption) | assumption)
                                      have hx20 := bt_at a1 (ji17)
                                      replace p20 := eq_true p20
                                      replace q20 := eq_true q20
                                      go_wp2_with (first | ((with_reducible refine gate_builtin (b := .append) (xs := #[.tmp 54, .tmp 59]) rfl ?_); (try (refine gate_guard (by rfl) ?_; dsimp only)); at_builtin; refine Kd.R_append Kd.string (w0 := w) w.heap.size rfl (.tmp 54) (.tmp 59) 22 9 (.string ⟨#[]⟩) 16 rfl Tryd.underlying22 info9 rfl (by decide) (by omega) u6 x6_2 (a1.extract (x7_2 : Int).toNat ((Go.bits .or .i64 (wrap64 ((wrap64 (bt a1 (ji13))) * 256)) (wrap64 (bt a1 (ji17)))) : Int).toNat) [.string (a1.extract (x7_2 : Int).toNat ((Go.bits .or .i64 (wrap64 ((wrap64 (bt a1 (ji13))) * 256)) (wrap64 (bt a1 (ji17)))) : Int).toNat)] (fun _ => True) (fun _ => False) rfl rfl ?aP (fun _ hk => hk.elim) ?aF ?aO ?aB ?aS ?aL ?_; (case aP => exact rfl); (case aB => exact (by repeat (first | (with_reducible first | exact HB.out | apply below_alloc | apply pw_below_drewN | apply below_drew1) | exact HB.out))); (case aF => exact (fun _ _ => trivial)); (case aO => exact (by (with_reducible repeat (first | apply Kd.R_alloc | apply Kd.R_drewN | apply Kd.R_drew)); exact HO_6.out)); (case aS => exact (below_size (by repeat (first | (with_reducible first | exact HB.out | apply below_alloc | apply pw_below_drewN | apply below_drew1) | exact HB.out)))); (case aL => have := LMc28.out; omega); intro v111 w29 ho hb hg hat; rw [← Ny110.out] at ho; have n0_ := Aside0.mk (hb); have n1_ := Aside0.mk (ho); clear HB; clear HO_6; have HB := n0_; have HO112 := n1_; clear n0_ n1_; clear ho hb hg hat))
                                      repeat (go_quiet (first | ((with_reducible refine gate_builtin (b := .append) (xs := #[.tmp 54, .tmp 59]) rfl ?_); (try (refine gate_guard (by rfl) ?_; dsimp only)); at_builtin; refine Kd.R_append Kd.string (w0 := w) w.heap.size rfl (.tmp 54) (.tmp 59) 22 9 (.string ⟨#[]⟩) 16 rfl Tryd.underlying22 info9 rfl (by decide) (by omega) u6 x6_2 (a1.extract (x7_2 : Int).toNat ((Go.bits .or .i64 (wrap64 ((wrap64 (bt a1 (ji13))) * 256)) (wrap64 (bt a1 (ji17)))) : Int).toNat) [.string (a1.extract (x7_2 : Int).toNat ((Go.bits .or .i64 (wrap64 ((wrap64 (bt a1 (ji13))) * 256)) (wrap64 (bt a1 (ji17)))) : Int).toNat)] (fun _ => True) (fun _ => False) rfl rfl ?aP (fun _ hk => hk.elim) ?aF ?aO ?aB ?aS ?aL ?_; (case aP => exact rfl); (case aB => exact (by repeat (first | (with_reducible first | exact HB.out | apply below_alloc | apply pw_below_drewN | apply below_drew1) | exact HB.out))); (case aF => exact (fun _ _ => trivial)); (case aO => exact (by (with_reducible repeat (first | apply Kd.R_alloc | apply Kd.R_drewN | apply Kd.R_drew)); exact HO_6.out)); (case aS => exact (below_size (by repeat (first | (with_reducible first | exact HB.out | apply below_alloc | apply pw_below_drewN | apply below_drew1) | exact HB.out)))); (case aL => have := LMc28.out; omega); intro v111 w29 ho hb hg hat; rw [← Ny110.out] at ho; have n0_ := Aside0.mk (hb); have n1_ := Aside0.mk (ho); clear HB; clear HO_6; have HB := n0_; have HO112 := n1_; clear n0_ n1_; clear ho hb hg hat)); try go_wp2_with (first | ((with_reducible refine gate_builtin (b := .append) (xs := #[.tmp 54, .tmp 59]) rfl ?_); (try (refine gate_guard (by rfl) ?_; dsimp only)); at_builtin; refine Kd.R_append Kd.string (w0 := w) w.heap.size rfl (.tmp 54) (.tmp 59) 22 9 (.string ⟨#[]⟩) 16 rfl Tryd.underlying22 info9 rfl (by decide) (by omega) u6 x6_2 (a1.extract (x7_2 : Int).toNat ((Go.bits .or .i64 (wrap64 ((wrap64 (bt a1 (ji13))) * 256)) (wrap64 (bt a1 (ji17)))) : Int).toNat) [.string (a1.extract (x7_2 : Int).toNat ((Go.bits .or .i64 (wrap64 ((wrap64 (bt a1 (ji13))) * 256)) (wrap64 (bt a1 (ji17)))) : Int).toNat)] (fun _ => True) (fun _ => False) rfl rfl ?aP (fun _ hk => hk.elim) ?aF ?aO ?aB ?aS ?aL ?_; (case aP => exact rfl); (case aB => exact (by repeat (first | (with_reducible first | exact HB.out | apply below_alloc | apply pw_below_drewN | apply below_drew1) | exact HB.out))); (case aF => exact (fun _ _ => trivial)); (case aO => exact (by (with_reducible repeat (first | apply Kd.R_alloc | apply Kd.R_drewN | apply Kd.R_drew)); exact HO_6.out)); (case aS => exact (below_size (by repeat (first | (with_reducible first | exact HB.out | apply below_alloc | apply pw_below_drewN | apply below_drew1) | exact HB.out)))); (case aL => have := LMc28.out; omega); intro v111 w29 ho hb hg hat; rw [← Ny110.out] at ho; have n0_ := Aside0.mk (hb); have n1_ := Aside0.mk (ho); clear HB; clear HO_6; have HB := n0_; have HO112 := n1_; clear n0_ n1_; clear ho hb hg hat)))
                                      go_roundg k2
                                      case measure => have := HJ2.out; have := HK2.out; omega
                                      case rel => exact ⟨(y110), (Go.bits .or .i64 (wrap64 ((wrap64 (bt a1 (ji13))) * 256)) (wrap64 (bt a1 (ji17)))), (wrap64 (x28_2 + 1)), (by first | rfl | (simp; done) | (simp only [← hji13, ← hji17] <;> (first | rfl | simp)) | (simp [*]; done)), (by first | rfl | (simp; done) | (simp [*]; done)), H', ⟨by have := HJ2.out; have := HK2.out; omega⟩, ⟨by (with_reducible repeat (first | apply Kd.R_alloc | apply Kd.R_drewN | apply Kd.R_drew)); exact HO112.out⟩, ⟨by repeat (first | (with_reducible first | exact HB.out | apply below_alloc | apply pw_below_drewN | apply below_drew1) | exact HB.out)⟩⟩
                                    · rw [if_neg c28] at H
                                      exact absurd H (by simp)
                                  · rw [if_neg c27] at H
                                    exact absurd H (by simp)
                                · rw [if_neg c26] at H
                                  exact absurd H (by simp)
                              · rw [if_neg c25] at H
                                exact absurd H (by simp)
                        · rw [if_neg c19] at H
                          exact absurd H (by simp)
                      · rw [if_neg c18] at H
                        exact absurd H (by simp)
                    · rw [if_neg c15] at H
                      exact absurd H (by simp)
                  · rw [if_neg c14] at H
                    exact absurd H (by simp)
                · rw [if_neg c12] at H
                  have c12b0 : decide (x28_2 < a0) = false := decide_eq_false c12
                  clear c12
                  have H' := Aside0.mk H
                  clear H
                  go_wp2
                  repeat (go_quiet (fail); try go_wp2)
                  go_loopg [10] k2 (fun kq v10 w' => ∃ (x10_3 : Int), v10 = .int .i64 x10_3 ∧ Aside0 (cells_Read.l1 kq a1 x6_2 x10_3 = some (r1, r2)) ∧ Aside0 (kq ≤ k2) ∧ Aside0 (Kd.R Kd.string 9 w' w.heap.size (fun _ => True) u6 x6_2) ∧ Aside0 (Below w.heap.size w w'))
                  case atStart => exact ⟨(x7_2), (by first | rfl | (simp; done) | (simp [*]; done)), H', ⟨Nat.le_refl _⟩, ⟨by (with_reducible repeat (first | apply Kd.R_alloc | apply Kd.R_drewN | apply Kd.R_drew)); exact HO_6.out⟩, ⟨by repeat (first | (with_reducible first | exact HB.out | apply below_alloc | apply pw_below_drewN | apply below_drew1) | exact HB.out)⟩⟩
                  case round =>
                    clear H'
                    try clear c1
                    try clear p1
                    try clear q1
                    try clear hx1
                    try clear c2
                    try clear p2
                    try clear q2
                    try clear hx2
                    try clear c4
                    try clear c4b0
                    try clear c5
                    try clear c5b0
                    try clear c6
                    try clear p6
                    try clear hx7
                    try clear c8
                    try clear c8b0
                    try clear c8b1
                    try clear c9
                    try clear c9b0
                    try clear c9b1
                    try clear c12
                    try clear c12b0
                    try clear c14
                    try clear c14b0
                    try clear c15
                    try clear c15b0
                    try clear p16
                    try clear q16
                    try clear hx16
                    try clear c18
                    try clear c18b0
                    try clear c19
                    try clear c19b0
                    try clear p20
                    try clear q20
                    try clear hx20
                    try clear c21
                    try clear c21b0
                    try clear hx22
                    try clear c23
                    try clear c23b0
                    try clear hx24
                    try clear c25
                    try clear c25b0
                    try clear c25b1
                    try clear c26
                    try clear c26b0
                    try clear c26b1
                    try clear c27
                    try clear c27b0
                    try clear c27b1
                    try clear c28
                    try clear p16
                    try clear p2
                    try clear p20
                    try clear p6
                    try clear q16
                    try clear q20
                    obtain ⟨x10_3, rfl, HA, HK3, HO_6, HB⟩ := hrel
                    cases gk with
                    | zero => exact absurd HA.out (by simp [cells_Read.l1])
                    | succ k3 =>
                      have H := HA.out
                      clear HA
                      simp only [cells_Read.l1] at H
                      by_cases c30 : x10_3 < (a1.size : Int)
                      · rw [if_pos c30] at H
                        have c30b0 : decide (x10_3 < (a1.size : Int)) = true := decide_eq_true c30
                        clear c30
                        by_cases c31 : 0 ≤ x10_3
                        · rw [if_pos c31] at H
                          have c31b0 : decide (0 ≤ x10_3) = true := decide_eq_true c31
                          clear c31
                          by_cases c33 : (bt a1 x10_3) = 0
                          · rw [if_pos c33] at H
                            have c33b0 : ((bt a1 x10_3) == 0) = true := beq_iff_eq.mpr c33
                            have c33b1 : ((bt a1 x10_3) != 0) = false := bne_eq_false_iff_eq.mpr c33
                            clear c33
                            have H' := Aside0.mk H
                            clear H
                            have p32 : 0 ≤ (x10_3 : Int) := of_decide_eq_true (by first | (with_reducible assumption) | assumption)
                            have q32 : x10_3 < (a1.size : Int) := of_decide_eq_true (by first | (with_reducible assumption) | assumption)
                            have hx32 := bt_at a1 x10_3
                            replace p32 := eq_true p32
                            replace q32 := eq_true q32
                            go_wp2
                            repeat (go_quiet (fail); try go_wp2)
                            go_roundg k3
                            case measure => have := HJ2.out; have := HK2.out; have := HK3.out; omega
                            case rel => exact ⟨(wrap64 (x10_3 + 1)), (by first | rfl | (simp; done) | (simp [*]; done)), H', ⟨by have := HJ2.out; have := HK2.out; have := HK3.out; omega⟩, ⟨by (with_reducible repeat (first | apply Kd.R_alloc | apply Kd.R_drewN | apply Kd.R_drew)); exact HO_6.out⟩, ⟨by repeat (first | (with_reducible first | exact HB.out | apply below_alloc | apply pw_below_drewN | apply below_drew1) | exact HB.out)⟩⟩
                          · rw [if_neg c33] at H
                            have c33b0 : ((bt a1 x10_3) == 0) = false := beq_eq_false_iff_ne.mpr c33
                            have c33b1 : ((bt a1 x10_3) != 0) = true := bne_iff_ne.mpr c33
                            simp only [Option.some.injEq, Prod.mk.injEq] at H
                            obtain ⟨rfl, rfl⟩ := H
                            have p32 : 0 ≤ (x10_3 : Int) := of_decide_eq_true (by first | (with_reducible assumption) | assumption)
                            have q32 : x10_3 < (a1.size : Int) := of_decide_eq_true (by first | (with_reducible assumption) | assumption)
                            have hx32 := bt_at a1 x10_3
                            replace p32 := eq_true p32
                            replace q32 := eq_true q32
                            have hx34 : wr.cell? ⟨1, 0, none⟩ = some (errW E (some 2)) := Glob.c1 (Glob.below HG.out (by repeat (first | (with_reducible first | exact HB.out | apply below_alloc | apply pw_below_drewN | apply below_drew1) | exact HB.out)))
                            simp only [errW_some] at hx34
                            go_wp2
                            repeat (go_quiet (fail); try go_wp2)
                            go_ret2
                            exact ⟨_, by first | rfl | (simp [errW_none, errW_some] <;> rfl) | (simp [*, errW_none, errW_some] <;> rfl), by first | exact Kd.R_nil _ _ _ _ _ | exact Kd.N_nil _ _ _ _ _ | exact Kd.V_nil _ _ _ _ _ | exact Kd.Q_nil _ _ _ _ _ | exact Kd.S_nil _ _ _ _ _, by repeat (first | (with_reducible first | exact HB.out | apply below_alloc | apply pw_below_drewN | apply below_drew1) | exact HB.out)⟩
                        · rw [if_neg c31] at H
                          exact absurd H (by simp)
                      · rw [if_neg c30] at H
                        have c30b0 : decide (x10_3 < (a1.size : Int)) = false := decide_eq_false c30
                        clear c30
                        simp only [Option.some.injEq, Prod.mk.injEq] at H
                        obtain ⟨rfl, rfl⟩ := H
                        go_wp2
                        repeat (go_quiet (fail); try go_wp2)
                        go_ret2
                        exact ⟨_, by first | rfl | (simp [errW_none, errW_some] <;> rfl) | (simp [*, errW_none, errW_some] <;> rfl), by (with_reducible repeat (first | apply Kd.R_alloc | apply Kd.R_drewN | apply Kd.R_drew)); exact HO_6.out, by repeat (first | (with_reducible first | exact HB.out | apply below_alloc | apply pw_below_drewN | apply below_drew1) | exact HB.out)⟩
          · rw [if_neg c9] at H
            exact absurd H (by simp)
        · rw [if_neg c8] at H
          exact absurd H (by simp)

/-! ### cells_check: function 32 -/
def cells_check.l0 : Nat → Int → List Int → Int → Int → Option (Int × Option Int)
  | 0, _, _, _, _ => none
  | k + 1, x6, x14, x15, x16 => if x16 < x15 then (if 0 ≤ x16 then (if x16 < (x14.length : Int) then (if (rd x14 x16) < 1 then (some (0, some 1)) else (if (rd x14 x16) > 4072 then (some (0, some 1)) else (cells_check.l0 k (wrap64 (x6 + (rd x14 x16))) x14 x15 (wrap64 (x16 + 1))))) else (none)) else (none)) else (some (x6, none))
def cells_check.f (k : Nat) (l0 : List Int) (a1 : Int) : Option (Int × Option Int) := if (l0.length : Int) < a1 then (some (0, some 4)) else (cells_check.l0 k 0 l0 (l0.length : Int) 0)
theorem cells_check.mono_l : ∀ k, (∀ y0 y1 y2 y3, LeO (cells_check.l0 k y0 y1 y2 y3) (cells_check.l0 (k + 1) y0 y1 y2 y3))
  | 0 => fun _ _ _ _ r h => by simp [cells_check.l0] at h
  | k + 1 => by
    have ih0 := cells_check.mono_l k
    · intro y0 y1 y2 y3
      unfold cells_check.l0
      repeat' first
      | (with_reducible exact ih0 _ _ _ _)
      | (with_reducible exact LeO.refl _)
      | (with_reducible exact LeO.none _)
      | (with_reducible refine LeO.ite ?_ ?_)
      | (with_reducible refine LeO.bind ?_ (fun _ => ?_))
      | exact ih0 _ _ _ _
      | exact LeO.none _
      | refine LeO.ite ?_ ?_
      | refine LeO.bind ?_ (fun _ => ?_)
theorem cells_check.mono : ∀ a0 a1 k, LeO (cells_check.f k a0 a1) (cells_check.f (k + 1) a0 a1) := by
  intro a0 a1 k
  have ih0 := cells_check.mono_l k
  unfold cells_check.f
  repeat' first
      | (with_reducible exact ih0 _ _ _ _)
      | (with_reducible exact LeO.refl _)
      | (with_reducible exact LeO.none _)
      | (with_reducible refine LeO.ite ?_ ?_)
      | (with_reducible refine LeO.bind ?_ (fun _ => ?_))
      | exact ih0 _ _ _ _
      | exact LeO.none _
      | refine LeO.ite ?_ ?_
      | refine LeO.bind ?_ (fun _ => ?_)
set_option maxHeartbeats 8000000 in
set_option maxRecDepth 100000 in
theorem cells_check.calls (k : Nat) (E : Int → Addr) (A0 : Option Addr) (c0 : Nat) (l0 : List Int) (a1 : Int) (r1 : Int) (r2 : Option Int) (w : World) (hG : Glob E w) (hr0 : Kd.C (Kd.int .i64) w A0 l0.length l0) (hc0 : l0.length ≤ c0) (h : cells_check.f k l0 a1 = some (r1, r2)) :
    Calls Tryd.prog 32 #[.slice A0 l0.length c0, .int .i64 a1] w fun e w' => e = .returned (.tuple #[.int .i64 r1, errW E r2]) ∧ Drawn0 w w' := by
  have HR0 := Aside0.mk hr0
  have HC0 := Aside0.mk hc0
  clear hr0 hc0
  have HG := Aside0.mk hG
  clear hG
  have H : (if (l0.length : Int) < a1 then (some (0, some 4)) else (cells_check.l0 k 0 l0 (l0.length : Int) 0)) = some (r1, r2) := h
  clear h
  by_cases c3 : (l0.length : Int) < a1
  · rw [if_pos c3] at H
    have c3b0 : decide ((l0.length : Int) < a1) = true := decide_eq_true c3
    clear c3
    simp only [Option.some.injEq, Prod.mk.injEq] at H
    obtain ⟨rfl, rfl⟩ := H
    have hx4 : w.cell? ⟨3, 0, none⟩ = some (errW E (some 4)) := Glob.c3 (by repeat (first | exact HG.out | exact (HG.out.drewN _) | exact HG.out.drew | (with_reducible refine Glob.drewN ?_ _) | (with_reducible refine Glob.drew ?_) | (with_reducible refine Glob.alloc ?_ _)))
    simp only [errW_some] at hx4
    go_enter Tryd.func32, Tryd.ntmps32
    go_wp2
    repeat (go_quiet (fail); try go_wp2)
    go_ret2
    exact ⟨by first | rfl | (simp; done) | (simp [*]; done), by repeat (first | exact Drawn0.refl _ | apply Drawn0.step)⟩
  · rw [if_neg c3] at H
    have c3b0 : decide ((l0.length : Int) < a1) = false := decide_eq_false c3
    clear c3
    have H' := Aside0.mk H
    clear H
    go_enter Tryd.func32, Tryd.ntmps32
    go_wp2
    repeat (go_quiet (fail); try go_wp2)
    go_loopg [6, 16] k (fun kq v6 v16 w' => ∃ (x6_1 : Int) (x16_1 : Int), v6 = .int .i64 x6_1 ∧ v16 = .int .i64 x16_1 ∧ Aside0 (cells_check.l0 kq x6_1 l0 (l0.length : Int) x16_1 = some (r1, r2)) ∧ Aside0 (kq ≤ k) ∧ Drawn0 w w')
    case atStart => exact ⟨(0), (0), (by first | rfl | (simp; done) | (simp [*]; done)), (by first | rfl | (simp; done) | (simp [*]; done)), H', ⟨Nat.le_refl _⟩, by repeat (first | exact Drawn0.refl _ | apply Drawn0.step)⟩
    case round =>
      clear H'
      try clear p2
      try clear c3
      try clear c3b0
      try clear hx4
      obtain ⟨x6_1, x16_1, rfl, rfl, HA, HK1, ⟨m1, rfl⟩⟩ := hrel
      cases gk with
      | zero => exact absurd HA.out (by simp [cells_check.l0])
      | succ k1 =>
        have H := HA.out
        clear HA
        simp only [cells_check.l0] at H
        by_cases c5 : x16_1 < (l0.length : Int)
        · rw [if_pos c5] at H
          have c5b0 : decide (x16_1 < (l0.length : Int)) = true := decide_eq_true c5
          clear c5
          by_cases c6 : 0 ≤ x16_1
          · rw [if_pos c6] at H
            have c6b0 : decide (0 ≤ x16_1) = true := decide_eq_true c6
            clear c6
            by_cases c7 : x16_1 < (l0.length : Int)
            · rw [if_pos c7] at H
              have c7b0 : decide (x16_1 < (l0.length : Int)) = true := decide_eq_true c7
              clear c7
              by_cases c8 : (rd l0 x16_1) < 1
              · rw [if_pos c8] at H
                have c8b0 : decide ((rd l0 x16_1) < 1) = true := decide_eq_true c8
                clear c8
                simp only [Option.some.injEq, Prod.mk.injEq] at H
                obtain ⟨rfl, rfl⟩ := H
                have p113 : 0 ≤ (x16_1 : Int) := of_decide_eq_true (by first | (with_reducible assumption) | assumption)
                have q113 : x16_1 < (l0.length : Int) := of_decide_eq_true (by first | (with_reducible assumption) | assumption)
                obtain ⟨ad113, e113, hx113_0⟩ := Kd.at_int HR0.out x16_1 p113 q113
                cases e113
                replace p113 := eq_true p113
                replace q113 := eq_true q113
                have hx9 : w.cell? ⟨2, 0, none⟩ = some (errW E (some 1)) := Glob.c2 (by repeat (first | exact HG.out | exact (HG.out.drewN _) | exact HG.out.drew | (with_reducible refine Glob.drewN ?_ _) | (with_reducible refine Glob.drew ?_) | (with_reducible refine Glob.alloc ?_ _)))
                simp only [errW_some] at hx9
                go_wp2
                repeat (go_quiet (fail); try go_wp2)
                go_ret2
                exact ⟨by first | rfl | (simp; done) | (simp [*]; done), by repeat (first | exact Drawn0.refl _ | apply Drawn0.step)⟩
              · rw [if_neg c8] at H
                have c8b0 : decide ((rd l0 x16_1) < 1) = false := decide_eq_false c8
                clear c8
                by_cases c10 : (rd l0 x16_1) > 4072
                · rw [if_pos c10] at H
                  have c10b0 : decide (4072 < (rd l0 x16_1)) = true := decide_eq_true c10
                  clear c10
                  simp only [Option.some.injEq, Prod.mk.injEq] at H
                  obtain ⟨rfl, rfl⟩ := H
                  have p113 : 0 ≤ (x16_1 : Int) := of_decide_eq_true (by first | (with_reducible assumption) | assumption)
                  have q113 : x16_1 < (l0.length : Int) := of_decide_eq_true (by first | (with_reducible assumption) | assumption)
                  obtain ⟨ad113, e113, hx113_0⟩ := Kd.at_int HR0.out x16_1 p113 q113
                  cases e113
                  replace p113 := eq_true p113
                  replace q113 := eq_true q113
                  have hx11 : w.cell? ⟨2, 0, none⟩ = some (errW E (some 1)) := Glob.c2 (by repeat (first | exact HG.out | exact (HG.out.drewN _) | exact HG.out.drew | (with_reducible refine Glob.drewN ?_ _) | (with_reducible refine Glob.drew ?_) | (with_reducible refine Glob.alloc ?_ _)))
                  simp only [errW_some] at hx11
                  go_wp2
                  repeat (go_quiet (fail); try go_wp2)
                  go_ret2
                  exact ⟨by first | rfl | (simp; done) | (simp [*]; done), by repeat (first | exact Drawn0.refl _ | apply Drawn0.step)⟩
                · rw [if_neg c10] at H
                  have c10b0 : decide (4072 < (rd l0 x16_1)) = false := decide_eq_false c10
                  clear c10
                  have H' := Aside0.mk H
                  clear H
                  have p113 : 0 ≤ (x16_1 : Int) := of_decide_eq_true (by first | (with_reducible assumption) | assumption)
                  have q113 : x16_1 < (l0.length : Int) := of_decide_eq_true (by first | (with_reducible assumption) | assumption)
                  obtain ⟨ad113, e113, hx113_0⟩ := Kd.at_int HR0.out x16_1 p113 q113
                  cases e113
                  replace p113 := eq_true p113
                  replace q113 := eq_true q113
                  go_wp2
                  repeat (go_quiet (fail); try go_wp2)
                  go_roundg k1
                  case measure => have := HK1.out; omega
                  case rel => exact ⟨(wrap64 (x6_1 + (rd l0 x16_1))), (wrap64 (x16_1 + 1)), (by first | rfl | (simp; done) | (simp [*]; done)), (by first | rfl | (simp; done) | (simp [*]; done)), H', ⟨by have := HK1.out; omega⟩, by repeat (first | exact Drawn0.refl _ | apply Drawn0.step)⟩
            · rw [if_neg c7] at H
              exact absurd H (by simp)
          · rw [if_neg c6] at H
            exact absurd H (by simp)
        · rw [if_neg c5] at H
          have c5b0 : decide (x16_1 < (l0.length : Int)) = false := decide_eq_false c5
          clear c5
          simp only [Option.some.injEq, Prod.mk.injEq] at H
          obtain ⟨rfl, rfl⟩ := H
          go_wp2
          repeat (go_quiet (fail); try go_wp2)
          go_ret2
          exact ⟨by first | rfl | (simp; done) | (simp [*]; done), by repeat (first | exact Drawn0.refl _ | apply Drawn0.step)⟩

-- NOT PRINTED: function 33 (cells_nearest)

/-! ### cells_Cut: function 21 -/
def cells_nearest.abs (w : Int) : Int := if w < 0 then wrap64 (-w) else w
def cells_nearest.l (g : Int → Int → Int) : Nat → List Int → Int → Int → Int → Int → Int → Option Int
  | 0, _, _, _, _, _, _ => none
  | k + 1, xs, last, best, least, ahead, i => if i ≤ last then (if 0 ≤ i ∧ i < (xs.length : Int) then
      (if best = 0 ∨ cells_nearest.abs (g ahead (rd xs i)) < least then cells_nearest.l g k xs last i (cells_nearest.abs (g ahead (rd xs i))) (wrap64 (ahead + rd xs i)) (wrap64 (i + 1))
       else cells_nearest.l g k xs last best least (wrap64 (ahead + rd xs i)) (wrap64 (i + 1))) else none) else some best
def cells_nearest.f (g : Int → Int → Int) (k : Nat) (xs : List Int) (last : Int) : Option Int := if 0 < (xs.length : Int) then cells_nearest.l g k xs last 0 0 (rd xs 0) 1 else none
theorem cells_nearest.mono_l (g : Int → Int → Int) : ∀ k y0 y1 y2 y3 y4 y5, LeO (cells_nearest.l g k y0 y1 y2 y3 y4 y5) (cells_nearest.l g (k + 1) y0 y1 y2 y3 y4 y5)
  | 0 => fun _ _ _ _ _ _ r h => by simp [cells_nearest.l] at h
  | k + 1 => by
    have ih := cells_nearest.mono_l g k
    intro y0 y1 y2 y3 y4 y5
    unfold cells_nearest.l
    repeat' first
      | (with_reducible exact ih _ _ _ _ _ _)
      | (with_reducible exact LeO.refl _)
      | (with_reducible exact LeO.none _)
      | (with_reducible refine LeO.ite ?_ ?_)
theorem cells_nearest.mono (g : Int → Int → Int) (a0 a1) (k : Nat) : LeO (cells_nearest.f g k a0 a1) (cells_nearest.f g (k + 1) a0 a1) := by
  unfold cells_nearest.f
  exact LeO.ite (cells_nearest.mono_l g k _ _ _ _ _ _) (LeO.refl _)
theorem cell_new_ (w : World) (v : Value) (t : Nat) : (w.alloc (.cells #[v] t)).cell? ⟨w.heap.size, 0, none⟩ = some v := by
  have h := heap_alloc_new w (.cells #[v] t)
  unfold World.cell?
  simp only [h]
  rfl
theorem cells_Cut.clo (all ah ow : Int) (b : Nat) (w : World) (hv : w.cell? ⟨b, 0, none⟩ = some (.int .i64 all)) :
    Calls Tryd.prog 34 #[.int .i64 ah, .int .i64 ow, .pointer (some ⟨b, 0, none⟩)] w fun e w' => e = .returned (.int .i64 (wrap64 (wrap64 (2 * ah) - all))) ∧ w' = w := by
  go_enter Tryd.func34, Tryd.ntmps34
  go_wp2
  go_ret
  exact ⟨by simp, rfl⟩
set_option maxHeartbeats 8000000 in
set_option maxRecDepth 100000 in
theorem cells_Cut.near (all : Int) (b : Nat) (k : Nat) (A0 : Option Addr) (c0 : Nat) (l0 : List Int) (a1 : Int) (r : Int) (w : World) (hv : w.cell? ⟨b, 0, none⟩ = some (.int .i64 all)) (hr0 : Kd.C (Kd.int .i64) w A0 l0.length l0)
    (h : cells_nearest.f (fun ah ow => wrap64 (wrap64 (2 * ah) - all)) k l0 a1 = some r) :
    Calls Tryd.prog 33 #[.slice A0 l0.length c0, .int .i64 a1, .func (.func 34) #[] #[.pointer (some ⟨b, 0, none⟩)]] w fun e w' => e = .returned (.int .i64 r) ∧ w' = w := by
  have HR0 := Aside0.mk hr0
  have HV := Aside0.mk hv
  clear hr0 hv
  unfold cells_nearest.f at h
  by_cases c1 : 0 < (l0.length : Int)
  · rw [if_pos c1] at h
    have H' := Aside0.mk h
    clear h
    obtain ⟨ad, e, hx⟩ := Kd.at_int HR0.out 0 (by omega) c1
    cases e
    rw [show ad.add (Int.toNat 0) = ad from by unfold Addr.add; simp] at hx
    have c1b : decide (0 < (l0.length : Int)) = true := decide_eq_true c1
    go_enter Tryd.func33, Tryd.ntmps33
    go_wp2
    go_loopg [7, 8, 9, 10] k (fun kq v7 v8 v9 v10 w' => ∃ (x7 x8 x9 x10 : Int), v7 = .int .i64 x7 ∧ v8 = .int .i64 x8 ∧ v9 = .int .i64 x9 ∧ v10 = .int .i64 x10 ∧ Aside0 (cells_nearest.l (fun ah ow => wrap64 (wrap64 (2 * ah) - all)) kq l0 a1 x7 x8 x9 x10 = some r) ∧ w' = w)
    case atStart => exact ⟨_, _, _, _, rfl, rfl, rfl, rfl, H', rfl⟩
    case round =>
      clear H'
      obtain ⟨x7, x8, x9, x10, rfl, rfl, rfl, rfl, HA, rfl⟩ := hrel
      cases gk with
      | zero => exact absurd HA.out (by simp [cells_nearest.l])
      | succ k1 =>
        have H := HA.out
        clear HA
        simp only [cells_nearest.l] at H
        by_cases c2 : x10 ≤ a1
        · rw [if_pos c2] at H
          have c2b : decide (x10 ≤ a1) = true := decide_eq_true c2
          by_cases c3 : 0 ≤ x10 ∧ x10 < (l0.length : Int)
          · rw [if_pos c3] at H
            obtain ⟨c3, c4⟩ := c3
            have c3b : decide (0 ≤ x10) = true := decide_eq_true c3
            have c4b : decide (x10 < (l0.length : Int)) = true := decide_eq_true c4
            obtain ⟨ad2, e2, hx2⟩ := Kd.at_int HR0.out x10 c3 c4
            cases e2
            have hv := HV.out
            obtain ⟨gv, hgv⟩ : ∃ gv, wrap64 (wrap64 (2 * x9) - all) = gv := ⟨_, rfl⟩
            rw [hgv] at H
            by_cases c5 : gv < 0
            · have c5b : decide (gv < 0) = true := decide_eq_true c5
              rw [show cells_nearest.abs gv = wrap64 (-gv) from if_pos c5] at H
              by_cases c6 : x7 = 0
              · have c6b : (x7 == 0) = true := beq_iff_eq.mpr c6
                rw [if_pos (.inl c6)] at H
                have H' := Aside0.mk H
                clear H
                go_wp2_with (first | (go_at_call 34; refine (cells_Cut.clo all _ _ b _ hv).mono ?_; rintro e w1 ⟨rfl, rfl⟩))
                go_roundg k1
                case measure => omega
                case rel => exact ⟨_, _, _, _, rfl, rfl, rfl, rfl, H', rfl⟩
              · have c6b : (x7 == 0) = false := beq_eq_false_iff_ne.mpr c6
                by_cases c7 : wrap64 (-gv) < x8
                · have c7b : decide (wrap64 (-gv) < x8) = true := decide_eq_true c7
                  rw [if_pos (.inr c7)] at H
                  have H' := Aside0.mk H
                  clear H
                  go_wp2_with (first | (go_at_call 34; refine (cells_Cut.clo all _ _ b _ hv).mono ?_; rintro e w1 ⟨rfl, rfl⟩))
                  go_roundg k1
                  case measure => omega
                  case rel => exact ⟨_, _, _, _, rfl, rfl, rfl, rfl, H', rfl⟩
                · have c7b : decide (wrap64 (-gv) < x8) = false := decide_eq_false c7
                  rw [if_neg (fun h => h.elim c6 c7)] at H
                  have H' := Aside0.mk H
                  clear H
                  go_wp2_with (first | (go_at_call 34; refine (cells_Cut.clo all _ _ b _ hv).mono ?_; rintro e w1 ⟨rfl, rfl⟩))
                  go_roundg k1
                  case measure => omega
                  case rel => exact ⟨_, _, _, _, rfl, rfl, rfl, rfl, H', rfl⟩
            · have c5b : decide (gv < 0) = false := decide_eq_false c5
              rw [show cells_nearest.abs gv = gv from if_neg c5] at H
              by_cases c6 : x7 = 0
              · have c6b : (x7 == 0) = true := beq_iff_eq.mpr c6
                rw [if_pos (.inl c6)] at H
                have H' := Aside0.mk H
                clear H
                go_wp2_with (first | (go_at_call 34; refine (cells_Cut.clo all _ _ b _ hv).mono ?_; rintro e w1 ⟨rfl, rfl⟩))
                go_roundg k1
                case measure => omega
                case rel => exact ⟨_, _, _, _, rfl, rfl, rfl, rfl, H', rfl⟩
              · have c6b : (x7 == 0) = false := beq_eq_false_iff_ne.mpr c6
                by_cases c7 : gv < x8
                · have c7b : decide (gv < x8) = true := decide_eq_true c7
                  rw [if_pos (.inr c7)] at H
                  have H' := Aside0.mk H
                  clear H
                  go_wp2_with (first | (go_at_call 34; refine (cells_Cut.clo all _ _ b _ hv).mono ?_; rintro e w1 ⟨rfl, rfl⟩))
                  go_roundg k1
                  case measure => omega
                  case rel => exact ⟨_, _, _, _, rfl, rfl, rfl, rfl, H', rfl⟩
                · have c7b : decide (gv < x8) = false := decide_eq_false c7
                  rw [if_neg (fun h => h.elim c6 c7)] at H
                  have H' := Aside0.mk H
                  clear H
                  go_wp2_with (first | (go_at_call 34; refine (cells_Cut.clo all _ _ b _ hv).mono ?_; rintro e w1 ⟨rfl, rfl⟩))
                  go_roundg k1
                  case measure => omega
                  case rel => exact ⟨_, _, _, _, rfl, rfl, rfl, rfl, H', rfl⟩
          · rw [if_neg c3] at H
            exact absurd H (by simp)
        · rw [if_neg c2] at H
          have c2b : decide (x10 ≤ a1) = false := decide_eq_false c2
          obtain rfl := Option.some.inj H
          go_wp2
          go_ret
          exact ⟨rfl, rfl⟩
  · rw [if_neg c1] at h
    exact absurd h (by simp)
def cells_Cut.f (k : Nat) (l0 : List Int) : Option (Int × Option Int) := (cells_check.f k l0 2).bind fun t => if t.2.isNone = true then (cells_nearest.f (fun ah ow => wrap64 (wrap64 (2 * ah) - t.1)) k l0 (wrap64 ((l0.length : Int) - 1))).bind fun n => some (n, none) else some (0, t.2)
theorem cells_Cut.mono : ∀ a0 k, LeO (cells_Cut.f k a0) (cells_Cut.f (k + 1) a0) := by
  intro a0 k
  unfold cells_Cut.f
  exact LeO.bind (cells_check.mono _ _ _) (fun _ => LeO.ite (LeO.bind (cells_nearest.mono _ _ _ _) (fun _ => LeO.refl _)) (LeO.refl _))
set_option maxHeartbeats 8000000 in
set_option maxRecDepth 100000 in
theorem cells_Cut.calls (k : Nat) (E : Int → Addr) (A0 : Option Addr) (c0 : Nat) (l0 : List Int) (r1 : Int) (r2 : Option Int) (w : World) (hG : Glob E w) (hr0 : Kd.C (Kd.int .i64) w A0 l0.length l0) (hc0 : l0.length ≤ c0) (h : cells_Cut.f k l0 = some (r1, r2)) :
    Calls Tryd.prog 21 #[.slice A0 l0.length c0] w fun e w' => e = .returned (.tuple #[.int .i64 r1, errW E r2]) ∧ Below w.heap.size w w' := by
  have hu26 := Tryd.underlying26
  have HB := Aside0.mk (Below.refl w.heap.size w)
  unfold cells_Cut.f at h
  obtain ⟨⟨all, e2⟩, hA, h⟩ := Option.bind_eq_some_iff.mp h
  have hmf : ∀ (fn : Fn) (first cap : Array Value) (w : World), (Instr.makeFunc fn first cap).run Tryd.prog w = .ok (.func fn first cap) w := fun _ _ _ _ => rfl
  have HR0 := Aside0.mk hr0
  have HG := Aside0.mk hG
  have HC0 := Aside0.mk hc0
  have HA := Aside0.mk hA
  clear hr0 hG hc0 hA
  rcases e2 with _ | q
  · simp only [Option.isNone_none, ↓reduceIte] at h
    obtain ⟨n, hN, h⟩ := Option.bind_eq_some_iff.mp h
    simp only [Option.some.injEq, Prod.mk.injEq] at h
    obtain ⟨rfl, rfl⟩ := h
    have HN := Aside0.mk hN
    clear hN
    go_enter Tryd.func21, Tryd.ntmps21
    go_wp2_with (first | (go_at_call 32; refine (cells_check.calls k E _ _ l0 2 all none _ HG.out HR0.out HC0.out HA.out).mono ?_; rintro e w1 ⟨rfl, hd⟩; have HD := Aside0.mk hd; clear hd; simp only [errW_none]) | (go_at_call 33; refine (cells_Cut.near all w1.heap.size k _ c0 l0 _ n _ ?hv ?hr HN.out).mono ?_; (case hv => exact cell_new_ _ _ _); (case hr => exact Kd.C_below HR0.out (below_alloc HD.out.below _)); rintro e w2 ⟨rfl, rfl⟩))
    go_ret2
    exact ⟨rfl, below_alloc HD.out.below _⟩
  · simp only [Option.isNone_some, Bool.false_eq_true, ↓reduceIte] at h
    simp only [Option.some.injEq, Prod.mk.injEq] at h
    obtain ⟨rfl, rfl⟩ := h
    go_enter Tryd.func21, Tryd.ntmps21
    go_wp2_with (first | (go_at_call 32; refine (cells_check.calls k E _ _ l0 2 all (some q) _ HG.out HR0.out HC0.out HA.out).mono ?_; rintro e w1 ⟨rfl, hd⟩; have HD := Aside0.mk hd; clear hd; simp only [errW_some]))
    go_ret2
    exact ⟨rfl, below_alloc HD.out.below _⟩

end Go.Proofs.YtmjdkddpfcfepaaDoor.XCellsSpot
