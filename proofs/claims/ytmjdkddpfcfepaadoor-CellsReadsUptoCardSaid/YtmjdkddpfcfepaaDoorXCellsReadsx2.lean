-- Printed for this claim by a program (wip/printx) that builds on the kit's print. Not trusted: Lean checks it.
import Derived.Test.YtmjdkddpfcfepaaDoorXCellsReadsx0
namespace Go.Proofs.YtmjdkddpfcfepaaDoor.XCellsReads
open Go.RowKit Go.Proofs.YtmjdkddpfcfepaaDoorW.PrintWords Go.Proofs.YtmjdkddpfcfepaaDoorW.PrintLast Go.Proofs.YtmjdkddpfcfepaaDoorW.PrintMore
attribute [local go_sem] max2_int min2_int max_two min_two max_three min_three max_four min_four   -- for this text's walks alone
set_option linter.unusedVariables false
set_option linter.unusedSimpArgs false

/-! ### cells_Read: function 18 -/
mutual
def cells_Read.j0 : Nat → Int → ByteArray → Bool → Option (List ByteArray × Option Int)
  | 0, _, _, _ => none
  | k + 1, x0, x1, x21 => if x21 = true then (some (([] : List ByteArray), some 2)) else (if 0 ≤ x0 then (if (x0 : Int).toNat ≤ 17592186044416 then (cells_Read.l0 k x1 (([] : List ByteArray)) (wrap64 (2 * x0)) x0 0) else (none)) else (none))
def cells_Read.l0 : Nat → ByteArray → List ByteArray → Int → Int → Int → Option (List ByteArray × Option Int)
  | 0, _, _, _, _, _ => none
  | k + 1, x1, x6, x7, x27, x28 => if x28 < x27 then (if 0 ≤ (wrap64 (2 * x28)) then (if (wrap64 (2 * x28)) < (x1.size : Int) then (if 0 ≤ (wrap64 ((wrap64 (2 * x28)) + 1)) then (if (wrap64 ((wrap64 (2 * x28)) + 1)) < (x1.size : Int) then (if (Go.bits .or .i64 (wrap64 ((wrap64 (bt x1 (wrap64 (2 * x28)))) * 256)) (wrap64 (bt x1 (wrap64 ((wrap64 (2 * x28)) + 1))))) < x7 then (some (([] : List ByteArray), some 2)) else (if (Go.bits .or .i64 (wrap64 ((wrap64 (bt x1 (wrap64 (2 * x28)))) * 256)) (wrap64 (bt x1 (wrap64 ((wrap64 (2 * x28)) + 1))))) > (x1.size : Int) then (some (([] : List ByteArray), some 2)) else (if 0 ≤ x7 then (if x7 ≤ (Go.bits .or .i64 (wrap64 ((wrap64 (bt x1 (wrap64 (2 * x28)))) * 256)) (wrap64 (bt x1 (wrap64 ((wrap64 (2 * x28)) + 1))))) then (if (Go.bits .or .i64 (wrap64 ((wrap64 (bt x1 (wrap64 (2 * x28)))) * 256)) (wrap64 (bt x1 (wrap64 ((wrap64 (2 * x28)) + 1))))) ≤ (x1.size : Int) then (if x6.length < 8796093022208 then (cells_Read.l0 k x1 (x6 ++ [x1.extract (x7 : Int).toNat ((Go.bits .or .i64 (wrap64 ((wrap64 (bt x1 (wrap64 (2 * x28)))) * 256)) (wrap64 (bt x1 (wrap64 ((wrap64 (2 * x28)) + 1))))) : Int).toNat]) (Go.bits .or .i64 (wrap64 ((wrap64 (bt x1 (wrap64 (2 * x28)))) * 256)) (wrap64 (bt x1 (wrap64 ((wrap64 (2 * x28)) + 1))))) x27 (wrap64 (x28 + 1))) else (none)) else (none)) else (none)) else (none)))) else (none)) else (none)) else (none)) else (none)) else (cells_Read.l1 k x1 x6 x7)
def cells_Read.l1 : Nat → ByteArray → List ByteArray → Int → Option (List ByteArray × Option Int)
  | 0, _, _, _ => none
  | k + 1, x1, x6, x10 => if x10 < (x1.size : Int) then (if 0 ≤ x10 then (if (bt x1 x10) = 0 then (cells_Read.l1 k x1 x6 (wrap64 (x10 + 1))) else (some (([] : List ByteArray), some 2))) else (none)) else (some (x6, none))
end
def cells_Read.f (k : Nat) (a0 : Int) (a1 : ByteArray) : Option (List ByteArray × Option Int) := if a0 < 0 then (cells_Read.j0 k a0 a1 true) else (if a0 > 2036 then (cells_Read.j0 k a0 a1 true) else (cells_Read.j0 k a0 a1 ((a1.size : Int) != 4072)))
theorem cells_Read.mono_l : ∀ k, (∀ y0 y1 y2, LeO (cells_Read.j0 k y0 y1 y2) (cells_Read.j0 (k + 1) y0 y1 y2)) ∧ (∀ y0 y1 y2 y3 y4, LeO (cells_Read.l0 k y0 y1 y2 y3 y4) (cells_Read.l0 (k + 1) y0 y1 y2 y3 y4)) ∧ (∀ y0 y1 y2, LeO (cells_Read.l1 k y0 y1 y2) (cells_Read.l1 (k + 1) y0 y1 y2))
  | 0 => ⟨fun _ _ _ r h => by simp [cells_Read.j0] at h, fun _ _ _ _ _ r h => by simp [cells_Read.l0] at h, fun _ _ _ r h => by simp [cells_Read.l1] at h⟩
  | k + 1 => by
    obtain ⟨ih0, ih1, ih2⟩ := cells_Read.mono_l k
    refine ⟨?_, ?_, ?_⟩
    · intro y0 y1 y2
      unfold cells_Read.j0
      repeat' first
      | (with_reducible exact ih0 _ _ _)
      | (with_reducible exact ih1 _ _ _ _ _)
      | (with_reducible exact ih2 _ _ _)
      | (with_reducible exact LeO.refl _)
      | (with_reducible exact LeO.none _)
      | (with_reducible refine LeO.ite ?_ ?_)
      | (with_reducible refine LeO.bind ?_ (fun _ => ?_))
      | exact ih0 _ _ _
      | exact ih1 _ _ _ _ _
      | exact ih2 _ _ _
      | exact LeO.none _
      | refine LeO.ite ?_ ?_
      | refine LeO.bind ?_ (fun _ => ?_)
    · intro y0 y1 y2 y3 y4
      unfold cells_Read.l0
      repeat' first
      | (with_reducible exact ih0 _ _ _)
      | (with_reducible exact ih1 _ _ _ _ _)
      | (with_reducible exact ih2 _ _ _)
      | (with_reducible exact LeO.refl _)
      | (with_reducible exact LeO.none _)
      | (with_reducible refine LeO.ite ?_ ?_)
      | (with_reducible refine LeO.bind ?_ (fun _ => ?_))
      | exact ih0 _ _ _
      | exact ih1 _ _ _ _ _
      | exact ih2 _ _ _
      | exact LeO.none _
      | refine LeO.ite ?_ ?_
      | refine LeO.bind ?_ (fun _ => ?_)
    · intro y0 y1 y2
      unfold cells_Read.l1
      repeat' first
      | (with_reducible exact ih0 _ _ _)
      | (with_reducible exact ih1 _ _ _ _ _)
      | (with_reducible exact ih2 _ _ _)
      | (with_reducible exact LeO.refl _)
      | (with_reducible exact LeO.none _)
      | (with_reducible refine LeO.ite ?_ ?_)
      | (with_reducible refine LeO.bind ?_ (fun _ => ?_))
      | exact ih0 _ _ _
      | exact ih1 _ _ _ _ _
      | exact ih2 _ _ _
      | exact LeO.none _
      | refine LeO.ite ?_ ?_
      | refine LeO.bind ?_ (fun _ => ?_)
theorem cells_Read.mono : ∀ a0 a1 k, LeO (cells_Read.f k a0 a1) (cells_Read.f (k + 1) a0 a1) := by
  intro a0 a1 k
  obtain ⟨ih0, ih1, ih2⟩ := cells_Read.mono_l k
  unfold cells_Read.f
  repeat' first
      | (with_reducible exact ih0 _ _ _)
      | (with_reducible exact ih1 _ _ _ _ _)
      | (with_reducible exact ih2 _ _ _)
      | (with_reducible exact LeO.refl _)
      | (with_reducible exact LeO.none _)
      | (with_reducible refine LeO.ite ?_ ?_)
      | (with_reducible refine LeO.bind ?_ (fun _ => ?_))
      | exact ih0 _ _ _
      | exact ih1 _ _ _ _ _
      | exact ih2 _ _ _
      | exact LeO.none _
      | refine LeO.ite ?_ ?_
      | refine LeO.bind ?_ (fun _ => ?_)
set_option maxHeartbeats 8000000 in
set_option maxRecDepth 100000 in
theorem cells_Read.calls (k : Nat) (E : Int → Addr) (a0 : Int) (a1 : ByteArray) (r1 : List ByteArray) (r2 : Option Int) (w : World) (hG : Glob E w) (h : cells_Read.f k a0 a1 = some (r1, r2)) :
    Calls Tryd.prog 18 #[.int .i64 a0, .string a1] w fun e w' => ∃ v0_ : Value, e = .returned (.tuple #[v0_, errW E r2]) ∧ Kd.R Kd.string 9 w' w.heap.size (fun _ => True) v0_ r1 ∧ Below w.heap.size w w' := by
  have HB := Aside0.mk (Below.refl w.heap.size w)
  have HG := Aside0.mk hG
  clear hG
  have H : (if a0 < 0 then (cells_Read.j0 k a0 a1 true) else (if a0 > 2036 then (cells_Read.j0 k a0 a1 true) else (cells_Read.j0 k a0 a1 ((a1.size : Int) != 4072)))) = some (r1, r2) := h
  clear h
  have HC3 := Aside0.mk H
  clear H
  go_enter Tryd.func18, Tryd.ntmps18
  go_upto_region 1 with (fail)
  repeat (go_quiet (fail); go_upto_region 1 with (fail))
  go_cut [21] (fun v21 wc => ∃ (kq : Nat) (x21_2 : Bool), v21 = .bool x21_2 ∧ Aside0 (cells_Read.j0 kq a0 a1 x21_2 = some (r1, r2)) ∧ Aside0 (kq ≤ k) ∧ Aside0 (Below w.heap.size w wc))
  case first =>
    have H := HC3.out
    clear HC3
    by_cases c4 : a0 < 0
    · rw [if_pos c4] at H
      have c4b0 : decide (a0 < 0) = true := decide_eq_true c4
      clear c4
      (first | rw [c4b0] | (simp only [i64_w, i32_w]; rw [c4b0]) | skip)
      have H' := Aside0.mk H
      clear H
      go_wp2
      repeat (go_quiet (fail); try go_wp2)
      go_meet
      case rel => exact ⟨_, (true), (by first | rfl | (simp; done) | (simp [*]; done)), H', ⟨by first | omega | exact Nat.le_refl _⟩, ⟨by repeat (first | (with_reducible first | exact HB.out | apply below_alloc | apply pw_below_drewN | apply below_drew1) | exact HB.out)⟩⟩
    · rw [if_neg c4] at H
      have c4b0 : decide (a0 < 0) = false := decide_eq_false c4
      clear c4
      (first | rw [c4b0] | (simp only [i64_w, i32_w]; rw [c4b0]) | skip)
      by_cases c5 : a0 > 2036
      · rw [if_pos c5] at H
        have c5b0 : decide (2036 < a0) = true := decide_eq_true c5
        clear c5
        have H' := Aside0.mk H
        clear H
        go_wp2
        repeat (go_quiet (fail); try go_wp2)
        go_meet
        case rel => exact ⟨_, (true), (by first | rfl | (simp; done) | (simp [*]; done)), H', ⟨by first | omega | exact Nat.le_refl _⟩, ⟨by repeat (first | (with_reducible first | exact HB.out | apply below_alloc | apply pw_below_drewN | apply below_drew1) | exact HB.out)⟩⟩
      · rw [if_neg c5] at H
        have c5b0 : decide (2036 < a0) = false := decide_eq_false c5
        clear c5
        have H' := Aside0.mk H
        clear H
        go_wp2
        repeat (go_quiet (fail); try go_wp2)
        go_meet
        case rel => exact ⟨_, (((a1.size : Int) != 4072)), (by first | rfl | (simp; done) | (simp [*]; done)), H', ⟨by first | omega | exact Nat.le_refl _⟩, ⟨by repeat (first | (with_reducible first | exact HB.out | apply below_alloc | apply pw_below_drewN | apply below_drew1) | exact HB.out)⟩⟩
  case rest =>
    clear HC3
    try clear c1
    try clear p2
    try clear c4
    try clear c4b0
    try clear c5
    try clear c5b0
    obtain ⟨kq, x21_2, rfl, HA, HJ2, HB⟩ := hcut
    cases kq with
    | zero => exact absurd HA.out (by simp [cells_Read.j0])
    | succ kj2 =>
      have H := HA.out
      clear HA
      simp only [cells_Read.j0] at H
      by_cases c6 : x21_2 = true
      · subst c6
        have H1 : (some (([] : List ByteArray), some 2)) = some (r1, r2) := by rw [if_pos rfl] at H; exact H
        clear H
        have H := H1
        clear H1
        simp only [Option.some.injEq, Prod.mk.injEq] at H
        obtain ⟨rfl, rfl⟩ := H
        have hx7 : wc.cell? ⟨1, 0, none⟩ = some (errW E (some 2)) := Glob.c1 (Glob.below HG.out (by repeat (first | (with_reducible first | exact HB.out | apply below_alloc | apply pw_below_drewN | apply below_drew1) | exact HB.out)))
        simp only [errW_some] at hx7
        go_wp2
        repeat (go_quiet (fail); try go_wp2)
        go_ret2
        exact ⟨_, by first | rfl | (simp [errW_none, errW_some] <;> rfl) | (simp [*, errW_none, errW_some] <;> rfl), by first | exact Kd.R_nil _ _ _ _ _ | exact Kd.N_nil _ _ _ _ _ | exact Kd.V_nil _ _ _ _ _ | exact Kd.Q_nil _ _ _ _ _ | exact Kd.S_nil _ _ _ _ _, by repeat (first | (with_reducible first | exact HB.out | apply below_alloc | apply pw_below_drewN | apply below_drew1) | exact HB.out)⟩
      · replace c6 := Bool.eq_false_iff.mpr c6
        subst c6
        have H1 : (if 0 ≤ a0 then (if (a0 : Int).toNat ≤ 17592186044416 then (cells_Read.l0 kj2 a1 (([] : List ByteArray)) (wrap64 (2 * a0)) a0 0) else (none)) else (none)) = some (r1, r2) := by rw [if_neg (show ¬ (false = true) by decide)] at H; exact H
        clear H
        have H := H1
        clear H1
        by_cases c8 : 0 ≤ a0
        · rw [if_pos c8] at H
          have c8b0 := eq_true c8
          have c8b1 : decide (0 ≤ a0) = true := decide_eq_true c8
          clear c8
          by_cases c9 : (a0 : Int).toNat ≤ 17592186044416
          · rw [if_pos c9] at H
            have c9b0 := eq_true c9
            have c9b1 : decide ((a0 : Int).toNat ≤ 17592186044416) = true := decide_eq_true c9
            clear c9
            obtain ⟨y106, hy106⟩ : ∃ y_ : List ByteArray, y_ = (([] : List ByteArray)) := ⟨_, rfl⟩
            replace H : (cells_Read.l0 kj2 a1 y106 (wrap64 (2 * a0)) a0 0) = some (r1, r2) := by first | (rw [hy106]; with_reducible exact H) | (have H2_ := (Option.bind_some _ _).symm.trans H; rw [hy106]; with_reducible exact H2_) | (have H2_ := (Option.bind_some _ _).symm.trans H; with_reducible exact H2_) | with_reducible exact H | (rw [hy106]; exact H) | exact H
            have Ny106 := Aside0.mk hy106
            clear hy106
            have H' := Aside0.mk H
            clear H
            go_wp2_with (first | ((with_reducible refine gate_dst (N := 24) rfl ?_); (try (refine gate_guard (by rfl) ?_; dsimp only)); refine R_make0 Kd.string _ 9 rfl (N := 24) rfl 22 _ _ rfl a0 rfl rfl Tryd.underlying22 (.string ⟨#[]⟩) 16 info9 rfl (by decide) (by omega) (⟨#[]⟩ : ByteArray) (ok := fun _ => True) (okp := fun _ => True) rfl (fun _ hk => hk) trivial (of_decide_eq_true (by first | (with_reducible assumption) | assumption)) (Nat.le_trans (Nat.mul_le_mul_right _ (of_decide_eq_true (by first | (with_reducible assumption) | assumption) : a0.toNat ≤ 17592186044416)) (by omega)) (Below.refl _ _) (Nat.le_refl _) ?_; intro v107 w10 ho11 hb hg_ hnew_; clear hg_ hnew_; (first | rw [← Ny106.out] at ho11 | (simp only [Int.reduceToNat] at ho11; rw [← Ny106.out] at ho11)); have n0_ := Aside0.mk (Kd.R_lower ho11 (below_size (by repeat (first | (with_reducible first | exact HB.out | apply below_alloc | apply pw_below_drewN | apply below_drew1) | exact HB.out)))); have n1_ := Aside0.mk (below_step (by repeat (first | (with_reducible first | exact HB.out | apply below_alloc | apply pw_below_drewN | apply below_drew1) | exact HB.out)) hb); clear HB; have HO108 := n0_; have HB := n1_; clear n0_ n1_; clear hb ho11))
            repeat (go_quiet (first | ((with_reducible refine gate_dst (N := 24) rfl ?_); (try (refine gate_guard (by rfl) ?_; dsimp only)); refine R_make0 Kd.string _ 9 rfl (N := 24) rfl 22 _ _ rfl a0 rfl rfl Tryd.underlying22 (.string ⟨#[]⟩) 16 info9 rfl (by decide) (by omega) (⟨#[]⟩ : ByteArray) (ok := fun _ => True) (okp := fun _ => True) rfl (fun _ hk => hk) trivial (of_decide_eq_true (by first | (with_reducible assumption) | assumption)) (Nat.le_trans (Nat.mul_le_mul_right _ (of_decide_eq_true (by first | (with_reducible assumption) | assumption) : a0.toNat ≤ 17592186044416)) (by omega)) (Below.refl _ _) (Nat.le_refl _) ?_; intro v107 w10 ho11 hb hg_ hnew_; clear hg_ hnew_; (first | rw [← Ny106.out] at ho11 | (simp only [Int.reduceToNat] at ho11; rw [← Ny106.out] at ho11)); have n0_ := Aside0.mk (Kd.R_lower ho11 (below_size (by repeat (first | (with_reducible first | exact HB.out | apply below_alloc | apply pw_below_drewN | apply below_drew1) | exact HB.out)))); have n1_ := Aside0.mk (below_step (by repeat (first | (with_reducible first | exact HB.out | apply below_alloc | apply pw_below_drewN | apply below_drew1) | exact HB.out)) hb); clear HB; have HO108 := n0_; have HB := n1_; clear n0_ n1_; clear hb ho11)); try go_wp2_with (first | ((with_reducible refine gate_dst (N := 24) rfl ?_); (try (refine gate_guard (by rfl) ?_; dsimp only)); refine R_make0 Kd.string _ 9 rfl (N := 24) rfl 22 _ _ rfl a0 rfl rfl Tryd.underlying22 (.string ⟨#[]⟩) 16 info9 rfl (by decide) (by omega) (⟨#[]⟩ : ByteArray) (ok := fun _ => True) (okp := fun _ => True) rfl (fun _ hk => hk) trivial (of_decide_eq_true (by first | (with_reducible assumption) | assumption)) (Nat.le_trans (Nat.mul_le_mul_right _ (of_decide_eq_true (by first | (with_reducible assumption) | assumption) : a0.toNat ≤ 17592186044416)) (by omega)) (Below.refl _ _) (Nat.le_refl _) ?_; intro v107 w10 ho11 hb hg_ hnew_; clear hg_ hnew_; (first | rw [← Ny106.out] at ho11 | (simp only [Int.reduceToNat] at ho11; rw [← Ny106.out] at ho11)); have n0_ := Aside0.mk (Kd.R_lower ho11 (below_size (by repeat (first | (with_reducible first | exact HB.out | apply below_alloc | apply pw_below_drewN | apply below_drew1) | exact HB.out)))); have n1_ := Aside0.mk (below_step (by repeat (first | (with_reducible first | exact HB.out | apply below_alloc | apply pw_below_drewN | apply below_drew1) | exact HB.out)) hb); clear HB; have HO108 := n0_; have HB := n1_; clear n0_ n1_; clear hb ho11)))
            go_loopg [6, 7, 28] kj2 (fun kq v6 v7 v28 w' => ∃ (x6_2 : List ByteArray) (x7_2 : Int) (x28_2 : Int), v7 = .int .i64 x7_2 ∧ v28 = .int .i64 x28_2 ∧ Aside0 (cells_Read.l0 kq a1 x6_2 x7_2 a0 x28_2 = some (r1, r2)) ∧ Aside0 (kq ≤ kj2) ∧ Aside0 (Kd.R Kd.string 9 w' w.heap.size (fun _ => True) v6 x6_2) ∧ Aside0 (Below w.heap.size w w'))
            case atStart => exact ⟨(y106), (wrap64 (2 * a0)), (0), (by first | rfl | (simp; done) | (simp [*]; done)), (by first | rfl | (simp; done) | (simp [*]; done)), H', ⟨Nat.le_refl _⟩, ⟨by (with_reducible repeat (first | apply Kd.R_alloc | apply Kd.R_drewN | apply Kd.R_drew)); exact HO108.out⟩, ⟨by repeat (first | (with_reducible first | exact HB.out | apply below_alloc | apply pw_below_drewN | apply below_drew1) | exact HB.out)⟩⟩
            case round =>
              clear H'
              try clear c1
              try clear p2
              try clear c4
              try clear c4b0
              try clear c5
              try clear c5b0
              try clear c6
              try clear p6
              try clear hx7
              try clear c8
              try clear c8b0
              try clear c8b1
              try clear c9
              try clear c9b0
              try clear c9b1
              try clear p2
              obtain ⟨x6_2, x7_2, x28_2, rfl, rfl, HA, HK2, HO_6, HB⟩ := hrel
              cases gk with
              | zero => exact absurd HA.out (by simp [cells_Read.l0])
              | succ k2 =>
                have H := HA.out
                clear HA
                simp only [cells_Read.l0] at H
                by_cases c12 : x28_2 < a0
                · rw [if_pos c12] at H
                  have c12b0 : decide (x28_2 < a0) = true := decide_eq_true c12
                  clear c12
                  obtain ⟨ji13, hji13⟩ : ∃ j_ : Int, (wrap64 (2 * x28_2)) = j_ := ⟨_, rfl⟩
                  replace H : (if 0 ≤ (ji13) then (if (ji13) < (a1.size : Int) then (if 0 ≤ (wrap64 ((ji13) + 1)) then (if (wrap64 ((ji13) + 1)) < (a1.size : Int) then (if (Go.bits .or .i64 (wrap64 ((wrap64 (bt a1 (ji13))) * 256)) (wrap64 (bt a1 (wrap64 ((ji13) + 1))))) < x7_2 then (some (([] : List ByteArray), some 2)) else (if (Go.bits .or .i64 (wrap64 ((wrap64 (bt a1 (ji13))) * 256)) (wrap64 (bt a1 (wrap64 ((ji13) + 1))))) > (a1.size : Int) then (some (([] : List ByteArray), some 2)) else (if 0 ≤ x7_2 then (if x7_2 ≤ (Go.bits .or .i64 (wrap64 ((wrap64 (bt a1 (ji13))) * 256)) (wrap64 (bt a1 (wrap64 ((ji13) + 1))))) then (if (Go.bits .or .i64 (wrap64 ((wrap64 (bt a1 (ji13))) * 256)) (wrap64 (bt a1 (wrap64 ((ji13) + 1))))) ≤ (a1.size : Int) then (if x6_2.length < 8796093022208 then (cells_Read.l0 k2 a1 (x6_2 ++ [a1.extract (x7_2 : Int).toNat ((Go.bits .or .i64 (wrap64 ((wrap64 (bt a1 (ji13))) * 256)) (wrap64 (bt a1 (wrap64 ((ji13) + 1))))) : Int).toNat]) (Go.bits .or .i64 (wrap64 ((wrap64 (bt a1 (ji13))) * 256)) (wrap64 (bt a1 (wrap64 ((ji13) + 1))))) a0 (wrap64 (x28_2 + 1))) else (none)) else (none)) else (none)) else (none)))) else (none)) else (none)) else (none)) else (none)) = some (r1, r2) := by first | (rw [hji13] at H; exact H) | (simp only [hji13] at H ⊢; exact H)
                  have hji13w : (IntKind.i64.wrap (2 * x28_2)) = ji13 := (i64_w _).trans hji13
                  by_cases c14 : 0 ≤ (ji13)
                  · rw [if_pos c14] at H
                    have c14b0 : decide (0 ≤ (ji13)) = true := decide_eq_true c14
                    clear c14
                    by_cases c15 : (ji13) < (a1.size : Int)
                    · rw [if_pos c15] at H
                      have c15b0 : decide ((ji13) < (a1.size : Int)) = true := decide_eq_true c15
                      clear c15
                      obtain ⟨ji17, hji17⟩ : ∃ j_ : Int, (wrap64 ((ji13) + 1)) = j_ := ⟨_, rfl⟩
                      replace H : (if 0 ≤ (ji17) then (if (ji17) < (a1.size : Int) then (if (Go.bits .or .i64 (wrap64 ((wrap64 (bt a1 (ji13))) * 256)) (wrap64 (bt a1 (ji17)))) < x7_2 then (some (([] : List ByteArray), some 2)) else (if (Go.bits .or .i64 (wrap64 ((wrap64 (bt a1 (ji13))) * 256)) (wrap64 (bt a1 (ji17)))) > (a1.size : Int) then (some (([] : List ByteArray), some 2)) else (if 0 ≤ x7_2 then (if x7_2 ≤ (Go.bits .or .i64 (wrap64 ((wrap64 (bt a1 (ji13))) * 256)) (wrap64 (bt a1 (ji17)))) then (if (Go.bits .or .i64 (wrap64 ((wrap64 (bt a1 (ji13))) * 256)) (wrap64 (bt a1 (ji17)))) ≤ (a1.size : Int) then (if x6_2.length < 8796093022208 then (cells_Read.l0 k2 a1 (x6_2 ++ [a1.extract (x7_2 : Int).toNat ((Go.bits .or .i64 (wrap64 ((wrap64 (bt a1 (ji13))) * 256)) (wrap64 (bt a1 (ji17)))) : Int).toNat]) (Go.bits .or .i64 (wrap64 ((wrap64 (bt a1 (ji13))) * 256)) (wrap64 (bt a1 (ji17)))) a0 (wrap64 (x28_2 + 1))) else (none)) else (none)) else (none)) else (none)))) else (none)) else (none)) = some (r1, r2) := by first | (rw [hji17] at H; exact H) | (simp only [hji17] at H ⊢; exact H)
                      have hji17w : (IntKind.i64.wrap ((ji13) + 1)) = ji17 := (i64_w _).trans hji17
                      by_cases c18 : 0 ≤ (ji17)
                      · rw [if_pos c18] at H
                        have c18b0 : decide (0 ≤ (ji17)) = true := decide_eq_true c18
                        clear c18
                        by_cases c19 : (ji17) < (a1.size : Int)
                        · rw [if_pos c19] at H
                          have c19b0 : decide ((ji17) < (a1.size : Int)) = true := decide_eq_true c19
                          clear c19
                          by_cases c21 : (Go.bits .or .i64 (wrap64 ((wrap64 (bt a1 (ji13))) * 256)) (wrap64 (bt a1 (ji17)))) < x7_2
                          · rw [if_pos c21] at H
                            have c21b0 : decide ((Go.bits .or .i64 (wrap64 ((wrap64 (bt a1 (ji13))) * 256)) (wrap64 (bt a1 (ji17)))) < x7_2) = true := decide_eq_true c21
                            clear c21
                            simp only [Option.some.injEq, Prod.mk.injEq] at H
                            obtain ⟨rfl, rfl⟩ := H
                            have p16 : 0 ≤ ((ji13) : Int) := of_decide_eq_true (by first | (with_reducible assumption) | assumption)
                            have q16 : (ji13) < (a1.size : Int) := of_decide_eq_true (by first | (with_reducible assumption) | assumption)
                            have hx16 := bt_at a1 (ji13)
                            replace p16 := eq_true p16
                            replace q16 := eq_true q16
                            have p20 : 0 ≤ ((ji17) : Int) := of_decide_eq_true (by first | (with_reducible assumption) | assumption)
                            have q20 : (ji17) < (a1.size : Int) := of_decide_eq_true (by first | (with_reducible assumption) | assumption)
                            have hx20 := bt_at a1 (ji17)
                            replace p20 := eq_true p20
                            replace q20 := eq_true q20
                            have hx22 : wr.cell? ⟨1, 0, none⟩ = some (errW E (some 2)) := Glob.c1 (Glob.below HG.out (by repeat (first | (with_reducible first | exact HB.out | apply below_alloc | apply pw_below_drewN | apply below_drew1) | exact HB.out)))
                            simp only [errW_some] at hx22
                            go_wp2
                            repeat (go_quiet (fail); try go_wp2)
                            go_ret2
                            exact ⟨_, by first | rfl | (simp [errW_none, errW_some] <;> rfl) | (simp only [← hji13, ← hji17]; first | rfl | (simp [errW_none, errW_some] <;> rfl)) | (simp [*, errW_none, errW_some] <;> rfl), by first | exact Kd.R_nil _ _ _ _ _ | exact Kd.N_nil _ _ _ _ _ | exact Kd.V_nil _ _ _ _ _ | exact Kd.Q_nil _ _ _ _ _ | exact Kd.S_nil _ _ _ _ _, by repeat (first | (with_reducible first | exact HB.out | apply below_alloc | apply pw_below_drewN | apply below_drew1) | exact HB.out)⟩
                          · rw [if_neg c21] at H
                            have c21b0 : decide ((Go.bits .or .i64 (wrap64 ((wrap64 (bt a1 (ji13))) * 256)) (wrap64 (bt a1 (ji17)))) < x7_2) = false := decide_eq_false c21
                            clear c21
                            by_cases c23 : (Go.bits .or .i64 (wrap64 ((wrap64 (bt a1 (ji13))) * 256)) (wrap64 (bt a1 (ji17)))) > (a1.size : Int)
                            · rw [if_pos c23] at H
                              have c23b0 : decide ((a1.size : Int) < (Go.bits .or .i64 (wrap64 ((wrap64 (bt a1 (ji13))) * 256)) (wrap64 (bt a1 (ji17))))) = true := decide_eq_true c23
                              clear c23
                              simp only [Option.some.injEq, Prod.mk.injEq] at H
                              obtain ⟨rfl, rfl⟩ := H
                              have p16 : 0 ≤ ((ji13) : Int) := of_decide_eq_true (by first | (with_reducible assumption) | assumption)
                              have q16 : (ji13) < (a1.size : Int) := of_decide_eq_true (by first | (with_reducible assumption) | assumption)
                              have hx16 := bt_at a1 (ji13)
                              replace p16 := eq_true p16
                              replace q16 := eq_true q16
                              have p20 : 0 ≤ ((ji17) : Int) := of_decide_eq_true (by first | (with_reducible assumption) | assumption)
                              have q20 : (ji17) < (a1.size : Int) := of_decide_eq_true (by first | (with_reducible assumption) | assumption)
                              have hx20 := bt_at a1 (ji17)
                              replace p20 := eq_true p20
                              replace q20 := eq_true q20
                              have hx24 : wr.cell? ⟨1, 0, none⟩ = some (errW E (some 2)) := Glob.c1 (Glob.below HG.out (by repeat (first | (with_reducible first | exact HB.out | apply below_alloc | apply pw_below_drewN | apply below_drew1) | exact HB.out)))
                              simp only [errW_some] at hx24
                              go_wp2
                              repeat (go_quiet (fail); try go_wp2)
                              go_ret2
                              exact ⟨_, by first | rfl | (simp [errW_none, errW_some] <;> rfl) | (simp only [← hji13, ← hji17]; first | rfl | (simp [errW_none, errW_some] <;> rfl)) | (simp [*, errW_none, errW_some] <;> rfl), by first | exact Kd.R_nil _ _ _ _ _ | exact Kd.N_nil _ _ _ _ _ | exact Kd.V_nil _ _ _ _ _ | exact Kd.Q_nil _ _ _ _ _ | exact Kd.S_nil _ _ _ _ _, by repeat (first | (with_reducible first | exact HB.out | apply below_alloc | apply pw_below_drewN | apply below_drew1) | exact HB.out)⟩
                            · rw [if_neg c23] at H
                              have c23b0 : decide ((a1.size : Int) < (Go.bits .or .i64 (wrap64 ((wrap64 (bt a1 (ji13))) * 256)) (wrap64 (bt a1 (ji17))))) = false := decide_eq_false c23
                              clear c23
                              by_cases c25 : 0 ≤ x7_2
                              · rw [if_pos c25] at H
                                have c25b0 := eq_true c25
                                have c25b1 : decide (0 ≤ x7_2) = true := decide_eq_true c25
                                clear c25
                                by_cases c26 : x7_2 ≤ (Go.bits .or .i64 (wrap64 ((wrap64 (bt a1 (ji13))) * 256)) (wrap64 (bt a1 (ji17))))
                                · rw [if_pos c26] at H
                                  have c26b0 := eq_true c26
                                  have c26b1 : decide (x7_2 ≤ (Go.bits .or .i64 (wrap64 ((wrap64 (bt a1 (ji13))) * 256)) (wrap64 (bt a1 (ji17))))) = true := decide_eq_true c26
                                  clear c26
                                  by_cases c27 : (Go.bits .or .i64 (wrap64 ((wrap64 (bt a1 (ji13))) * 256)) (wrap64 (bt a1 (ji17)))) ≤ (a1.size : Int)
                                  · rw [if_pos c27] at H
                                    have c27b0 := eq_true c27
                                    have c27b1 : decide ((Go.bits .or .i64 (wrap64 ((wrap64 (bt a1 (ji13))) * 256)) (wrap64 (bt a1 (ji17)))) ≤ (a1.size : Int)) = true := decide_eq_true c27
                                    clear c27
                                    by_cases c28 : x6_2.length < 8796093022208
                                    · rw [if_pos c28] at H
                                      have LMc28 := Aside0.mk c28
                                      clear c28
                                      obtain ⟨y109, hy109⟩ : ∃ y_ : List ByteArray, y_ = (x6_2 ++ [a1.extract (x7_2 : Int).toNat ((Go.bits .or .i64 (wrap64 ((wrap64 (bt a1 (ji13))) * 256)) (wrap64 (bt a1 (ji17)))) : Int).toNat]) := ⟨_, rfl⟩
                                      replace H : (cells_Read.l0 k2 a1 y109 (Go.bits .or .i64 (wrap64 ((wrap64 (bt a1 (ji13))) * 256)) (wrap64 (bt a1 (ji17)))) a0 (wrap64 (x28_2 + 1))) = some (r1, r2) := by first | (rw [hy109]; with_reducible exact H) | (have H2_ := (Option.bind_some _ _).symm.trans H; rw [hy109]; with_reducible exact H2_) | (have H2_ := (Option.bind_some _ _).symm.trans H; with_reducible exact H2_) | with_reducible exact H | (rw [hy109]; exact H) | exact H
                                      have Ny109 := Aside0.mk hy109
                                      clear hy109
                                      have H' := Aside0.mk H
                                      clear H
                                      have p16 : 0 ≤ ((ji13) : Int) := of_decide_eq_true (by first | (with_reducible assumption) | assumption)
                                      have q16 : (ji13) < (a1.size : Int) := of_decide_eq_true (by first | (with_reducible assumption) | assumption)
                                      have hx16 := bt_at a1 (ji13)
                                      replace p16 := eq_true p16
                                      replace q16 := eq_true q16
                                      have p20 : 0 ≤ ((ji17) : Int) := of_decide_eq_true (by first | (with_reducible assumption) | assumption)
                                      have q20 : (ji17) < (a1.size : Int) := of_decide_eq_true (by first | (with_reducible assumption) | assumption)
                                      have hx20 := bt_at a1 (ji17)
                                      replace p20 := eq_true p20
                                      replace q20 := eq_true q20
                                      go_wp2_with (first | ((with_reducible refine gate_builtin (b := .append) (xs := #[.tmp 54, .tmp 59]) rfl ?_); (try (refine gate_guard (by rfl) ?_; dsimp only)); at_builtin; refine Kd.R_append Kd.string (w0 := w) w.heap.size rfl (.tmp 54) (.tmp 59) 22 9 (.string ⟨#[]⟩) 16 rfl Tryd.underlying22 info9 rfl (by decide) (by omega) u6 x6_2 (a1.extract (x7_2 : Int).toNat ((Go.bits .or .i64 (wrap64 ((wrap64 (bt a1 (ji13))) * 256)) (wrap64 (bt a1 (ji17)))) : Int).toNat) [.string (a1.extract (x7_2 : Int).toNat ((Go.bits .or .i64 (wrap64 ((wrap64 (bt a1 (ji13))) * 256)) (wrap64 (bt a1 (ji17)))) : Int).toNat)] (fun _ => True) (fun _ => False) rfl rfl ?aP (fun _ hk => hk.elim) ?aF ?aO ?aB ?aS ?aL ?_; (case aP => exact rfl); (case aB => exact (by repeat (first | (with_reducible first | exact HB.out | apply below_alloc | apply pw_below_drewN | apply below_drew1) | exact HB.out))); (case aF => exact (fun _ _ => trivial)); (case aO => exact (by (with_reducible repeat (first | apply Kd.R_alloc | apply Kd.R_drewN | apply Kd.R_drew)); exact HO_6.out)); (case aS => exact (below_size (by repeat (first | (with_reducible first | exact HB.out | apply below_alloc | apply pw_below_drewN | apply below_drew1) | exact HB.out)))); (case aL => have := LMc28.out; omega); intro v110 w29 ho hb hg hat; rw [← Ny109.out] at ho; have n0_ := Aside0.mk (hb); have n1_ := Aside0.mk (ho); clear HB; clear HO_6; have HB := n0_; have HO111 := n1_; clear n0_ n1_; clear ho hb hg hat))
                                      repeat (go_quiet (first | ((with_reducible refine gate_builtin (b := .append) (xs := #[.tmp 54, .tmp 59]) rfl ?_); (try (refine gate_guard (by rfl) ?_; dsimp only)); at_builtin; refine Kd.R_append Kd.string (w0 := w) w.heap.size rfl (.tmp 54) (.tmp 59) 22 9 (.string ⟨#[]⟩) 16 rfl Tryd.underlying22 info9 rfl (by decide) (by omega) u6 x6_2 (a1.extract (x7_2 : Int).toNat ((Go.bits .or .i64 (wrap64 ((wrap64 (bt a1 (ji13))) * 256)) (wrap64 (bt a1 (ji17)))) : Int).toNat) [.string (a1.extract (x7_2 : Int).toNat ((Go.bits .or .i64 (wrap64 ((wrap64 (bt a1 (ji13))) * 256)) (wrap64 (bt a1 (ji17)))) : Int).toNat)] (fun _ => True) (fun _ => False) rfl rfl ?aP (fun _ hk => hk.elim) ?aF ?aO ?aB ?aS ?aL ?_; (case aP => exact rfl); (case aB => exact (by repeat (first | (with_reducible first | exact HB.out | apply below_alloc | apply pw_below_drewN | apply below_drew1) | exact HB.out))); (case aF => exact (fun _ _ => trivial)); (case aO => exact (by (with_reducible repeat (first | apply Kd.R_alloc | apply Kd.R_drewN | apply Kd.R_drew)); exact HO_6.out)); (case aS => exact (below_size (by repeat (first | (with_reducible first | exact HB.out | apply below_alloc | apply pw_below_drewN | apply below_drew1) | exact HB.out)))); (case aL => have := LMc28.out; omega); intro v110 w29 ho hb hg hat; rw [← Ny109.out] at ho; have n0_ := Aside0.mk (hb); have n1_ := Aside0.mk (ho); clear HB; clear HO_6; have HB := n0_; have HO111 := n1_; clear n0_ n1_; clear ho hb hg hat)); try go_wp2_with (first | ((with_reducible refine gate_builtin (b := .append) (xs := #[.tmp 54, .tmp 59]) rfl ?_); (try (refine gate_guard (by rfl) ?_; dsimp only)); at_builtin; refine Kd.R_append Kd.string (w0 := w) w.heap.size rfl (.tmp 54) (.tmp 59) 22 9 (.string ⟨#[]⟩) 16 rfl Tryd.underlying22 info9 rfl (by decide) (by omega) u6 x6_2 (a1.extract (x7_2 : Int).toNat ((Go.bits .or .i64 (wrap64 ((wrap64 (bt a1 (ji13))) * 256)) (wrap64 (bt a1 (ji17)))) : Int).toNat) [.string (a1.extract (x7_2 : Int).toNat ((Go.bits .or .i64 (wrap64 ((wrap64 (bt a1 (ji13))) * 256)) (wrap64 (bt a1 (ji17)))) : Int).toNat)] (fun _ => True) (fun _ => False) rfl rfl ?aP (fun _ hk => hk.elim) ?aF ?aO ?aB ?aS ?aL ?_; (case aP => exact rfl); (case aB => exact (by repeat (first | (with_reducible first | exact HB.out | apply below_alloc | apply pw_below_drewN | apply below_drew1) | exact HB.out))); (case aF => exact (fun _ _ => trivial)); (case aO => exact (by (with_reducible repeat (first | apply Kd.R_alloc | apply Kd.R_drewN | apply Kd.R_drew)); exact HO_6.out)); (case aS => exact (below_size (by repeat (first | (with_reducible first | exact HB.out | apply below_alloc | apply pw_below_drewN | apply below_drew1) | exact HB.out)))); (case aL => have := LMc28.out; omega); intro v110 w29 ho hb hg hat; rw [← Ny109.out] at ho; have n0_ := Aside0.mk (hb); have n1_ := Aside0.mk (ho); clear HB; clear HO_6; have HB := n0_; have HO111 := n1_; clear n0_ n1_; clear ho hb hg hat)))
                                      go_roundg k2
                                      case measure => have := HJ2.out; have := HK2.out; omega
                                      case rel => exact ⟨(y109), (Go.bits .or .i64 (wrap64 ((wrap64 (bt a1 (ji13))) * 256)) (wrap64 (bt a1 (ji17)))), (wrap64 (x28_2 + 1)), (by first | rfl | (simp; done) | (simp only [← hji13, ← hji17] <;> (first | rfl | simp)) | (simp [*]; done)), (by first | rfl | (simp; done) | (simp [*]; done)), H', ⟨by have := HJ2.out; have := HK2.out; omega⟩, ⟨by (with_reducible repeat (first | apply Kd.R_alloc | apply Kd.R_drewN | apply Kd.R_drew)); exact HO111.out⟩, ⟨by repeat (first | (with_reducible first | exact HB.out | apply below_alloc | apply pw_below_drewN | apply below_drew1) | exact HB.out)⟩⟩
                                    · rw [if_neg c28] at H
                                      exact absurd H (by simp)
                                  · rw [if_neg c27] at H
                                    exact absurd H (by simp)
                                · rw [if_neg c26] at H
                                  exact absurd H (by simp)
                              · rw [if_neg c25] at H
                                exact absurd H (by simp)
                        · rw [if_neg c19] at H
                          exact absurd H (by simp)
                      · rw [if_neg c18] at H
                        exact absurd H (by simp)
                    · rw [if_neg c15] at H
                      exact absurd H (by simp)
                  · rw [if_neg c14] at H
                    exact absurd H (by simp)
                · rw [if_neg c12] at H
                  have c12b0 : decide (x28_2 < a0) = false := decide_eq_false c12
                  clear c12
                  have H' := Aside0.mk H
                  clear H
                  go_wp2
                  repeat (go_quiet (fail); try go_wp2)
                  go_loopg [10] k2 (fun kq v10 w' => ∃ (x10_3 : Int), v10 = .int .i64 x10_3 ∧ Aside0 (cells_Read.l1 kq a1 x6_2 x10_3 = some (r1, r2)) ∧ Aside0 (kq ≤ k2) ∧ Aside0 (Kd.R Kd.string 9 w' w.heap.size (fun _ => True) u6 x6_2) ∧ Aside0 (Below w.heap.size w w'))
                  case atStart => exact ⟨(x7_2), (by first | rfl | (simp; done) | (simp [*]; done)), H', ⟨Nat.le_refl _⟩, ⟨by (with_reducible repeat (first | apply Kd.R_alloc | apply Kd.R_drewN | apply Kd.R_drew)); exact HO_6.out⟩, ⟨by repeat (first | (with_reducible first | exact HB.out | apply below_alloc | apply pw_below_drewN | apply below_drew1) | exact HB.out)⟩⟩
                  case round =>
                    clear H'
                    try clear c1
                    try clear p1
                    try clear q1
                    try clear hx1
                    try clear c2
                    try clear p2
                    try clear q2
                    try clear hx2
                    try clear c4
                    try clear c4b0
                    try clear c5
                    try clear c5b0
                    try clear c6
                    try clear p6
                    try clear hx7
                    try clear c8
                    try clear c8b0
                    try clear c8b1
                    try clear c9
                    try clear c9b0
                    try clear c9b1
                    try clear c12
                    try clear c12b0
                    try clear c14
                    try clear c14b0
                    try clear c15
                    try clear c15b0
                    try clear p16
                    try clear q16
                    try clear hx16
                    try clear c18
                    try clear c18b0
                    try clear c19
                    try clear c19b0
                    try clear p20
                    try clear q20
                    try clear hx20
                    try clear c21
                    try clear c21b0
                    try clear hx22
                    try clear c23
                    try clear c23b0
                    try clear hx24
                    try clear c25
                    try clear c25b0
                    try clear c25b1
                    try clear c26
                    try clear c26b0
                    try clear c26b1
                    try clear c27
                    try clear c27b0
                    try clear c27b1
                    try clear c28
                    try clear p16
                    try clear p2
                    try clear p20
                    try clear p6
                    try clear q16
                    try clear q20
                    obtain ⟨x10_3, rfl, HA, HK3, HO_6, HB⟩ := hrel
                    cases gk with
                    | zero => exact absurd HA.out (by simp [cells_Read.l1])
                    | succ k3 =>
                      have H := HA.out
                      clear HA
                      simp only [cells_Read.l1] at H
                      by_cases c30 : x10_3 < (a1.size : Int)
                      · rw [if_pos c30] at H
                        have c30b0 : decide (x10_3 < (a1.size : Int)) = true := decide_eq_true c30
                        clear c30
                        by_cases c31 : 0 ≤ x10_3
                        · rw [if_pos c31] at H
                          have c31b0 : decide (0 ≤ x10_3) = true := decide_eq_true c31
                          clear c31
                          by_cases c33 : (bt a1 x10_3) = 0
                          · rw [if_pos c33] at H
                            have c33b0 : ((bt a1 x10_3) == 0) = true := beq_iff_eq.mpr c33
                            have c33b1 : ((bt a1 x10_3) != 0) = false := bne_eq_false_iff_eq.mpr c33
                            clear c33
                            have H' := Aside0.mk H
                            clear H
                            have p32 : 0 ≤ (x10_3 : Int) := of_decide_eq_true (by first | (with_reducible assumption) | assumption)
                            have q32 : x10_3 < (a1.size : Int) := of_decide_eq_true (by first | (with_reducible assumption) | assumption)
                            have hx32 := bt_at a1 x10_3
                            replace p32 := eq_true p32
                            replace q32 := eq_true q32
                            go_wp2
                            repeat (go_quiet (fail); try go_wp2)
                            go_roundg k3
                            case measure => have := HJ2.out; have := HK2.out; have := HK3.out; omega
                            case rel => exact ⟨(wrap64 (x10_3 + 1)), (by first | rfl | (simp; done) | (simp [*]; done)), H', ⟨by have := HJ2.out; have := HK2.out; have := HK3.out; omega⟩, ⟨by (with_reducible repeat (first | apply Kd.R_alloc | apply Kd.R_drewN | apply Kd.R_drew)); exact HO_6.out⟩, ⟨by repeat (first | (with_reducible first | exact HB.out | apply below_alloc | apply pw_below_drewN | apply below_drew1) | exact HB.out)⟩⟩
                          · rw [if_neg c33] at H
                            have c33b0 : ((bt a1 x10_3) == 0) = false := beq_eq_false_iff_ne.mpr c33
                            have c33b1 : ((bt a1 x10_3) != 0) = true := bne_iff_ne.mpr c33
                            simp only [Option.some.injEq, Prod.mk.injEq] at H
                            obtain ⟨rfl, rfl⟩ := H
                            have p32 : 0 ≤ (x10_3 : Int) := of_decide_eq_true (by first | (with_reducible assumption) | assumption)
                            have q32 : x10_3 < (a1.size : Int) := of_decide_eq_true (by first | (with_reducible assumption) | assumption)
                            have hx32 := bt_at a1 x10_3
                            replace p32 := eq_true p32
                            replace q32 := eq_true q32
                            have hx34 : wr.cell? ⟨1, 0, none⟩ = some (errW E (some 2)) := Glob.c1 (Glob.below HG.out (by repeat (first | (with_reducible first | exact HB.out | apply below_alloc | apply pw_below_drewN | apply below_drew1) | exact HB.out)))
                            simp only [errW_some] at hx34
                            go_wp2
                            repeat (go_quiet (fail); try go_wp2)
                            go_ret2
                            exact ⟨_, by first | rfl | (simp [errW_none, errW_some] <;> rfl) | (simp [*, errW_none, errW_some] <;> rfl), by first | exact Kd.R_nil _ _ _ _ _ | exact Kd.N_nil _ _ _ _ _ | exact Kd.V_nil _ _ _ _ _ | exact Kd.Q_nil _ _ _ _ _ | exact Kd.S_nil _ _ _ _ _, by repeat (first | (with_reducible first | exact HB.out | apply below_alloc | apply pw_below_drewN | apply below_drew1) | exact HB.out)⟩
                        · rw [if_neg c31] at H
                          exact absurd H (by simp)
                      · rw [if_neg c30] at H
                        have c30b0 : decide (x10_3 < (a1.size : Int)) = false := decide_eq_false c30
                        clear c30
                        simp only [Option.some.injEq, Prod.mk.injEq] at H
                        obtain ⟨rfl, rfl⟩ := H
                        go_wp2
                        repeat (go_quiet (fail); try go_wp2)
                        go_ret2
                        exact ⟨_, by first | rfl | (simp [errW_none, errW_some] <;> rfl) | (simp [*, errW_none, errW_some] <;> rfl), by (with_reducible repeat (first | apply Kd.R_alloc | apply Kd.R_drewN | apply Kd.R_drew)); exact HO_6.out, by repeat (first | (with_reducible first | exact HB.out | apply below_alloc | apply pw_below_drewN | apply below_drew1) | exact HB.out)⟩
          · rw [if_neg c9] at H
            exact absurd H (by simp)
        · rw [if_neg c8] at H
          exact absurd H (by simp)

end Go.Proofs.YtmjdkddpfcfepaaDoor.XCellsReads
