-- Printed for this claim by a program (wip/printx) that builds on the kit's print. Not trusted: Lean checks it.
import Derived.Test.YtmjdkddpfcfepaaDoorXCellsReadsx0
namespace Go.Proofs.YtmjdkddpfcfepaaDoor.XCellsReads
open Go.RowKit Go.Proofs.YtmjdkddpfcfepaaDoorW.PrintWords Go.Proofs.YtmjdkddpfcfepaaDoorW.PrintLast Go.Proofs.YtmjdkddpfcfepaaDoorW.PrintMore
attribute [local go_sem] max2_int min2_int max_two min_two max_three min_three max_four min_four   -- for this text's walks alone
set_option linter.unusedVariables false
set_option linter.unusedSimpArgs false

/-! ### copseref6_Read: function 19 -/
mutual
def copseref6_Read.j0 : Nat → Int → ByteArray → Bool → Option (List ByteArray × Int)
  | 0, _, _, _ => none
  | k + 1, x0, x1, x21 => if x21 = true then (some (([] : List ByteArray), 2)) else (copseref6_Read.l0 k x0 x1 ([] : List ByteArray) (wrap64 (2 * x0)) 0)
def copseref6_Read.l0 : Nat → Int → ByteArray → List ByteArray → Int → Int → Option (List ByteArray × Int)
  | 0, _, _, _, _, _ => none
  | k + 1, x0, x1, x6, x7, x8 => if x8 < x0 then (if 0 ≤ (wrap64 (2 * x8)) then (if (wrap64 (2 * x8)) < (x1.size : Int) then (if 0 ≤ (wrap64 ((wrap64 (2 * x8)) + 1)) then (if (wrap64 ((wrap64 (2 * x8)) + 1)) < (x1.size : Int) then (if (wrap64 ((wrap64 ((wrap64 (bt x1 (wrap64 (2 * x8)))) * 256)) + (wrap64 (bt x1 (wrap64 ((wrap64 (2 * x8)) + 1)))))) < x7 then (some (([] : List ByteArray), 2)) else (if (wrap64 ((wrap64 ((wrap64 (bt x1 (wrap64 (2 * x8)))) * 256)) + (wrap64 (bt x1 (wrap64 ((wrap64 (2 * x8)) + 1)))))) > 4072 then (some (([] : List ByteArray), 2)) else (if 0 ≤ x7 then (if x7 ≤ (wrap64 ((wrap64 ((wrap64 (bt x1 (wrap64 (2 * x8)))) * 256)) + (wrap64 (bt x1 (wrap64 ((wrap64 (2 * x8)) + 1)))))) then (if (wrap64 ((wrap64 ((wrap64 (bt x1 (wrap64 (2 * x8)))) * 256)) + (wrap64 (bt x1 (wrap64 ((wrap64 (2 * x8)) + 1)))))) ≤ (x1.size : Int) then (if x6.length < 8796093022208 then (copseref6_Read.l0 k x0 x1 (x6 ++ [x1.extract (x7 : Int).toNat ((wrap64 ((wrap64 ((wrap64 (bt x1 (wrap64 (2 * x8)))) * 256)) + (wrap64 (bt x1 (wrap64 ((wrap64 (2 * x8)) + 1)))))) : Int).toNat]) (wrap64 ((wrap64 ((wrap64 (bt x1 (wrap64 (2 * x8)))) * 256)) + (wrap64 (bt x1 (wrap64 ((wrap64 (2 * x8)) + 1)))))) (wrap64 (x8 + 1))) else (none)) else (none)) else (none)) else (none)))) else (none)) else (none)) else (none)) else (none)) else (copseref6_Read.l1 k x1 x6 x7)
def copseref6_Read.l1 : Nat → ByteArray → List ByteArray → Int → Option (List ByteArray × Int)
  | 0, _, _, _ => none
  | k + 1, x1, x6, x10 => if x10 < 4072 then (if 0 ≤ x10 then (if x10 < (x1.size : Int) then (if (bt x1 x10) = 0 then (copseref6_Read.l1 k x1 x6 (wrap64 (x10 + 1))) else (some (([] : List ByteArray), 2))) else (none)) else (none)) else (some (x6, 0))
end
def copseref6_Read.f (k : Nat) (a0 : Int) (a1 : ByteArray) : Option (List ByteArray × Int) := if a0 < 0 then (copseref6_Read.j0 k a0 a1 true) else (if a0 > 2036 then (copseref6_Read.j0 k a0 a1 true) else (copseref6_Read.j0 k a0 a1 ((a1.size : Int) != 4072)))
theorem copseref6_Read.mono_l : ∀ k, (∀ y0 y1 y2, LeO (copseref6_Read.j0 k y0 y1 y2) (copseref6_Read.j0 (k + 1) y0 y1 y2)) ∧ (∀ y0 y1 y2 y3 y4, LeO (copseref6_Read.l0 k y0 y1 y2 y3 y4) (copseref6_Read.l0 (k + 1) y0 y1 y2 y3 y4)) ∧ (∀ y0 y1 y2, LeO (copseref6_Read.l1 k y0 y1 y2) (copseref6_Read.l1 (k + 1) y0 y1 y2))
  | 0 => ⟨fun _ _ _ r h => by simp [copseref6_Read.j0] at h, fun _ _ _ _ _ r h => by simp [copseref6_Read.l0] at h, fun _ _ _ r h => by simp [copseref6_Read.l1] at h⟩
  | k + 1 => by
    obtain ⟨ih0, ih1, ih2⟩ := copseref6_Read.mono_l k
    refine ⟨?_, ?_, ?_⟩
    · intro y0 y1 y2
      unfold copseref6_Read.j0
      repeat' first
      | (with_reducible exact ih0 _ _ _)
      | (with_reducible exact ih1 _ _ _ _ _)
      | (with_reducible exact ih2 _ _ _)
      | (with_reducible exact LeO.refl _)
      | (with_reducible exact LeO.none _)
      | (with_reducible refine LeO.ite ?_ ?_)
      | (with_reducible refine LeO.bind ?_ (fun _ => ?_))
      | exact ih0 _ _ _
      | exact ih1 _ _ _ _ _
      | exact ih2 _ _ _
      | exact LeO.none _
      | refine LeO.ite ?_ ?_
      | refine LeO.bind ?_ (fun _ => ?_)
    · intro y0 y1 y2 y3 y4
      unfold copseref6_Read.l0
      repeat' first
      | (with_reducible exact ih0 _ _ _)
      | (with_reducible exact ih1 _ _ _ _ _)
      | (with_reducible exact ih2 _ _ _)
      | (with_reducible exact LeO.refl _)
      | (with_reducible exact LeO.none _)
      | (with_reducible refine LeO.ite ?_ ?_)
      | (with_reducible refine LeO.bind ?_ (fun _ => ?_))
      | exact ih0 _ _ _
      | exact ih1 _ _ _ _ _
      | exact ih2 _ _ _
      | exact LeO.none _
      | refine LeO.ite ?_ ?_
      | refine LeO.bind ?_ (fun _ => ?_)
    · intro y0 y1 y2
      unfold copseref6_Read.l1
      repeat' first
      | (with_reducible exact ih0 _ _ _)
      | (with_reducible exact ih1 _ _ _ _ _)
      | (with_reducible exact ih2 _ _ _)
      | (with_reducible exact LeO.refl _)
      | (with_reducible exact LeO.none _)
      | (with_reducible refine LeO.ite ?_ ?_)
      | (with_reducible refine LeO.bind ?_ (fun _ => ?_))
      | exact ih0 _ _ _
      | exact ih1 _ _ _ _ _
      | exact ih2 _ _ _
      | exact LeO.none _
      | refine LeO.ite ?_ ?_
      | refine LeO.bind ?_ (fun _ => ?_)
theorem copseref6_Read.mono : ∀ a0 a1 k, LeO (copseref6_Read.f k a0 a1) (copseref6_Read.f (k + 1) a0 a1) := by
  intro a0 a1 k
  obtain ⟨ih0, ih1, ih2⟩ := copseref6_Read.mono_l k
  unfold copseref6_Read.f
  repeat' first
      | (with_reducible exact ih0 _ _ _)
      | (with_reducible exact ih1 _ _ _ _ _)
      | (with_reducible exact ih2 _ _ _)
      | (with_reducible exact LeO.refl _)
      | (with_reducible exact LeO.none _)
      | (with_reducible refine LeO.ite ?_ ?_)
      | (with_reducible refine LeO.bind ?_ (fun _ => ?_))
      | exact ih0 _ _ _
      | exact ih1 _ _ _ _ _
      | exact ih2 _ _ _
      | exact LeO.none _
      | refine LeO.ite ?_ ?_
      | refine LeO.bind ?_ (fun _ => ?_)
set_option maxHeartbeats 8000000 in
set_option maxRecDepth 100000 in
theorem copseref6_Read.calls (k : Nat) (a0 : Int) (a1 : ByteArray) (r1 : List ByteArray) (r2 : Int) (w : World) (h : copseref6_Read.f k a0 a1 = some (r1, r2)) :
    Calls Tryd.prog 19 #[.int .i64 a0, .string a1] w fun e w' => ∃ v0_ : Value, e = .returned (.tuple #[v0_, .int .i64 r2]) ∧ Kd.R Kd.string 9 w' w.heap.size (fun _ => True) v0_ r1 ∧ Below w.heap.size w w' := by
  have HB := Aside0.mk (Below.refl w.heap.size w)
  have H : (if a0 < 0 then (copseref6_Read.j0 k a0 a1 true) else (if a0 > 2036 then (copseref6_Read.j0 k a0 a1 true) else (copseref6_Read.j0 k a0 a1 ((a1.size : Int) != 4072)))) = some (r1, r2) := h
  clear h
  have HC3 := Aside0.mk H
  clear H
  go_enter Tryd.func19, Tryd.ntmps19
  go_upto_region 1 with (fail)
  repeat (go_quiet (fail); go_upto_region 1 with (fail))
  go_cut [21] (fun v21 wc => ∃ (kq : Nat) (x21_2 : Bool), v21 = .bool x21_2 ∧ Aside0 (copseref6_Read.j0 kq a0 a1 x21_2 = some (r1, r2)) ∧ Aside0 (kq ≤ k) ∧ Aside0 (Below w.heap.size w wc))
  case first =>
    have H := HC3.out
    clear HC3
    by_cases c4 : a0 < 0
    · rw [if_pos c4] at H
      have c4b0 : decide (a0 < 0) = true := decide_eq_true c4
      clear c4
      (first | rw [c4b0] | (simp only [i64_w, i32_w]; rw [c4b0]) | skip)
      have H' := Aside0.mk H
      clear H
      go_wp2
      repeat (go_quiet (fail); try go_wp2)
      go_meet
      case rel => exact ⟨_, (true), (by first | rfl | (simp; done) | (simp [*]; done)), H', ⟨by first | omega | exact Nat.le_refl _⟩, ⟨by repeat (first | (with_reducible first | exact HB.out | apply below_alloc | apply pw_below_drewN | apply below_drew1) | exact HB.out)⟩⟩
    · rw [if_neg c4] at H
      have c4b0 : decide (a0 < 0) = false := decide_eq_false c4
      clear c4
      (first | rw [c4b0] | (simp only [i64_w, i32_w]; rw [c4b0]) | skip)
      by_cases c5 : a0 > 2036
      · rw [if_pos c5] at H
        have c5b0 : decide (2036 < a0) = true := decide_eq_true c5
        clear c5
        have H' := Aside0.mk H
        clear H
        go_wp2
        repeat (go_quiet (fail); try go_wp2)
        go_meet
        case rel => exact ⟨_, (true), (by first | rfl | (simp; done) | (simp [*]; done)), H', ⟨by first | omega | exact Nat.le_refl _⟩, ⟨by repeat (first | (with_reducible first | exact HB.out | apply below_alloc | apply pw_below_drewN | apply below_drew1) | exact HB.out)⟩⟩
      · rw [if_neg c5] at H
        have c5b0 : decide (2036 < a0) = false := decide_eq_false c5
        clear c5
        have H' := Aside0.mk H
        clear H
        go_wp2
        repeat (go_quiet (fail); try go_wp2)
        go_meet
        case rel => exact ⟨_, (((a1.size : Int) != 4072)), (by first | rfl | (simp; done) | (simp [*]; done)), H', ⟨by first | omega | exact Nat.le_refl _⟩, ⟨by repeat (first | (with_reducible first | exact HB.out | apply below_alloc | apply pw_below_drewN | apply below_drew1) | exact HB.out)⟩⟩
  case rest =>
    clear HC3
    try clear c1
    try clear p2
    try clear c4
    try clear c4b0
    try clear c5
    try clear c5b0
    obtain ⟨kq, x21_2, rfl, HA, HJ2, HB⟩ := hcut
    cases kq with
    | zero => exact absurd HA.out (by simp [copseref6_Read.j0])
    | succ kj2 =>
      have H := HA.out
      clear HA
      simp only [copseref6_Read.j0] at H
      by_cases c6 : x21_2 = true
      · subst c6
        have H1 : (some (([] : List ByteArray), 2)) = some (r1, r2) := by rw [if_pos rfl] at H; exact H
        clear H
        have H := H1
        clear H1
        simp only [Option.some.injEq, Prod.mk.injEq] at H
        obtain ⟨rfl, rfl⟩ := H
        go_wp2
        repeat (go_quiet (fail); try go_wp2)
        go_ret2
        exact ⟨_, by first | rfl | (simp [errW_none, errW_some] <;> rfl) | (simp [*, errW_none, errW_some] <;> rfl), by first | exact Kd.R_nil _ _ _ _ _ | exact Kd.N_nil _ _ _ _ _ | exact Kd.V_nil _ _ _ _ _ | exact Kd.Q_nil _ _ _ _ _ | exact Kd.S_nil _ _ _ _ _, by repeat (first | (with_reducible first | exact HB.out | apply below_alloc | apply pw_below_drewN | apply below_drew1) | exact HB.out)⟩
      · replace c6 := Bool.eq_false_iff.mpr c6
        subst c6
        have H1 : (copseref6_Read.l0 kj2 a0 a1 ([] : List ByteArray) (wrap64 (2 * a0)) 0) = some (r1, r2) := by rw [if_neg (show ¬ (false = true) by decide)] at H; exact H
        clear H
        have H := H1
        clear H1
        have H' := Aside0.mk H
        clear H
        go_wp2
        repeat (go_quiet (fail); try go_wp2)
        go_loopg [6, 7, 8] kj2 (fun kq v6 v7 v8 w' => ∃ (x6_2 : List ByteArray) (x7_2 : Int) (x8_2 : Int), v7 = .int .i64 x7_2 ∧ v8 = .int .i64 x8_2 ∧ Aside0 (copseref6_Read.l0 kq a0 a1 x6_2 x7_2 x8_2 = some (r1, r2)) ∧ Aside0 (kq ≤ kj2) ∧ Aside0 (Kd.R Kd.string 9 w' w.heap.size (fun _ => True) v6 x6_2) ∧ Aside0 (Below w.heap.size w w'))
        case atStart => exact ⟨(([] : List ByteArray)), (wrap64 (2 * a0)), (0), (by first | rfl | (simp; done) | (simp [*]; done)), (by first | rfl | (simp; done) | (simp [*]; done)), H', ⟨Nat.le_refl _⟩, ⟨by first | exact Kd.R_nil _ _ _ _ _ | exact Kd.N_nil _ _ _ _ _ | exact Kd.V_nil _ _ _ _ _ | exact Kd.Q_nil _ _ _ _ _ | exact Kd.S_nil _ _ _ _ _⟩, ⟨by repeat (first | (with_reducible first | exact HB.out | apply below_alloc | apply pw_below_drewN | apply below_drew1) | exact HB.out)⟩⟩
        case round =>
          clear H'
          try clear c1
          try clear p2
          try clear c4
          try clear c4b0
          try clear c5
          try clear c5b0
          try clear c6
          try clear p6
          try clear p2
          obtain ⟨x6_2, x7_2, x8_2, rfl, rfl, HA, HK2, HO_6, HB⟩ := hrel
          cases gk with
          | zero => exact absurd HA.out (by simp [copseref6_Read.l0])
          | succ k2 =>
            have H := HA.out
            clear HA
            simp only [copseref6_Read.l0] at H
            by_cases c7 : x8_2 < a0
            · rw [if_pos c7] at H
              have c7b0 : decide (x8_2 < a0) = true := decide_eq_true c7
              clear c7
              obtain ⟨ji8, hji8⟩ : ∃ j_ : Int, (wrap64 (2 * x8_2)) = j_ := ⟨_, rfl⟩
              replace H : (if 0 ≤ (ji8) then (if (ji8) < (a1.size : Int) then (if 0 ≤ (wrap64 ((ji8) + 1)) then (if (wrap64 ((ji8) + 1)) < (a1.size : Int) then (if (wrap64 ((wrap64 ((wrap64 (bt a1 (ji8))) * 256)) + (wrap64 (bt a1 (wrap64 ((ji8) + 1)))))) < x7_2 then (some (([] : List ByteArray), 2)) else (if (wrap64 ((wrap64 ((wrap64 (bt a1 (ji8))) * 256)) + (wrap64 (bt a1 (wrap64 ((ji8) + 1)))))) > 4072 then (some (([] : List ByteArray), 2)) else (if 0 ≤ x7_2 then (if x7_2 ≤ (wrap64 ((wrap64 ((wrap64 (bt a1 (ji8))) * 256)) + (wrap64 (bt a1 (wrap64 ((ji8) + 1)))))) then (if (wrap64 ((wrap64 ((wrap64 (bt a1 (ji8))) * 256)) + (wrap64 (bt a1 (wrap64 ((ji8) + 1)))))) ≤ (a1.size : Int) then (if x6_2.length < 8796093022208 then (copseref6_Read.l0 k2 a0 a1 (x6_2 ++ [a1.extract (x7_2 : Int).toNat ((wrap64 ((wrap64 ((wrap64 (bt a1 (ji8))) * 256)) + (wrap64 (bt a1 (wrap64 ((ji8) + 1)))))) : Int).toNat]) (wrap64 ((wrap64 ((wrap64 (bt a1 (ji8))) * 256)) + (wrap64 (bt a1 (wrap64 ((ji8) + 1)))))) (wrap64 (x8_2 + 1))) else (none)) else (none)) else (none)) else (none)))) else (none)) else (none)) else (none)) else (none)) = some (r1, r2) := by first | (rw [hji8] at H; exact H) | (simp only [hji8] at H ⊢; exact H)
              have hji8w : (IntKind.i64.wrap (2 * x8_2)) = ji8 := (i64_w _).trans hji8
              by_cases c9 : 0 ≤ (ji8)
              · rw [if_pos c9] at H
                have c9b0 : decide (0 ≤ (ji8)) = true := decide_eq_true c9
                clear c9
                by_cases c10 : (ji8) < (a1.size : Int)
                · rw [if_pos c10] at H
                  have c10b0 : decide ((ji8) < (a1.size : Int)) = true := decide_eq_true c10
                  clear c10
                  obtain ⟨ji12, hji12⟩ : ∃ j_ : Int, (wrap64 ((ji8) + 1)) = j_ := ⟨_, rfl⟩
                  replace H : (if 0 ≤ (ji12) then (if (ji12) < (a1.size : Int) then (if (wrap64 ((wrap64 ((wrap64 (bt a1 (ji8))) * 256)) + (wrap64 (bt a1 (ji12))))) < x7_2 then (some (([] : List ByteArray), 2)) else (if (wrap64 ((wrap64 ((wrap64 (bt a1 (ji8))) * 256)) + (wrap64 (bt a1 (ji12))))) > 4072 then (some (([] : List ByteArray), 2)) else (if 0 ≤ x7_2 then (if x7_2 ≤ (wrap64 ((wrap64 ((wrap64 (bt a1 (ji8))) * 256)) + (wrap64 (bt a1 (ji12))))) then (if (wrap64 ((wrap64 ((wrap64 (bt a1 (ji8))) * 256)) + (wrap64 (bt a1 (ji12))))) ≤ (a1.size : Int) then (if x6_2.length < 8796093022208 then (copseref6_Read.l0 k2 a0 a1 (x6_2 ++ [a1.extract (x7_2 : Int).toNat ((wrap64 ((wrap64 ((wrap64 (bt a1 (ji8))) * 256)) + (wrap64 (bt a1 (ji12))))) : Int).toNat]) (wrap64 ((wrap64 ((wrap64 (bt a1 (ji8))) * 256)) + (wrap64 (bt a1 (ji12))))) (wrap64 (x8_2 + 1))) else (none)) else (none)) else (none)) else (none)))) else (none)) else (none)) = some (r1, r2) := by first | (rw [hji12] at H; exact H) | (simp only [hji12] at H ⊢; exact H)
                  have hji12w : (IntKind.i64.wrap ((ji8) + 1)) = ji12 := (i64_w _).trans hji12
                  by_cases c13 : 0 ≤ (ji12)
                  · rw [if_pos c13] at H
                    have c13b0 : decide (0 ≤ (ji12)) = true := decide_eq_true c13
                    clear c13
                    by_cases c14 : (ji12) < (a1.size : Int)
                    · rw [if_pos c14] at H
                      have c14b0 : decide ((ji12) < (a1.size : Int)) = true := decide_eq_true c14
                      clear c14
                      by_cases c16 : (wrap64 ((wrap64 ((wrap64 (bt a1 (ji8))) * 256)) + (wrap64 (bt a1 (ji12))))) < x7_2
                      · rw [if_pos c16] at H
                        have c16b0 : decide ((wrap64 ((wrap64 ((wrap64 (bt a1 (ji8))) * 256)) + (wrap64 (bt a1 (ji12))))) < x7_2) = true := decide_eq_true c16
                        clear c16
                        simp only [Option.some.injEq, Prod.mk.injEq] at H
                        obtain ⟨rfl, rfl⟩ := H
                        have p11 : 0 ≤ ((ji8) : Int) := of_decide_eq_true (by first | (with_reducible assumption) | assumption)
                        have q11 : (ji8) < (a1.size : Int) := of_decide_eq_true (by first | (with_reducible assumption) | assumption)
                        have hx11 := bt_at a1 (ji8)
                        replace p11 := eq_true p11
                        replace q11 := eq_true q11
                        have p15 : 0 ≤ ((ji12) : Int) := of_decide_eq_true (by first | (with_reducible assumption) | assumption)
                        have q15 : (ji12) < (a1.size : Int) := of_decide_eq_true (by first | (with_reducible assumption) | assumption)
                        have hx15 := bt_at a1 (ji12)
                        replace p15 := eq_true p15
                        replace q15 := eq_true q15
                        go_wp2
                        repeat (go_quiet (fail); try go_wp2)
                        go_ret2
                        exact ⟨_, by first | rfl | (simp [errW_none, errW_some] <;> rfl) | (simp only [← hji8, ← hji12]; first | rfl | (simp [errW_none, errW_some] <;> rfl)) | (simp [*, errW_none, errW_some] <;> rfl), by first | exact Kd.R_nil _ _ _ _ _ | exact Kd.N_nil _ _ _ _ _ | exact Kd.V_nil _ _ _ _ _ | exact Kd.Q_nil _ _ _ _ _ | exact Kd.S_nil _ _ _ _ _, by repeat (first | (with_reducible first | exact HB.out | apply below_alloc | apply pw_below_drewN | apply below_drew1) | exact HB.out)⟩
                      · rw [if_neg c16] at H
                        have c16b0 : decide ((wrap64 ((wrap64 ((wrap64 (bt a1 (ji8))) * 256)) + (wrap64 (bt a1 (ji12))))) < x7_2) = false := decide_eq_false c16
                        clear c16
                        by_cases c17 : (wrap64 ((wrap64 ((wrap64 (bt a1 (ji8))) * 256)) + (wrap64 (bt a1 (ji12))))) > 4072
                        · rw [if_pos c17] at H
                          have c17b0 : decide (4072 < (wrap64 ((wrap64 ((wrap64 (bt a1 (ji8))) * 256)) + (wrap64 (bt a1 (ji12)))))) = true := decide_eq_true c17
                          clear c17
                          simp only [Option.some.injEq, Prod.mk.injEq] at H
                          obtain ⟨rfl, rfl⟩ := H
                          have p11 : 0 ≤ ((ji8) : Int) := of_decide_eq_true (by first | (with_reducible assumption) | assumption)
                          have q11 : (ji8) < (a1.size : Int) := of_decide_eq_true (by first | (with_reducible assumption) | assumption)
                          have hx11 := bt_at a1 (ji8)
                          replace p11 := eq_true p11
                          replace q11 := eq_true q11
                          have p15 : 0 ≤ ((ji12) : Int) := of_decide_eq_true (by first | (with_reducible assumption) | assumption)
                          have q15 : (ji12) < (a1.size : Int) := of_decide_eq_true (by first | (with_reducible assumption) | assumption)
                          have hx15 := bt_at a1 (ji12)
                          replace p15 := eq_true p15
                          replace q15 := eq_true q15
                          go_wp2
                          repeat (go_quiet (fail); try go_wp2)
                          go_ret2
                          exact ⟨_, by first | rfl | (simp [errW_none, errW_some] <;> rfl) | (simp only [← hji8, ← hji12]; first | rfl | (simp [errW_none, errW_some] <;> rfl)) | (simp [*, errW_none, errW_some] <;> rfl), by first | exact Kd.R_nil _ _ _ _ _ | exact Kd.N_nil _ _ _ _ _ | exact Kd.V_nil _ _ _ _ _ | exact Kd.Q_nil _ _ _ _ _ | exact Kd.S_nil _ _ _ _ _, by repeat (first | (with_reducible first | exact HB.out | apply below_alloc | apply pw_below_drewN | apply below_drew1) | exact HB.out)⟩
                        · rw [if_neg c17] at H
                          have c17b0 : decide (4072 < (wrap64 ((wrap64 ((wrap64 (bt a1 (ji8))) * 256)) + (wrap64 (bt a1 (ji12)))))) = false := decide_eq_false c17
                          clear c17
                          by_cases c18 : 0 ≤ x7_2
                          · rw [if_pos c18] at H
                            have c18b0 := eq_true c18
                            have c18b1 : decide (0 ≤ x7_2) = true := decide_eq_true c18
                            clear c18
                            by_cases c19 : x7_2 ≤ (wrap64 ((wrap64 ((wrap64 (bt a1 (ji8))) * 256)) + (wrap64 (bt a1 (ji12)))))
                            · rw [if_pos c19] at H
                              have c19b0 := eq_true c19
                              have c19b1 : decide (x7_2 ≤ (wrap64 ((wrap64 ((wrap64 (bt a1 (ji8))) * 256)) + (wrap64 (bt a1 (ji12)))))) = true := decide_eq_true c19
                              by_cases c20 : (wrap64 ((wrap64 ((wrap64 (bt a1 (ji8))) * 256)) + (wrap64 (bt a1 (ji12))))) ≤ (a1.size : Int)
                              · rw [if_pos c20] at H
                                have c20b0 := eq_true c20
                                have c20b1 : decide ((wrap64 ((wrap64 ((wrap64 (bt a1 (ji8))) * 256)) + (wrap64 (bt a1 (ji12))))) ≤ (a1.size : Int)) = true := decide_eq_true c20
                                by_cases c21 : x6_2.length < 8796093022208
                                · rw [if_pos c21] at H
                                  have LMc21 := Aside0.mk c21
                                  clear c21
                                  obtain ⟨y112, hy112⟩ : ∃ y_ : List ByteArray, y_ = (x6_2 ++ [a1.extract (x7_2 : Int).toNat ((wrap64 ((wrap64 ((wrap64 (bt a1 (ji8))) * 256)) + (wrap64 (bt a1 (ji12))))) : Int).toNat]) := ⟨_, rfl⟩
                                  replace H : (copseref6_Read.l0 k2 a0 a1 y112 (wrap64 ((wrap64 ((wrap64 (bt a1 (ji8))) * 256)) + (wrap64 (bt a1 (ji12))))) (wrap64 (x8_2 + 1))) = some (r1, r2) := by first | (rw [hy112]; with_reducible exact H) | (have H2_ := (Option.bind_some _ _).symm.trans H; rw [hy112]; with_reducible exact H2_) | (have H2_ := (Option.bind_some _ _).symm.trans H; with_reducible exact H2_) | with_reducible exact H | (rw [hy112]; exact H) | exact H
                                  have Ny112 := Aside0.mk hy112
                                  clear hy112
                                  have H' := Aside0.mk H
                                  clear H
                                  have p11 : 0 ≤ ((ji8) : Int) := of_decide_eq_true (by first | (with_reducible assumption) | assumption)
                                  have q11 : (ji8) < (a1.size : Int) := of_decide_eq_true (by first | (with_reducible assumption) | assumption)
                                  have hx11 := bt_at a1 (ji8)
                                  replace p11 := eq_true p11
                                  replace q11 := eq_true q11
                                  have p15 : 0 ≤ ((ji12) : Int) := of_decide_eq_true (by first | (with_reducible assumption) | assumption)
                                  have q15 : (ji12) < (a1.size : Int) := of_decide_eq_true (by first | (with_reducible assumption) | assumption)
                                  have hx15 := bt_at a1 (ji12)
                                  replace p15 := eq_true p15
                                  replace q15 := eq_true q15
                                  go_wp2_with (first | ((with_reducible refine gate_builtin (b := .append) (xs := #[.tmp 49, .tmp 54]) rfl ?_); (try (refine gate_guard (by rfl) ?_; dsimp only)); at_builtin; refine Kd.R_append Kd.string (w0 := w) w.heap.size rfl (.tmp 49) (.tmp 54) 22 9 (.string ⟨#[]⟩) 16 rfl Tryd.underlying22 info9 rfl (by decide) (by omega) u6 x6_2 (a1.extract (x7_2 : Int).toNat ((wrap64 ((wrap64 ((wrap64 (bt a1 (ji8))) * 256)) + (wrap64 (bt a1 (ji12))))) : Int).toNat) [.string (a1.extract (x7_2 : Int).toNat ((wrap64 ((wrap64 ((wrap64 (bt a1 (ji8))) * 256)) + (wrap64 (bt a1 (ji12))))) : Int).toNat)] (fun _ => True) (fun _ => False) rfl rfl ?aP (fun _ hk => hk.elim) ?aF ?aO ?aB ?aS ?aL ?_; (case aP => exact rfl); (case aB => exact (by repeat (first | (with_reducible first | exact HB.out | apply below_alloc | apply pw_below_drewN | apply below_drew1) | exact HB.out))); (case aF => exact (fun _ _ => trivial)); (case aO => exact (by (with_reducible repeat (first | apply Kd.R_alloc | apply Kd.R_drewN | apply Kd.R_drew)); exact HO_6.out)); (case aS => exact (below_size (by repeat (first | (with_reducible first | exact HB.out | apply below_alloc | apply pw_below_drewN | apply below_drew1) | exact HB.out)))); (case aL => have := LMc21.out; omega); intro v113 w22 ho hb hg hat; rw [← Ny112.out] at ho; have n0_ := Aside0.mk (hb); have n1_ := Aside0.mk (ho); clear HB; clear HO_6; have HB := n0_; have HO114 := n1_; clear n0_ n1_; clear ho hb hg hat))
                                  repeat (go_quiet (first | ((with_reducible refine gate_builtin (b := .append) (xs := #[.tmp 49, .tmp 54]) rfl ?_); (try (refine gate_guard (by rfl) ?_; dsimp only)); at_builtin; refine Kd.R_append Kd.string (w0 := w) w.heap.size rfl (.tmp 49) (.tmp 54) 22 9 (.string ⟨#[]⟩) 16 rfl Tryd.underlying22 info9 rfl (by decide) (by omega) u6 x6_2 (a1.extract (x7_2 : Int).toNat ((wrap64 ((wrap64 ((wrap64 (bt a1 (ji8))) * 256)) + (wrap64 (bt a1 (ji12))))) : Int).toNat) [.string (a1.extract (x7_2 : Int).toNat ((wrap64 ((wrap64 ((wrap64 (bt a1 (ji8))) * 256)) + (wrap64 (bt a1 (ji12))))) : Int).toNat)] (fun _ => True) (fun _ => False) rfl rfl ?aP (fun _ hk => hk.elim) ?aF ?aO ?aB ?aS ?aL ?_; (case aP => exact rfl); (case aB => exact (by repeat (first | (with_reducible first | exact HB.out | apply below_alloc | apply pw_below_drewN | apply below_drew1) | exact HB.out))); (case aF => exact (fun _ _ => trivial)); (case aO => exact (by (with_reducible repeat (first | apply Kd.R_alloc | apply Kd.R_drewN | apply Kd.R_drew)); exact HO_6.out)); (case aS => exact (below_size (by repeat (first | (with_reducible first | exact HB.out | apply below_alloc | apply pw_below_drewN | apply below_drew1) | exact HB.out)))); (case aL => have := LMc21.out; omega); intro v113 w22 ho hb hg hat; rw [← Ny112.out] at ho; have n0_ := Aside0.mk (hb); have n1_ := Aside0.mk (ho); clear HB; clear HO_6; have HB := n0_; have HO114 := n1_; clear n0_ n1_; clear ho hb hg hat)); try go_wp2_with (first | ((with_reducible refine gate_builtin (b := .append) (xs := #[.tmp 49, .tmp 54]) rfl ?_); (try (refine gate_guard (by rfl) ?_; dsimp only)); at_builtin; refine Kd.R_append Kd.string (w0 := w) w.heap.size rfl (.tmp 49) (.tmp 54) 22 9 (.string ⟨#[]⟩) 16 rfl Tryd.underlying22 info9 rfl (by decide) (by omega) u6 x6_2 (a1.extract (x7_2 : Int).toNat ((wrap64 ((wrap64 ((wrap64 (bt a1 (ji8))) * 256)) + (wrap64 (bt a1 (ji12))))) : Int).toNat) [.string (a1.extract (x7_2 : Int).toNat ((wrap64 ((wrap64 ((wrap64 (bt a1 (ji8))) * 256)) + (wrap64 (bt a1 (ji12))))) : Int).toNat)] (fun _ => True) (fun _ => False) rfl rfl ?aP (fun _ hk => hk.elim) ?aF ?aO ?aB ?aS ?aL ?_; (case aP => exact rfl); (case aB => exact (by repeat (first | (with_reducible first | exact HB.out | apply below_alloc | apply pw_below_drewN | apply below_drew1) | exact HB.out))); (case aF => exact (fun _ _ => trivial)); (case aO => exact (by (with_reducible repeat (first | apply Kd.R_alloc | apply Kd.R_drewN | apply Kd.R_drew)); exact HO_6.out)); (case aS => exact (below_size (by repeat (first | (with_reducible first | exact HB.out | apply below_alloc | apply pw_below_drewN | apply below_drew1) | exact HB.out)))); (case aL => have := LMc21.out; omega); intro v113 w22 ho hb hg hat; rw [← Ny112.out] at ho; have n0_ := Aside0.mk (hb); have n1_ := Aside0.mk (ho); clear HB; clear HO_6; have HB := n0_; have HO114 := n1_; clear n0_ n1_; clear ho hb hg hat)))
                                  go_roundg k2
                                  case measure => have := HJ2.out; have := HK2.out; omega
                                  case rel => exact ⟨(y112), (wrap64 ((wrap64 ((wrap64 (bt a1 (ji8))) * 256)) + (wrap64 (bt a1 (ji12))))), (wrap64 (x8_2 + 1)), (by first | rfl | (simp; done) | (simp only [← hji8, ← hji12] <;> (first | rfl | simp)) | (simp [*]; done)), (by first | rfl | (simp; done) | (simp [*]; done)), H', ⟨by have := HJ2.out; have := HK2.out; omega⟩, ⟨by (with_reducible repeat (first | apply Kd.R_alloc | apply Kd.R_drewN | apply Kd.R_drew)); exact HO114.out⟩, ⟨by repeat (first | (with_reducible first | exact HB.out | apply below_alloc | apply pw_below_drewN | apply below_drew1) | exact HB.out)⟩⟩
                                · rw [if_neg c21] at H
                                  exact absurd H (by simp)
                              · rw [if_neg c20] at H
                                exact absurd H (by simp)
                            · rw [if_neg c19] at H
                              exact absurd H (by simp)
                          · rw [if_neg c18] at H
                            exact absurd H (by simp)
                    · rw [if_neg c14] at H
                      exact absurd H (by simp)
                  · rw [if_neg c13] at H
                    exact absurd H (by simp)
                · rw [if_neg c10] at H
                  exact absurd H (by simp)
              · rw [if_neg c9] at H
                exact absurd H (by simp)
            · rw [if_neg c7] at H
              have c7b0 : decide (x8_2 < a0) = false := decide_eq_false c7
              clear c7
              have H' := Aside0.mk H
              clear H
              go_wp2
              repeat (go_quiet (fail); try go_wp2)
              go_loopg [10] k2 (fun kq v10 w' => ∃ (x10_3 : Int), v10 = .int .i64 x10_3 ∧ Aside0 (copseref6_Read.l1 kq a1 x6_2 x10_3 = some (r1, r2)) ∧ Aside0 (kq ≤ k2) ∧ Aside0 (Kd.R Kd.string 9 w' w.heap.size (fun _ => True) u6 x6_2) ∧ Aside0 (Below w.heap.size w w'))
              case atStart => exact ⟨(x7_2), (by first | rfl | (simp; done) | (simp [*]; done)), H', ⟨Nat.le_refl _⟩, ⟨by (with_reducible repeat (first | apply Kd.R_alloc | apply Kd.R_drewN | apply Kd.R_drew)); exact HO_6.out⟩, ⟨by repeat (first | (with_reducible first | exact HB.out | apply below_alloc | apply pw_below_drewN | apply below_drew1) | exact HB.out)⟩⟩
              case round =>
                clear H'
                try clear c1
                try clear p1
                try clear q1
                try clear hx1
                try clear c2
                try clear p2
                try clear c4
                try clear c4b0
                try clear c5
                try clear c5b0
                try clear c6
                try clear p6
                try clear c7
                try clear c7b0
                try clear c9
                try clear c9b0
                try clear c10
                try clear c10b0
                try clear p11
                try clear q11
                try clear hx11
                try clear c13
                try clear c13b0
                try clear c14
                try clear c14b0
                try clear p15
                try clear q15
                try clear hx15
                try clear c16
                try clear c16b0
                try clear c17
                try clear c17b0
                try clear c18
                try clear c18b0
                try clear c18b1
                try clear c19
                try clear c19b0
                try clear c19b1
                try clear c20
                try clear c20b0
                try clear c20b1
                try clear c21
                try clear p11
                try clear p15
                try clear p2
                try clear p6
                try clear q11
                try clear q15
                obtain ⟨x10_3, rfl, HA, HK3, HO_6, HB⟩ := hrel
                cases gk with
                | zero => exact absurd HA.out (by simp [copseref6_Read.l1])
                | succ k3 =>
                  have H := HA.out
                  clear HA
                  simp only [copseref6_Read.l1] at H
                  by_cases c23 : x10_3 < 4072
                  · rw [if_pos c23] at H
                    have c23b0 : decide (x10_3 < 4072) = true := decide_eq_true c23
                    clear c23
                    by_cases c24 : 0 ≤ x10_3
                    · rw [if_pos c24] at H
                      have c24b0 : decide (0 ≤ x10_3) = true := decide_eq_true c24
                      clear c24
                      by_cases c25 : x10_3 < (a1.size : Int)
                      · rw [if_pos c25] at H
                        have c25b0 : decide (x10_3 < (a1.size : Int)) = true := decide_eq_true c25
                        clear c25
                        by_cases c27 : (bt a1 x10_3) = 0
                        · rw [if_pos c27] at H
                          have c27b0 : ((bt a1 x10_3) == 0) = true := beq_iff_eq.mpr c27
                          have c27b1 : ((bt a1 x10_3) != 0) = false := bne_eq_false_iff_eq.mpr c27
                          clear c27
                          have H' := Aside0.mk H
                          clear H
                          have p26 : 0 ≤ (x10_3 : Int) := of_decide_eq_true (by first | (with_reducible assumption) | assumption)
                          have q26 : x10_3 < (a1.size : Int) := of_decide_eq_true (by first | (with_reducible assumption) | assumption)
                          have hx26 := bt_at a1 x10_3
                          replace p26 := eq_true p26
                          replace q26 := eq_true q26
                          go_wp2
                          repeat (go_quiet (fail); try go_wp2)
                          go_roundg k3
                          case measure => have := HJ2.out; have := HK2.out; have := HK3.out; omega
                          case rel => exact ⟨(wrap64 (x10_3 + 1)), (by first | rfl | (simp; done) | (simp [*]; done)), H', ⟨by have := HJ2.out; have := HK2.out; have := HK3.out; omega⟩, ⟨by (with_reducible repeat (first | apply Kd.R_alloc | apply Kd.R_drewN | apply Kd.R_drew)); exact HO_6.out⟩, ⟨by repeat (first | (with_reducible first | exact HB.out | apply below_alloc | apply pw_below_drewN | apply below_drew1) | exact HB.out)⟩⟩
                        · rw [if_neg c27] at H
                          have c27b0 : ((bt a1 x10_3) == 0) = false := beq_eq_false_iff_ne.mpr c27
                          have c27b1 : ((bt a1 x10_3) != 0) = true := bne_iff_ne.mpr c27
                          simp only [Option.some.injEq, Prod.mk.injEq] at H
                          obtain ⟨rfl, rfl⟩ := H
                          have p26 : 0 ≤ (x10_3 : Int) := of_decide_eq_true (by first | (with_reducible assumption) | assumption)
                          have q26 : x10_3 < (a1.size : Int) := of_decide_eq_true (by first | (with_reducible assumption) | assumption)
                          have hx26 := bt_at a1 x10_3
                          replace p26 := eq_true p26
                          replace q26 := eq_true q26
                          go_wp2
                          repeat (go_quiet (fail); try go_wp2)
                          go_ret2
                          exact ⟨_, by first | rfl | (simp [errW_none, errW_some] <;> rfl) | (simp [*, errW_none, errW_some] <;> rfl), by first | exact Kd.R_nil _ _ _ _ _ | exact Kd.N_nil _ _ _ _ _ | exact Kd.V_nil _ _ _ _ _ | exact Kd.Q_nil _ _ _ _ _ | exact Kd.S_nil _ _ _ _ _, by repeat (first | (with_reducible first | exact HB.out | apply below_alloc | apply pw_below_drewN | apply below_drew1) | exact HB.out)⟩
                      · rw [if_neg c25] at H
                        exact absurd H (by simp)
                    · rw [if_neg c24] at H
                      exact absurd H (by simp)
                  · rw [if_neg c23] at H
                    have c23b0 : decide (x10_3 < 4072) = false := decide_eq_false c23
                    clear c23
                    simp only [Option.some.injEq, Prod.mk.injEq] at H
                    obtain ⟨rfl, rfl⟩ := H
                    go_wp2
                    repeat (go_quiet (fail); try go_wp2)
                    go_ret2
                    exact ⟨_, by first | rfl | (simp [errW_none, errW_some] <;> rfl) | (simp [*, errW_none, errW_some] <;> rfl), by (with_reducible repeat (first | apply Kd.R_alloc | apply Kd.R_drewN | apply Kd.R_drew)); exact HO_6.out, by repeat (first | (with_reducible first | exact HB.out | apply below_alloc | apply pw_below_drewN | apply below_drew1) | exact HB.out)⟩

-- NOT PRINTED: function 20 (copselaw6_lone)

-- NOT PRINTED: function 4 (copselaw6_CellsReads)

end Go.Proofs.YtmjdkddpfcfepaaDoor.XCellsReads
