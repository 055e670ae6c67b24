-- Printed for this claim by a program (wip/printx) that builds on the kit's print. Not trusted: Lean checks it.
import Derived.Test.YtmjdkddpfcfepaaDoorXCellsReadsx0
namespace Go.Proofs.YtmjdkddpfcfepaaDoor.XCellsReads
open Go.RowKit Go.Proofs.YtmjdkddpfcfepaaDoorW.PrintWords Go.Proofs.YtmjdkddpfcfepaaDoorW.PrintLast Go.Proofs.YtmjdkddpfcfepaaDoorW.PrintMore
attribute [local go_sem] max2_int min2_int max_two min_two max_three min_three max_four min_four   -- for this text's walks alone
set_option linter.unusedVariables false
set_option linter.unusedSimpArgs false

/-! ### copseref0_SameStrings: function 14 -/
def copseref0_SameStrings.l0 : Nat → List ByteArray → List ByteArray → Int → Option (Bool)
  | 0, _, _, _ => none
  | k + 1, x0, x1, x5 => if x5 < (x0.length : Int) then (if 0 ≤ x5 then (if x5 < (x1.length : Int) then (if (rdOf ByteArray.empty x0 x5).toList = (rdOf ByteArray.empty x1 x5).toList then (copseref0_SameStrings.l0 k x0 x1 (wrap64 (x5 + 1))) else (some false)) else (none)) else (none)) else (some true)
def copseref0_SameStrings.f (k : Nat) (l0 : List ByteArray) (l1 : List ByteArray) : Option (Bool) := if (l0.length : Int) = (l1.length : Int) then (copseref0_SameStrings.l0 k l0 l1 0) else (some false)
theorem copseref0_SameStrings.mono_l : ∀ k, (∀ y0 y1 y2, LeO (copseref0_SameStrings.l0 k y0 y1 y2) (copseref0_SameStrings.l0 (k + 1) y0 y1 y2))
  | 0 => fun _ _ _ r h => by simp [copseref0_SameStrings.l0] at h
  | k + 1 => by
    have ih0 := copseref0_SameStrings.mono_l k
    · intro y0 y1 y2
      unfold copseref0_SameStrings.l0
      repeat' first
      | (with_reducible exact ih0 _ _ _)
      | (with_reducible exact LeO.refl _)
      | (with_reducible exact LeO.none _)
      | (with_reducible refine LeO.ite ?_ ?_)
      | (with_reducible refine LeO.bind ?_ (fun _ => ?_))
      | exact ih0 _ _ _
      | exact LeO.none _
      | refine LeO.ite ?_ ?_
      | refine LeO.bind ?_ (fun _ => ?_)
theorem copseref0_SameStrings.mono : ∀ a0 a1 k, LeO (copseref0_SameStrings.f k a0 a1) (copseref0_SameStrings.f (k + 1) a0 a1) := by
  intro a0 a1 k
  have ih0 := copseref0_SameStrings.mono_l k
  unfold copseref0_SameStrings.f
  repeat' first
      | (with_reducible exact ih0 _ _ _)
      | (with_reducible exact LeO.refl _)
      | (with_reducible exact LeO.none _)
      | (with_reducible refine LeO.ite ?_ ?_)
      | (with_reducible refine LeO.bind ?_ (fun _ => ?_))
      | exact ih0 _ _ _
      | exact LeO.none _
      | refine LeO.ite ?_ ?_
      | refine LeO.bind ?_ (fun _ => ?_)
set_option maxHeartbeats 8000000 in
set_option maxRecDepth 100000 in
theorem copseref0_SameStrings.calls (k : Nat) (A0 : Option Addr) (c0 : Nat) (l0 : List ByteArray) (A1 : Option Addr) (c1 : Nat) (l1 : List ByteArray) (r : Bool) (w : World) (hr0 : Kd.C Kd.string w A0 l0.length l0) (hc0 : l0.length ≤ c0) (hr1 : Kd.C Kd.string w A1 l1.length l1) (hc1 : l1.length ≤ c1) (h : copseref0_SameStrings.f k l0 l1 = some r) :
    Calls Tryd.prog 14 #[.slice A0 l0.length c0, .slice A1 l1.length c1] w fun e w' => e = .returned (.bool r) ∧ Drawn0 w w' := by
  have HR0 := Aside0.mk hr0
  have HC0 := Aside0.mk hc0
  clear hr0 hc0
  have HR1 := Aside0.mk hr1
  have HC1 := Aside0.mk hc1
  clear hr1 hc1
  have H : (if (l0.length : Int) = (l1.length : Int) then (copseref0_SameStrings.l0 k l0 l1 0) else (some false)) = some r := h
  clear h
  by_cases c3 : (l0.length : Int) = (l1.length : Int)
  · rw [if_pos c3] at H
    have c3b0 : ((l0.length : Int) == (l1.length : Int)) = true := beq_iff_eq.mpr c3
    have c3b1 : ((l0.length : Int) != (l1.length : Int)) = false := bne_eq_false_iff_eq.mpr c3
    have c3b2 : (l0.length == l1.length) = true := by first | simpa using c3 | (simp at c3 ⊢; omega)
    clear c3
    have H' := Aside0.mk H
    clear H
    go_enter Tryd.func14, Tryd.ntmps14
    go_wp2
    repeat (go_quiet (fail); try go_wp2)
    go_loopg [5] k (fun kq v5 w' => ∃ (x5_1 : Int), v5 = .int .i64 x5_1 ∧ Aside0 (copseref0_SameStrings.l0 kq l0 l1 x5_1 = some r) ∧ Aside0 (kq ≤ k) ∧ Drawn0 w w')
    case atStart => exact ⟨(0), (by first | rfl | (simp; done) | (simp [*]; done)), H', ⟨Nat.le_refl _⟩, by repeat (first | exact Drawn0.refl _ | apply Drawn0.step)⟩
    case round =>
      clear H'
      try clear c1
      try clear p2
      try clear c3
      try clear c3b0
      try clear c3b1
      try clear c3b2
      obtain ⟨x5_1, rfl, HA, HK1, ⟨m1, rfl⟩⟩ := hrel
      cases gk with
      | zero => exact absurd HA.out (by simp [copseref0_SameStrings.l0])
      | succ k1 =>
        have H := HA.out
        clear HA
        simp only [copseref0_SameStrings.l0] at H
        by_cases c4 : x5_1 < (l0.length : Int)
        · rw [if_pos c4] at H
          have c4b0 : decide (x5_1 < (l0.length : Int)) = true := decide_eq_true c4
          clear c4
          by_cases c5 : 0 ≤ x5_1
          · rw [if_pos c5] at H
            have c5b0 : decide (0 ≤ x5_1) = true := decide_eq_true c5
            clear c5
            by_cases c6 : x5_1 < (l1.length : Int)
            · rw [if_pos c6] at H
              have c6b0 : decide (x5_1 < (l1.length : Int)) = true := decide_eq_true c6
              clear c6
              by_cases c7 : (rdOf ByteArray.empty l0 x5_1).toList = (rdOf ByteArray.empty l1 x5_1).toList
              · rw [if_pos c7] at H
                have c7b0 : ((rdOf ByteArray.empty l0 x5_1).toList == (rdOf ByteArray.empty l1 x5_1).toList) = true := beq_iff_eq.mpr c7
                have c7b1 : ((rdOf ByteArray.empty l0 x5_1).toList != (rdOf ByteArray.empty l1 x5_1).toList) = false := bne_eq_false_iff_eq.mpr c7
                clear c7
                have H' := Aside0.mk H
                clear H
                have p101 : 0 ≤ (x5_1 : Int) := of_decide_eq_true (by first | (with_reducible assumption) | assumption)
                have q101 : x5_1 < (l0.length : Int) := of_decide_eq_true (by first | (with_reducible assumption) | assumption)
                obtain ⟨ad101, e101, hx101_0⟩ := Kd.at_string HR0.out x5_1 p101 q101
                cases e101
                replace p101 := eq_true p101
                replace q101 := eq_true q101
                have p102 : 0 ≤ (x5_1 : Int) := of_decide_eq_true (by first | (with_reducible assumption) | assumption)
                have q102 : x5_1 < (l1.length : Int) := of_decide_eq_true (by first | (with_reducible assumption) | assumption)
                obtain ⟨ad102, e102, hx102_0⟩ := Kd.at_string HR1.out x5_1 p102 q102
                cases e102
                replace p102 := eq_true p102
                replace q102 := eq_true q102
                go_wp2
                repeat (go_quiet (fail); try go_wp2)
                go_roundg k1
                case measure => have := HK1.out; omega
                case rel => exact ⟨(wrap64 (x5_1 + 1)), (by first | rfl | (simp; done) | (simp [*]; done)), H', ⟨by have := HK1.out; omega⟩, by repeat (first | exact Drawn0.refl _ | apply Drawn0.step)⟩
              · rw [if_neg c7] at H
                have c7b0 : ((rdOf ByteArray.empty l0 x5_1).toList == (rdOf ByteArray.empty l1 x5_1).toList) = false := beq_eq_false_iff_ne.mpr c7
                have c7b1 : ((rdOf ByteArray.empty l0 x5_1).toList != (rdOf ByteArray.empty l1 x5_1).toList) = true := bne_iff_ne.mpr c7
                obtain rfl := Option.some.inj H
                have p101 : 0 ≤ (x5_1 : Int) := of_decide_eq_true (by first | (with_reducible assumption) | assumption)
                have q101 : x5_1 < (l0.length : Int) := of_decide_eq_true (by first | (with_reducible assumption) | assumption)
                obtain ⟨ad101, e101, hx101_0⟩ := Kd.at_string HR0.out x5_1 p101 q101
                cases e101
                replace p101 := eq_true p101
                replace q101 := eq_true q101
                have p102 : 0 ≤ (x5_1 : Int) := of_decide_eq_true (by first | (with_reducible assumption) | assumption)
                have q102 : x5_1 < (l1.length : Int) := of_decide_eq_true (by first | (with_reducible assumption) | assumption)
                obtain ⟨ad102, e102, hx102_0⟩ := Kd.at_string HR1.out x5_1 p102 q102
                cases e102
                replace p102 := eq_true p102
                replace q102 := eq_true q102
                go_wp2
                repeat (go_quiet (fail); try go_wp2)
                go_ret
                exact ⟨by first | rfl | (simp; done) | (simp [*]; done), by repeat (first | exact Drawn0.refl _ | apply Drawn0.step)⟩
            · rw [if_neg c6] at H
              exact absurd H (by simp)
          · rw [if_neg c5] at H
            exact absurd H (by simp)
        · rw [if_neg c4] at H
          have c4b0 : decide (x5_1 < (l0.length : Int)) = false := decide_eq_false c4
          clear c4
          obtain rfl := Option.some.inj H
          go_wp2
          repeat (go_quiet (fail); try go_wp2)
          go_ret
          exact ⟨by first | rfl | (simp; done) | (simp [*]; done), by repeat (first | exact Drawn0.refl _ | apply Drawn0.step)⟩
  · rw [if_neg c3] at H
    have c3b0 : ((l0.length : Int) == (l1.length : Int)) = false := beq_eq_false_iff_ne.mpr c3
    have c3b1 : ((l0.length : Int) != (l1.length : Int)) = true := bne_iff_ne.mpr c3
    have c3b2 : (l0.length == l1.length) = false := by first | simpa using c3 | (simp at c3 ⊢; omega)
    obtain rfl := Option.some.inj H
    go_enter Tryd.func14, Tryd.ntmps14
    go_wp2
    repeat (go_quiet (fail); try go_wp2)
    go_ret
    exact ⟨by first | rfl | (simp; done) | (simp [*]; done), by repeat (first | exact Drawn0.refl _ | apply Drawn0.step)⟩

/-! ### copsekit_more: function 31 -/
def copsekit_more.f (a0 : Option Int) : Option (Int) := if a0.isNone = true then (some (-1)) else (if en (a0.getD 0) = en 8 then (some 8) else (if en (a0.getD 0) = en 9 then (some 9) else (if en (a0.getD 0) = en 10 then (some 10) else (if en (a0.getD 0) = en 11 then (some 11) else (if en (a0.getD 0) = en 12 then (some 12) else (if en (a0.getD 0) = en 13 then (some 13) else (some (-1))))))))
set_option maxHeartbeats 8000000 in
set_option maxRecDepth 100000 in
theorem copsekit_more.calls (E : Int → Addr) (a0 : Option Int) (r : Int) (w : World) (hG : Glob E w) (h : copsekit_more.f a0 = some r) :
    Calls Tryd.prog 31 #[errW E a0] w fun e w' => e = .returned (.int .i64 r) ∧ Drawn0 w w' := by
  have hu26 := Tryd.underlying26
  have hu62 := Tryd.underlying62
  have HG := Aside0.mk hG
  clear hG
  have H : (if a0.isNone = true then (some (-1)) else (if en (a0.getD 0) = en 8 then (some 8) else (if en (a0.getD 0) = en 9 then (some 9) else (if en (a0.getD 0) = en 10 then (some 10) else (if en (a0.getD 0) = en 11 then (some 11) else (if en (a0.getD 0) = en 12 then (some 12) else (if en (a0.getD 0) = en 13 then (some 13) else (some (-1))))))))) = some r := h
  clear h
  rcases a0 with _ | q103
  · have H1 : (some (-1)) = some r := by rw [if_pos (show (none : Option Int).isNone = true by rfl)] at H; exact H
    clear H
    have H := H1
    clear H1
    simp only [errW_none, errW_some]
    obtain rfl := Option.some.inj H
    have hx2 : w.cell? ⟨7, 0, none⟩ = some (errW E (some 8)) := Glob.c7 (by repeat (first | exact HG.out | exact (HG.out.drewN _) | exact HG.out.drew | (with_reducible refine Glob.drewN ?_ _) | (with_reducible refine Glob.drew ?_) | (with_reducible refine Glob.alloc ?_ _)))
    simp only [errW_some] at hx2
    have hx3 := fun (W_ : World) (v_ : Value) => run_eql_iface_nil_left (P := Tryd.prog) W_ 62 v_ Tryd.underlying26
    have hx4 : w.cell? ⟨8, 0, none⟩ = some (errW E (some 9)) := Glob.c8 (by repeat (first | exact HG.out | exact (HG.out.drewN _) | exact HG.out.drew | (with_reducible refine Glob.drewN ?_ _) | (with_reducible refine Glob.drew ?_) | (with_reducible refine Glob.alloc ?_ _)))
    simp only [errW_some] at hx4
    have hx5 : w.cell? ⟨9, 0, none⟩ = some (errW E (some 10)) := Glob.c9 (by repeat (first | exact HG.out | exact (HG.out.drewN _) | exact HG.out.drew | (with_reducible refine Glob.drewN ?_ _) | (with_reducible refine Glob.drew ?_) | (with_reducible refine Glob.alloc ?_ _)))
    simp only [errW_some] at hx5
    have hx6 : w.cell? ⟨10, 0, none⟩ = some (errW E (some 11)) := Glob.c10 (by repeat (first | exact HG.out | exact (HG.out.drewN _) | exact HG.out.drew | (with_reducible refine Glob.drewN ?_ _) | (with_reducible refine Glob.drew ?_) | (with_reducible refine Glob.alloc ?_ _)))
    simp only [errW_some] at hx6
    have hx7 : w.cell? ⟨11, 0, none⟩ = some (errW E (some 12)) := Glob.c11 (by repeat (first | exact HG.out | exact (HG.out.drewN _) | exact HG.out.drew | (with_reducible refine Glob.drewN ?_ _) | (with_reducible refine Glob.drew ?_) | (with_reducible refine Glob.alloc ?_ _)))
    simp only [errW_some] at hx7
    have hx8 : w.cell? ⟨12, 0, none⟩ = some (errW E (some 13)) := Glob.c12 (by repeat (first | exact HG.out | exact (HG.out.drewN _) | exact HG.out.drew | (with_reducible refine Glob.drewN ?_ _) | (with_reducible refine Glob.drew ?_) | (with_reducible refine Glob.alloc ?_ _)))
    simp only [errW_some] at hx8
    go_enter Tryd.func31, Tryd.ntmps31
    go_wp2
    go_ret
    exact ⟨by first | rfl | (simp; done) | (simp [*]; done), by repeat (first | exact Drawn0.refl _ | apply Drawn0.step)⟩
  · have H1 : (if en q103 = en 8 then (some 8) else (if en q103 = en 9 then (some 9) else (if en q103 = en 10 then (some 10) else (if en q103 = en 11 then (some 11) else (if en q103 = en 12 then (some 12) else (if en q103 = en 13 then (some 13) else (some (-1)))))))) = some r := by rw [if_neg (show ¬ (some q103).isNone = true by simp)] at H; exact H
    clear H
    have H := H1
    clear H1
    simp only [errW_none, errW_some]
    by_cases c9 : en q103 = en 8
    · rw [if_pos c9] at H
      have c9b0 : (en q103 == en 8) = true := beq_iff_eq.mpr c9
      have c9b1 : (en q103 != en 8) = false := bne_eq_false_iff_eq.mpr c9
      clear c9
      obtain rfl := Option.some.inj H
      have hx10 : w.cell? ⟨7, 0, none⟩ = some (errW E (some 8)) := Glob.c7 (by repeat (first | exact HG.out | exact (HG.out.drewN _) | exact HG.out.drew | (with_reducible refine Glob.drewN ?_ _) | (with_reducible refine Glob.drew ?_) | (with_reducible refine Glob.alloc ?_ _)))
      simp only [errW_some] at hx10
      have hx11 := fun n_ => Glob.eql_drewN ((by repeat (first | exact HG.out | exact (HG.out.drewN _) | exact HG.out.drew | (with_reducible refine Glob.drewN ?_ _) | (with_reducible refine Glob.drew ?_) | (with_reducible refine Glob.alloc ?_ _))) : Glob E w) n_ q103 8
      simp only [errW_some] at hx11
      have hx12 := Glob.eql ((by repeat (first | exact HG.out | exact (HG.out.drewN _) | exact HG.out.drew | (with_reducible refine Glob.drewN ?_ _) | (with_reducible refine Glob.drew ?_) | (with_reducible refine Glob.alloc ?_ _))) : Glob E w) q103 8
      simp only [errW_some] at hx12
      go_enter Tryd.func31, Tryd.ntmps31
      go_wp2
      go_ret
      exact ⟨by first | rfl | (simp; done) | (simp [*]; done), by repeat (first | exact Drawn0.refl _ | apply Drawn0.step)⟩
    · rw [if_neg c9] at H
      have c9b0 : (en q103 == en 8) = false := beq_eq_false_iff_ne.mpr c9
      have c9b1 : (en q103 != en 8) = true := bne_iff_ne.mpr c9
      by_cases c13 : en q103 = en 9
      · rw [if_pos c13] at H
        have c13b0 : (en q103 == en 9) = true := beq_iff_eq.mpr c13
        have c13b1 : (en q103 != en 9) = false := bne_eq_false_iff_eq.mpr c13
        clear c13
        obtain rfl := Option.some.inj H
        have hx14 : w.cell? ⟨7, 0, none⟩ = some (errW E (some 8)) := Glob.c7 (by repeat (first | exact HG.out | exact (HG.out.drewN _) | exact HG.out.drew | (with_reducible refine Glob.drewN ?_ _) | (with_reducible refine Glob.drew ?_) | (with_reducible refine Glob.alloc ?_ _)))
        simp only [errW_some] at hx14
        have hx15 := fun n_ => Glob.eql_drewN ((by repeat (first | exact HG.out | exact (HG.out.drewN _) | exact HG.out.drew | (with_reducible refine Glob.drewN ?_ _) | (with_reducible refine Glob.drew ?_) | (with_reducible refine Glob.alloc ?_ _))) : Glob E w) n_ q103 8
        simp only [errW_some] at hx15
        have hx16 := Glob.eql ((by repeat (first | exact HG.out | exact (HG.out.drewN _) | exact HG.out.drew | (with_reducible refine Glob.drewN ?_ _) | (with_reducible refine Glob.drew ?_) | (with_reducible refine Glob.alloc ?_ _))) : Glob E w) q103 8
        simp only [errW_some] at hx16
        have hx17 : w.cell? ⟨8, 0, none⟩ = some (errW E (some 9)) := Glob.c8 (by repeat (first | exact HG.out | exact (HG.out.drewN _) | exact HG.out.drew | (with_reducible refine Glob.drewN ?_ _) | (with_reducible refine Glob.drew ?_) | (with_reducible refine Glob.alloc ?_ _)))
        simp only [errW_some] at hx17
        have hx18 := fun n_ => Glob.eql_drewN ((by repeat (first | exact HG.out | exact (HG.out.drewN _) | exact HG.out.drew | (with_reducible refine Glob.drewN ?_ _) | (with_reducible refine Glob.drew ?_) | (with_reducible refine Glob.alloc ?_ _))) : Glob E w) n_ q103 9
        simp only [errW_some] at hx18
        have hx19 := Glob.eql ((by repeat (first | exact HG.out | exact (HG.out.drewN _) | exact HG.out.drew | (with_reducible refine Glob.drewN ?_ _) | (with_reducible refine Glob.drew ?_) | (with_reducible refine Glob.alloc ?_ _))) : Glob E w) q103 9
        simp only [errW_some] at hx19
        go_enter Tryd.func31, Tryd.ntmps31
        go_wp2
        go_ret
        exact ⟨by first | rfl | (simp; done) | (simp [*]; done), by repeat (first | exact Drawn0.refl _ | apply Drawn0.step)⟩
      · rw [if_neg c13] at H
        have c13b0 : (en q103 == en 9) = false := beq_eq_false_iff_ne.mpr c13
        have c13b1 : (en q103 != en 9) = true := bne_iff_ne.mpr c13
        by_cases c20 : en q103 = en 10
        · rw [if_pos c20] at H
          have c20b0 : (en q103 == en 10) = true := beq_iff_eq.mpr c20
          have c20b1 : (en q103 != en 10) = false := bne_eq_false_iff_eq.mpr c20
          clear c20
          obtain rfl := Option.some.inj H
          have hx21 : w.cell? ⟨7, 0, none⟩ = some (errW E (some 8)) := Glob.c7 (by repeat (first | exact HG.out | exact (HG.out.drewN _) | exact HG.out.drew | (with_reducible refine Glob.drewN ?_ _) | (with_reducible refine Glob.drew ?_) | (with_reducible refine Glob.alloc ?_ _)))
          simp only [errW_some] at hx21
          have hx22 := fun n_ => Glob.eql_drewN ((by repeat (first | exact HG.out | exact (HG.out.drewN _) | exact HG.out.drew | (with_reducible refine Glob.drewN ?_ _) | (with_reducible refine Glob.drew ?_) | (with_reducible refine Glob.alloc ?_ _))) : Glob E w) n_ q103 8
          simp only [errW_some] at hx22
          have hx23 := Glob.eql ((by repeat (first | exact HG.out | exact (HG.out.drewN _) | exact HG.out.drew | (with_reducible refine Glob.drewN ?_ _) | (with_reducible refine Glob.drew ?_) | (with_reducible refine Glob.alloc ?_ _))) : Glob E w) q103 8
          simp only [errW_some] at hx23
          have hx24 : w.cell? ⟨8, 0, none⟩ = some (errW E (some 9)) := Glob.c8 (by repeat (first | exact HG.out | exact (HG.out.drewN _) | exact HG.out.drew | (with_reducible refine Glob.drewN ?_ _) | (with_reducible refine Glob.drew ?_) | (with_reducible refine Glob.alloc ?_ _)))
          simp only [errW_some] at hx24
          have hx25 := fun n_ => Glob.eql_drewN ((by repeat (first | exact HG.out | exact (HG.out.drewN _) | exact HG.out.drew | (with_reducible refine Glob.drewN ?_ _) | (with_reducible refine Glob.drew ?_) | (with_reducible refine Glob.alloc ?_ _))) : Glob E w) n_ q103 9
          simp only [errW_some] at hx25
          have hx26 := Glob.eql ((by repeat (first | exact HG.out | exact (HG.out.drewN _) | exact HG.out.drew | (with_reducible refine Glob.drewN ?_ _) | (with_reducible refine Glob.drew ?_) | (with_reducible refine Glob.alloc ?_ _))) : Glob E w) q103 9
          simp only [errW_some] at hx26
          have hx27 : w.cell? ⟨9, 0, none⟩ = some (errW E (some 10)) := Glob.c9 (by repeat (first | exact HG.out | exact (HG.out.drewN _) | exact HG.out.drew | (with_reducible refine Glob.drewN ?_ _) | (with_reducible refine Glob.drew ?_) | (with_reducible refine Glob.alloc ?_ _)))
          simp only [errW_some] at hx27
          have hx28 := fun n_ => Glob.eql_drewN ((by repeat (first | exact HG.out | exact (HG.out.drewN _) | exact HG.out.drew | (with_reducible refine Glob.drewN ?_ _) | (with_reducible refine Glob.drew ?_) | (with_reducible refine Glob.alloc ?_ _))) : Glob E w) n_ q103 10
          simp only [errW_some] at hx28
          have hx29 := Glob.eql ((by repeat (first | exact HG.out | exact (HG.out.drewN _) | exact HG.out.drew | (with_reducible refine Glob.drewN ?_ _) | (with_reducible refine Glob.drew ?_) | (with_reducible refine Glob.alloc ?_ _))) : Glob E w) q103 10
          simp only [errW_some] at hx29
          go_enter Tryd.func31, Tryd.ntmps31
          go_wp2
          go_ret
          exact ⟨by first | rfl | (simp; done) | (simp [*]; done), by repeat (first | exact Drawn0.refl _ | apply Drawn0.step)⟩
        · rw [if_neg c20] at H
          have c20b0 : (en q103 == en 10) = false := beq_eq_false_iff_ne.mpr c20
          have c20b1 : (en q103 != en 10) = true := bne_iff_ne.mpr c20
          by_cases c30 : en q103 = en 11
          · rw [if_pos c30] at H
            have c30b0 : (en q103 == en 11) = true := beq_iff_eq.mpr c30
            have c30b1 : (en q103 != en 11) = false := bne_eq_false_iff_eq.mpr c30
            clear c30
            obtain rfl := Option.some.inj H
            have hx31 : w.cell? ⟨7, 0, none⟩ = some (errW E (some 8)) := Glob.c7 (by repeat (first | exact HG.out | exact (HG.out.drewN _) | exact HG.out.drew | (with_reducible refine Glob.drewN ?_ _) | (with_reducible refine Glob.drew ?_) | (with_reducible refine Glob.alloc ?_ _)))
            simp only [errW_some] at hx31
            have hx32 := fun n_ => Glob.eql_drewN ((by repeat (first | exact HG.out | exact (HG.out.drewN _) | exact HG.out.drew | (with_reducible refine Glob.drewN ?_ _) | (with_reducible refine Glob.drew ?_) | (with_reducible refine Glob.alloc ?_ _))) : Glob E w) n_ q103 8
            simp only [errW_some] at hx32
            have hx33 := Glob.eql ((by repeat (first | exact HG.out | exact (HG.out.drewN _) | exact HG.out.drew | (with_reducible refine Glob.drewN ?_ _) | (with_reducible refine Glob.drew ?_) | (with_reducible refine Glob.alloc ?_ _))) : Glob E w) q103 8
            simp only [errW_some] at hx33
            have hx34 : w.cell? ⟨8, 0, none⟩ = some (errW E (some 9)) := Glob.c8 (by repeat (first | exact HG.out | exact (HG.out.drewN _) | exact HG.out.drew | (with_reducible refine Glob.drewN ?_ _) | (with_reducible refine Glob.drew ?_) | (with_reducible refine Glob.alloc ?_ _)))
            simp only [errW_some] at hx34
            have hx35 := fun n_ => Glob.eql_drewN ((by repeat (first | exact HG.out | exact (HG.out.drewN _) | exact HG.out.drew | (with_reducible refine Glob.drewN ?_ _) | (with_reducible refine Glob.drew ?_) | (with_reducible refine Glob.alloc ?_ _))) : Glob E w) n_ q103 9
            simp only [errW_some] at hx35
            have hx36 := Glob.eql ((by repeat (first | exact HG.out | exact (HG.out.drewN _) | exact HG.out.drew | (with_reducible refine Glob.drewN ?_ _) | (with_reducible refine Glob.drew ?_) | (with_reducible refine Glob.alloc ?_ _))) : Glob E w) q103 9
            simp only [errW_some] at hx36
            have hx37 : w.cell? ⟨9, 0, none⟩ = some (errW E (some 10)) := Glob.c9 (by repeat (first | exact HG.out | exact (HG.out.drewN _) | exact HG.out.drew | (with_reducible refine Glob.drewN ?_ _) | (with_reducible refine Glob.drew ?_) | (with_reducible refine Glob.alloc ?_ _)))
            simp only [errW_some] at hx37
            have hx38 := fun n_ => Glob.eql_drewN ((by repeat (first | exact HG.out | exact (HG.out.drewN _) | exact HG.out.drew | (with_reducible refine Glob.drewN ?_ _) | (with_reducible refine Glob.drew ?_) | (with_reducible refine Glob.alloc ?_ _))) : Glob E w) n_ q103 10
            simp only [errW_some] at hx38
            have hx39 := Glob.eql ((by repeat (first | exact HG.out | exact (HG.out.drewN _) | exact HG.out.drew | (with_reducible refine Glob.drewN ?_ _) | (with_reducible refine Glob.drew ?_) | (with_reducible refine Glob.alloc ?_ _))) : Glob E w) q103 10
            simp only [errW_some] at hx39
            have hx40 : w.cell? ⟨10, 0, none⟩ = some (errW E (some 11)) := Glob.c10 (by repeat (first | exact HG.out | exact (HG.out.drewN _) | exact HG.out.drew | (with_reducible refine Glob.drewN ?_ _) | (with_reducible refine Glob.drew ?_) | (with_reducible refine Glob.alloc ?_ _)))
            simp only [errW_some] at hx40
            have hx41 := fun n_ => Glob.eql_drewN ((by repeat (first | exact HG.out | exact (HG.out.drewN _) | exact HG.out.drew | (with_reducible refine Glob.drewN ?_ _) | (with_reducible refine Glob.drew ?_) | (with_reducible refine Glob.alloc ?_ _))) : Glob E w) n_ q103 11
            simp only [errW_some] at hx41
            have hx42 := Glob.eql ((by repeat (first | exact HG.out | exact (HG.out.drewN _) | exact HG.out.drew | (with_reducible refine Glob.drewN ?_ _) | (with_reducible refine Glob.drew ?_) | (with_reducible refine Glob.alloc ?_ _))) : Glob E w) q103 11
            simp only [errW_some] at hx42
            go_enter Tryd.func31, Tryd.ntmps31
            go_wp2
            go_ret
            exact ⟨by first | rfl | (simp; done) | (simp [*]; done), by repeat (first | exact Drawn0.refl _ | apply Drawn0.step)⟩
          · rw [if_neg c30] at H
            have c30b0 : (en q103 == en 11) = false := beq_eq_false_iff_ne.mpr c30
            have c30b1 : (en q103 != en 11) = true := bne_iff_ne.mpr c30
            by_cases c43 : en q103 = en 12
            · rw [if_pos c43] at H
              have c43b0 : (en q103 == en 12) = true := beq_iff_eq.mpr c43
              have c43b1 : (en q103 != en 12) = false := bne_eq_false_iff_eq.mpr c43
              clear c43
              obtain rfl := Option.some.inj H
              have hx44 : w.cell? ⟨7, 0, none⟩ = some (errW E (some 8)) := Glob.c7 (by repeat (first | exact HG.out | exact (HG.out.drewN _) | exact HG.out.drew | (with_reducible refine Glob.drewN ?_ _) | (with_reducible refine Glob.drew ?_) | (with_reducible refine Glob.alloc ?_ _)))
              simp only [errW_some] at hx44
              have hx45 := fun n_ => Glob.eql_drewN ((by repeat (first | exact HG.out | exact (HG.out.drewN _) | exact HG.out.drew | (with_reducible refine Glob.drewN ?_ _) | (with_reducible refine Glob.drew ?_) | (with_reducible refine Glob.alloc ?_ _))) : Glob E w) n_ q103 8
              simp only [errW_some] at hx45
              have hx46 := Glob.eql ((by repeat (first | exact HG.out | exact (HG.out.drewN _) | exact HG.out.drew | (with_reducible refine Glob.drewN ?_ _) | (with_reducible refine Glob.drew ?_) | (with_reducible refine Glob.alloc ?_ _))) : Glob E w) q103 8
              simp only [errW_some] at hx46
              have hx47 : w.cell? ⟨8, 0, none⟩ = some (errW E (some 9)) := Glob.c8 (by repeat (first | exact HG.out | exact (HG.out.drewN _) | exact HG.out.drew | (with_reducible refine Glob.drewN ?_ _) | (with_reducible refine Glob.drew ?_) | (with_reducible refine Glob.alloc ?_ _)))
              simp only [errW_some] at hx47
              have hx48 := fun n_ => Glob.eql_drewN ((by repeat (first | exact HG.out | exact (HG.out.drewN _) | exact HG.out.drew | (with_reducible refine Glob.drewN ?_ _) | (with_reducible refine Glob.drew ?_) | (with_reducible refine Glob.alloc ?_ _))) : Glob E w) n_ q103 9
              simp only [errW_some] at hx48
              have hx49 := Glob.eql ((by repeat (first | exact HG.out | exact (HG.out.drewN _) | exact HG.out.drew | (with_reducible refine Glob.drewN ?_ _) | (with_reducible refine Glob.drew ?_) | (with_reducible refine Glob.alloc ?_ _))) : Glob E w) q103 9
              simp only [errW_some] at hx49
              have hx50 : w.cell? ⟨9, 0, none⟩ = some (errW E (some 10)) := Glob.c9 (by repeat (first | exact HG.out | exact (HG.out.drewN _) | exact HG.out.drew | (with_reducible refine Glob.drewN ?_ _) | (with_reducible refine Glob.drew ?_) | (with_reducible refine Glob.alloc ?_ _)))
              simp only [errW_some] at hx50
              have hx51 := fun n_ => Glob.eql_drewN ((by repeat (first | exact HG.out | exact (HG.out.drewN _) | exact HG.out.drew | (with_reducible refine Glob.drewN ?_ _) | (with_reducible refine Glob.drew ?_) | (with_reducible refine Glob.alloc ?_ _))) : Glob E w) n_ q103 10
              simp only [errW_some] at hx51
              have hx52 := Glob.eql ((by repeat (first | exact HG.out | exact (HG.out.drewN _) | exact HG.out.drew | (with_reducible refine Glob.drewN ?_ _) | (with_reducible refine Glob.drew ?_) | (with_reducible refine Glob.alloc ?_ _))) : Glob E w) q103 10
              simp only [errW_some] at hx52
              have hx53 : w.cell? ⟨10, 0, none⟩ = some (errW E (some 11)) := Glob.c10 (by repeat (first | exact HG.out | exact (HG.out.drewN _) | exact HG.out.drew | (with_reducible refine Glob.drewN ?_ _) | (with_reducible refine Glob.drew ?_) | (with_reducible refine Glob.alloc ?_ _)))
              simp only [errW_some] at hx53
              have hx54 := fun n_ => Glob.eql_drewN ((by repeat (first | exact HG.out | exact (HG.out.drewN _) | exact HG.out.drew | (with_reducible refine Glob.drewN ?_ _) | (with_reducible refine Glob.drew ?_) | (with_reducible refine Glob.alloc ?_ _))) : Glob E w) n_ q103 11
              simp only [errW_some] at hx54
              have hx55 := Glob.eql ((by repeat (first | exact HG.out | exact (HG.out.drewN _) | exact HG.out.drew | (with_reducible refine Glob.drewN ?_ _) | (with_reducible refine Glob.drew ?_) | (with_reducible refine Glob.alloc ?_ _))) : Glob E w) q103 11
              simp only [errW_some] at hx55
              have hx56 : w.cell? ⟨11, 0, none⟩ = some (errW E (some 12)) := Glob.c11 (by repeat (first | exact HG.out | exact (HG.out.drewN _) | exact HG.out.drew | (with_reducible refine Glob.drewN ?_ _) | (with_reducible refine Glob.drew ?_) | (with_reducible refine Glob.alloc ?_ _)))
              simp only [errW_some] at hx56
              have hx57 := fun n_ => Glob.eql_drewN ((by repeat (first | exact HG.out | exact (HG.out.drewN _) | exact HG.out.drew | (with_reducible refine Glob.drewN ?_ _) | (with_reducible refine Glob.drew ?_) | (with_reducible refine Glob.alloc ?_ _))) : Glob E w) n_ q103 12
              simp only [errW_some] at hx57
              have hx58 := Glob.eql ((by repeat (first | exact HG.out | exact (HG.out.drewN _) | exact HG.out.drew | (with_reducible refine Glob.drewN ?_ _) | (with_reducible refine Glob.drew ?_) | (with_reducible refine Glob.alloc ?_ _))) : Glob E w) q103 12
              simp only [errW_some] at hx58
              go_enter Tryd.func31, Tryd.ntmps31
              go_wp2
              go_ret
              exact ⟨by first | rfl | (simp; done) | (simp [*]; done), by repeat (first | exact Drawn0.refl _ | apply Drawn0.step)⟩
            · rw [if_neg c43] at H
              have c43b0 : (en q103 == en 12) = false := beq_eq_false_iff_ne.mpr c43
              have c43b1 : (en q103 != en 12) = true := bne_iff_ne.mpr c43
              by_cases c59 : en q103 = en 13
              · rw [if_pos c59] at H
                have c59b0 : (en q103 == en 13) = true := beq_iff_eq.mpr c59
                have c59b1 : (en q103 != en 13) = false := bne_eq_false_iff_eq.mpr c59
                clear c59
                obtain rfl := Option.some.inj H
                have hx60 : w.cell? ⟨7, 0, none⟩ = some (errW E (some 8)) := Glob.c7 (by repeat (first | exact HG.out | exact (HG.out.drewN _) | exact HG.out.drew | (with_reducible refine Glob.drewN ?_ _) | (with_reducible refine Glob.drew ?_) | (with_reducible refine Glob.alloc ?_ _)))
                simp only [errW_some] at hx60
                have hx61 := fun n_ => Glob.eql_drewN ((by repeat (first | exact HG.out | exact (HG.out.drewN _) | exact HG.out.drew | (with_reducible refine Glob.drewN ?_ _) | (with_reducible refine Glob.drew ?_) | (with_reducible refine Glob.alloc ?_ _))) : Glob E w) n_ q103 8
                simp only [errW_some] at hx61
                have hx62 := Glob.eql ((by repeat (first | exact HG.out | exact (HG.out.drewN _) | exact HG.out.drew | (with_reducible refine Glob.drewN ?_ _) | (with_reducible refine Glob.drew ?_) | (with_reducible refine Glob.alloc ?_ _))) : Glob E w) q103 8
                simp only [errW_some] at hx62
                have hx63 : w.cell? ⟨8, 0, none⟩ = some (errW E (some 9)) := Glob.c8 (by repeat (first | exact HG.out | exact (HG.out.drewN _) | exact HG.out.drew | (with_reducible refine Glob.drewN ?_ _) | (with_reducible refine Glob.drew ?_) | (with_reducible refine Glob.alloc ?_ _)))
                simp only [errW_some] at hx63
                have hx64 := fun n_ => Glob.eql_drewN ((by repeat (first | exact HG.out | exact (HG.out.drewN _) | exact HG.out.drew | (with_reducible refine Glob.drewN ?_ _) | (with_reducible refine Glob.drew ?_) | (with_reducible refine Glob.alloc ?_ _))) : Glob E w) n_ q103 9
                simp only [errW_some] at hx64
                have hx65 := Glob.eql ((by repeat (first | exact HG.out | exact (HG.out.drewN _) | exact HG.out.drew | (with_reducible refine Glob.drewN ?_ _) | (with_reducible refine Glob.drew ?_) | (with_reducible refine Glob.alloc ?_ _))) : Glob E w) q103 9
                simp only [errW_some] at hx65
                have hx66 : w.cell? ⟨9, 0, none⟩ = some (errW E (some 10)) := Glob.c9 (by repeat (first | exact HG.out | exact (HG.out.drewN _) | exact HG.out.drew | (with_reducible refine Glob.drewN ?_ _) | (with_reducible refine Glob.drew ?_) | (with_reducible refine Glob.alloc ?_ _)))
                simp only [errW_some] at hx66
                have hx67 := fun n_ => Glob.eql_drewN ((by repeat (first | exact HG.out | exact (HG.out.drewN _) | exact HG.out.drew | (with_reducible refine Glob.drewN ?_ _) | (with_reducible refine Glob.drew ?_) | (with_reducible refine Glob.alloc ?_ _))) : Glob E w) n_ q103 10
                simp only [errW_some] at hx67
                have hx68 := Glob.eql ((by repeat (first | exact HG.out | exact (HG.out.drewN _) | exact HG.out.drew | (with_reducible refine Glob.drewN ?_ _) | (with_reducible refine Glob.drew ?_) | (with_reducible refine Glob.alloc ?_ _))) : Glob E w) q103 10
                simp only [errW_some] at hx68
                have hx69 : w.cell? ⟨10, 0, none⟩ = some (errW E (some 11)) := Glob.c10 (by repeat (first | exact HG.out | exact (HG.out.drewN _) | exact HG.out.drew | (with_reducible refine Glob.drewN ?_ _) | (with_reducible refine Glob.drew ?_) | (with_reducible refine Glob.alloc ?_ _)))
                simp only [errW_some] at hx69
                have hx70 := fun n_ => Glob.eql_drewN ((by repeat (first | exact HG.out | exact (HG.out.drewN _) | exact HG.out.drew | (with_reducible refine Glob.drewN ?_ _) | (with_reducible refine Glob.drew ?_) | (with_reducible refine Glob.alloc ?_ _))) : Glob E w) n_ q103 11
                simp only [errW_some] at hx70
                have hx71 := Glob.eql ((by repeat (first | exact HG.out | exact (HG.out.drewN _) | exact HG.out.drew | (with_reducible refine Glob.drewN ?_ _) | (with_reducible refine Glob.drew ?_) | (with_reducible refine Glob.alloc ?_ _))) : Glob E w) q103 11
                simp only [errW_some] at hx71
                have hx72 : w.cell? ⟨11, 0, none⟩ = some (errW E (some 12)) := Glob.c11 (by repeat (first | exact HG.out | exact (HG.out.drewN _) | exact HG.out.drew | (with_reducible refine Glob.drewN ?_ _) | (with_reducible refine Glob.drew ?_) | (with_reducible refine Glob.alloc ?_ _)))
                simp only [errW_some] at hx72
                have hx73 := fun n_ => Glob.eql_drewN ((by repeat (first | exact HG.out | exact (HG.out.drewN _) | exact HG.out.drew | (with_reducible refine Glob.drewN ?_ _) | (with_reducible refine Glob.drew ?_) | (with_reducible refine Glob.alloc ?_ _))) : Glob E w) n_ q103 12
                simp only [errW_some] at hx73
                have hx74 := Glob.eql ((by repeat (first | exact HG.out | exact (HG.out.drewN _) | exact HG.out.drew | (with_reducible refine Glob.drewN ?_ _) | (with_reducible refine Glob.drew ?_) | (with_reducible refine Glob.alloc ?_ _))) : Glob E w) q103 12
                simp only [errW_some] at hx74
                have hx75 : w.cell? ⟨12, 0, none⟩ = some (errW E (some 13)) := Glob.c12 (by repeat (first | exact HG.out | exact (HG.out.drewN _) | exact HG.out.drew | (with_reducible refine Glob.drewN ?_ _) | (with_reducible refine Glob.drew ?_) | (with_reducible refine Glob.alloc ?_ _)))
                simp only [errW_some] at hx75
                have hx76 := fun n_ => Glob.eql_drewN ((by repeat (first | exact HG.out | exact (HG.out.drewN _) | exact HG.out.drew | (with_reducible refine Glob.drewN ?_ _) | (with_reducible refine Glob.drew ?_) | (with_reducible refine Glob.alloc ?_ _))) : Glob E w) n_ q103 13
                simp only [errW_some] at hx76
                have hx77 := Glob.eql ((by repeat (first | exact HG.out | exact (HG.out.drewN _) | exact HG.out.drew | (with_reducible refine Glob.drewN ?_ _) | (with_reducible refine Glob.drew ?_) | (with_reducible refine Glob.alloc ?_ _))) : Glob E w) q103 13
                simp only [errW_some] at hx77
                go_enter Tryd.func31, Tryd.ntmps31
                go_wp2
                go_ret
                exact ⟨by first | rfl | (simp; done) | (simp [*]; done), by repeat (first | exact Drawn0.refl _ | apply Drawn0.step)⟩
              · rw [if_neg c59] at H
                have c59b0 : (en q103 == en 13) = false := beq_eq_false_iff_ne.mpr c59
                have c59b1 : (en q103 != en 13) = true := bne_iff_ne.mpr c59
                obtain rfl := Option.some.inj H
                have hx78 : w.cell? ⟨7, 0, none⟩ = some (errW E (some 8)) := Glob.c7 (by repeat (first | exact HG.out | exact (HG.out.drewN _) | exact HG.out.drew | (with_reducible refine Glob.drewN ?_ _) | (with_reducible refine Glob.drew ?_) | (with_reducible refine Glob.alloc ?_ _)))
                simp only [errW_some] at hx78
                have hx79 := fun n_ => Glob.eql_drewN ((by repeat (first | exact HG.out | exact (HG.out.drewN _) | exact HG.out.drew | (with_reducible refine Glob.drewN ?_ _) | (with_reducible refine Glob.drew ?_) | (with_reducible refine Glob.alloc ?_ _))) : Glob E w) n_ q103 8
                simp only [errW_some] at hx79
                have hx80 := Glob.eql ((by repeat (first | exact HG.out | exact (HG.out.drewN _) | exact HG.out.drew | (with_reducible refine Glob.drewN ?_ _) | (with_reducible refine Glob.drew ?_) | (with_reducible refine Glob.alloc ?_ _))) : Glob E w) q103 8
                simp only [errW_some] at hx80
                have hx81 : w.cell? ⟨8, 0, none⟩ = some (errW E (some 9)) := Glob.c8 (by repeat (first | exact HG.out | exact (HG.out.drewN _) | exact HG.out.drew | (with_reducible refine Glob.drewN ?_ _) | (with_reducible refine Glob.drew ?_) | (with_reducible refine Glob.alloc ?_ _)))
                simp only [errW_some] at hx81
                have hx82 := fun n_ => Glob.eql_drewN ((by repeat (first | exact HG.out | exact (HG.out.drewN _) | exact HG.out.drew | (with_reducible refine Glob.drewN ?_ _) | (with_reducible refine Glob.drew ?_) | (with_reducible refine Glob.alloc ?_ _))) : Glob E w) n_ q103 9
                simp only [errW_some] at hx82
                have hx83 := Glob.eql ((by repeat (first | exact HG.out | exact (HG.out.drewN _) | exact HG.out.drew | (with_reducible refine Glob.drewN ?_ _) | (with_reducible refine Glob.drew ?_) | (with_reducible refine Glob.alloc ?_ _))) : Glob E w) q103 9
                simp only [errW_some] at hx83
                have hx84 : w.cell? ⟨9, 0, none⟩ = some (errW E (some 10)) := Glob.c9 (by repeat (first | exact HG.out | exact (HG.out.drewN _) | exact HG.out.drew | (with_reducible refine Glob.drewN ?_ _) | (with_reducible refine Glob.drew ?_) | (with_reducible refine Glob.alloc ?_ _)))
                simp only [errW_some] at hx84
                have hx85 := fun n_ => Glob.eql_drewN ((by repeat (first | exact HG.out | exact (HG.out.drewN _) | exact HG.out.drew | (with_reducible refine Glob.drewN ?_ _) | (with_reducible refine Glob.drew ?_) | (with_reducible refine Glob.alloc ?_ _))) : Glob E w) n_ q103 10
                simp only [errW_some] at hx85
                have hx86 := Glob.eql ((by repeat (first | exact HG.out | exact (HG.out.drewN _) | exact HG.out.drew | (with_reducible refine Glob.drewN ?_ _) | (with_reducible refine Glob.drew ?_) | (with_reducible refine Glob.alloc ?_ _))) : Glob E w) q103 10
                simp only [errW_some] at hx86
                have hx87 : w.cell? ⟨10, 0, none⟩ = some (errW E (some 11)) := Glob.c10 (by repeat (first | exact HG.out | exact (HG.out.drewN _) | exact HG.out.drew | (with_reducible refine Glob.drewN ?_ _) | (with_reducible refine Glob.drew ?_) | (with_reducible refine Glob.alloc ?_ _)))
                simp only [errW_some] at hx87
                have hx88 := fun n_ => Glob.eql_drewN ((by repeat (first | exact HG.out | exact (HG.out.drewN _) | exact HG.out.drew | (with_reducible refine Glob.drewN ?_ _) | (with_reducible refine Glob.drew ?_) | (with_reducible refine Glob.alloc ?_ _))) : Glob E w) n_ q103 11
                simp only [errW_some] at hx88
                have hx89 := Glob.eql ((by repeat (first | exact HG.out | exact (HG.out.drewN _) | exact HG.out.drew | (with_reducible refine Glob.drewN ?_ _) | (with_reducible refine Glob.drew ?_) | (with_reducible refine Glob.alloc ?_ _))) : Glob E w) q103 11
                simp only [errW_some] at hx89
                have hx90 : w.cell? ⟨11, 0, none⟩ = some (errW E (some 12)) := Glob.c11 (by repeat (first | exact HG.out | exact (HG.out.drewN _) | exact HG.out.drew | (with_reducible refine Glob.drewN ?_ _) | (with_reducible refine Glob.drew ?_) | (with_reducible refine Glob.alloc ?_ _)))
                simp only [errW_some] at hx90
                have hx91 := fun n_ => Glob.eql_drewN ((by repeat (first | exact HG.out | exact (HG.out.drewN _) | exact HG.out.drew | (with_reducible refine Glob.drewN ?_ _) | (with_reducible refine Glob.drew ?_) | (with_reducible refine Glob.alloc ?_ _))) : Glob E w) n_ q103 12
                simp only [errW_some] at hx91
                have hx92 := Glob.eql ((by repeat (first | exact HG.out | exact (HG.out.drewN _) | exact HG.out.drew | (with_reducible refine Glob.drewN ?_ _) | (with_reducible refine Glob.drew ?_) | (with_reducible refine Glob.alloc ?_ _))) : Glob E w) q103 12
                simp only [errW_some] at hx92
                have hx93 : w.cell? ⟨12, 0, none⟩ = some (errW E (some 13)) := Glob.c12 (by repeat (first | exact HG.out | exact (HG.out.drewN _) | exact HG.out.drew | (with_reducible refine Glob.drewN ?_ _) | (with_reducible refine Glob.drew ?_) | (with_reducible refine Glob.alloc ?_ _)))
                simp only [errW_some] at hx93
                have hx94 := fun n_ => Glob.eql_drewN ((by repeat (first | exact HG.out | exact (HG.out.drewN _) | exact HG.out.drew | (with_reducible refine Glob.drewN ?_ _) | (with_reducible refine Glob.drew ?_) | (with_reducible refine Glob.alloc ?_ _))) : Glob E w) n_ q103 13
                simp only [errW_some] at hx94
                have hx95 := Glob.eql ((by repeat (first | exact HG.out | exact (HG.out.drewN _) | exact HG.out.drew | (with_reducible refine Glob.drewN ?_ _) | (with_reducible refine Glob.drew ?_) | (with_reducible refine Glob.alloc ?_ _))) : Glob E w) q103 13
                simp only [errW_some] at hx95
                go_enter Tryd.func31, Tryd.ntmps31
                go_wp2
                go_ret
                exact ⟨by first | rfl | (simp; done) | (simp [*]; done), by repeat (first | exact Drawn0.refl _ | apply Drawn0.step)⟩

/-! ### copsekit_Num: function 16 -/
def copsekit_Num.f (a0 : Option Int) : Option (Int) := if a0.isNone = true then (some 0) else (if en (a0.getD 0) = en 1 then (some 1) else (if en (a0.getD 0) = en 2 then (some 2) else (if en (a0.getD 0) = en 3 then (some 3) else (if en (a0.getD 0) = en 4 then (some 4) else (if en (a0.getD 0) = en 5 then (some 5) else (if en (a0.getD 0) = en 6 then (some 6) else (if en (a0.getD 0) = en 7 then (some 7) else ((copsekit_more.f (some (a0.getD 0))).bind fun t105 => (some t105)))))))))
set_option maxHeartbeats 8000000 in
set_option maxRecDepth 100000 in
theorem copsekit_Num.calls (E : Int → Addr) (a0 : Option Int) (r : Int) (w : World) (hG : Glob E w) (h : copsekit_Num.f a0 = some r) :
    Calls Tryd.prog 16 #[errW E a0] w fun e w' => e = .returned (.int .i64 r) ∧ Drawn0 w w' := by
  have hu26 := Tryd.underlying26
  have hu62 := Tryd.underlying62
  have HG := Aside0.mk hG
  clear hG
  have H : (if a0.isNone = true then (some 0) else (if en (a0.getD 0) = en 1 then (some 1) else (if en (a0.getD 0) = en 2 then (some 2) else (if en (a0.getD 0) = en 3 then (some 3) else (if en (a0.getD 0) = en 4 then (some 4) else (if en (a0.getD 0) = en 5 then (some 5) else (if en (a0.getD 0) = en 6 then (some 6) else (if en (a0.getD 0) = en 7 then (some 7) else ((copsekit_more.f (some (a0.getD 0))).bind fun t105 => (some t105)))))))))) = some r := h
  clear h
  rcases a0 with _ | q104
  · have H1 : (some 0) = some r := by rw [if_pos (show (none : Option Int).isNone = true by rfl)] at H; exact H
    clear H
    have H := H1
    clear H1
    simp only [errW_none, errW_some]
    obtain rfl := Option.some.inj H
    go_enter Tryd.func16, Tryd.ntmps16
    go_wp2
    go_ret
    exact ⟨by first | rfl | (simp; done) | (simp [*]; done), by repeat (first | exact Drawn0.refl _ | apply Drawn0.step)⟩
  · have H1 : (if en q104 = en 1 then (some 1) else (if en q104 = en 2 then (some 2) else (if en q104 = en 3 then (some 3) else (if en q104 = en 4 then (some 4) else (if en q104 = en 5 then (some 5) else (if en q104 = en 6 then (some 6) else (if en q104 = en 7 then (some 7) else ((copsekit_more.f (some q104)).bind fun t105 => (some t105))))))))) = some r := by rw [if_neg (show ¬ (some q104).isNone = true by simp)] at H; exact H
    clear H
    have H := H1
    clear H1
    simp only [errW_none, errW_some]
    by_cases c2 : en q104 = en 1
    · rw [if_pos c2] at H
      have c2b0 : (en q104 == en 1) = true := beq_iff_eq.mpr c2
      have c2b1 : (en q104 != en 1) = false := bne_eq_false_iff_eq.mpr c2
      clear c2
      obtain rfl := Option.some.inj H
      have hx3 : w.cell? ⟨2, 0, none⟩ = some (errW E (some 1)) := Glob.c2 (by repeat (first | exact HG.out | exact (HG.out.drewN _) | exact HG.out.drew | (with_reducible refine Glob.drewN ?_ _) | (with_reducible refine Glob.drew ?_) | (with_reducible refine Glob.alloc ?_ _)))
      simp only [errW_some] at hx3
      have hx4 := fun n_ => Glob.eql_drewN ((by repeat (first | exact HG.out | exact (HG.out.drewN _) | exact HG.out.drew | (with_reducible refine Glob.drewN ?_ _) | (with_reducible refine Glob.drew ?_) | (with_reducible refine Glob.alloc ?_ _))) : Glob E w) n_ q104 1
      simp only [errW_some] at hx4
      have hx5 := Glob.eql ((by repeat (first | exact HG.out | exact (HG.out.drewN _) | exact HG.out.drew | (with_reducible refine Glob.drewN ?_ _) | (with_reducible refine Glob.drew ?_) | (with_reducible refine Glob.alloc ?_ _))) : Glob E w) q104 1
      simp only [errW_some] at hx5
      go_enter Tryd.func16, Tryd.ntmps16
      go_wp2
      go_ret
      exact ⟨by first | rfl | (simp; done) | (simp [*]; done), by repeat (first | exact Drawn0.refl _ | apply Drawn0.step)⟩
    · rw [if_neg c2] at H
      have c2b0 : (en q104 == en 1) = false := beq_eq_false_iff_ne.mpr c2
      have c2b1 : (en q104 != en 1) = true := bne_iff_ne.mpr c2
      by_cases c6 : en q104 = en 2
      · rw [if_pos c6] at H
        have c6b0 : (en q104 == en 2) = true := beq_iff_eq.mpr c6
        have c6b1 : (en q104 != en 2) = false := bne_eq_false_iff_eq.mpr c6
        clear c6
        obtain rfl := Option.some.inj H
        have hx7 : w.cell? ⟨2, 0, none⟩ = some (errW E (some 1)) := Glob.c2 (by repeat (first | exact HG.out | exact (HG.out.drewN _) | exact HG.out.drew | (with_reducible refine Glob.drewN ?_ _) | (with_reducible refine Glob.drew ?_) | (with_reducible refine Glob.alloc ?_ _)))
        simp only [errW_some] at hx7
        have hx8 := fun n_ => Glob.eql_drewN ((by repeat (first | exact HG.out | exact (HG.out.drewN _) | exact HG.out.drew | (with_reducible refine Glob.drewN ?_ _) | (with_reducible refine Glob.drew ?_) | (with_reducible refine Glob.alloc ?_ _))) : Glob E w) n_ q104 1
        simp only [errW_some] at hx8
        have hx9 := Glob.eql ((by repeat (first | exact HG.out | exact (HG.out.drewN _) | exact HG.out.drew | (with_reducible refine Glob.drewN ?_ _) | (with_reducible refine Glob.drew ?_) | (with_reducible refine Glob.alloc ?_ _))) : Glob E w) q104 1
        simp only [errW_some] at hx9
        have hx10 : w.cell? ⟨1, 0, none⟩ = some (errW E (some 2)) := Glob.c1 (by repeat (first | exact HG.out | exact (HG.out.drewN _) | exact HG.out.drew | (with_reducible refine Glob.drewN ?_ _) | (with_reducible refine Glob.drew ?_) | (with_reducible refine Glob.alloc ?_ _)))
        simp only [errW_some] at hx10
        have hx11 := fun n_ => Glob.eql_drewN ((by repeat (first | exact HG.out | exact (HG.out.drewN _) | exact HG.out.drew | (with_reducible refine Glob.drewN ?_ _) | (with_reducible refine Glob.drew ?_) | (with_reducible refine Glob.alloc ?_ _))) : Glob E w) n_ q104 2
        simp only [errW_some] at hx11
        have hx12 := Glob.eql ((by repeat (first | exact HG.out | exact (HG.out.drewN _) | exact HG.out.drew | (with_reducible refine Glob.drewN ?_ _) | (with_reducible refine Glob.drew ?_) | (with_reducible refine Glob.alloc ?_ _))) : Glob E w) q104 2
        simp only [errW_some] at hx12
        go_enter Tryd.func16, Tryd.ntmps16
        go_wp2
        go_ret
        exact ⟨by first | rfl | (simp; done) | (simp [*]; done), by repeat (first | exact Drawn0.refl _ | apply Drawn0.step)⟩
      · rw [if_neg c6] at H
        have c6b0 : (en q104 == en 2) = false := beq_eq_false_iff_ne.mpr c6
        have c6b1 : (en q104 != en 2) = true := bne_iff_ne.mpr c6
        by_cases c13 : en q104 = en 3
        · rw [if_pos c13] at H
          have c13b0 : (en q104 == en 3) = true := beq_iff_eq.mpr c13
          have c13b1 : (en q104 != en 3) = false := bne_eq_false_iff_eq.mpr c13
          clear c13
          obtain rfl := Option.some.inj H
          have hx14 : w.cell? ⟨2, 0, none⟩ = some (errW E (some 1)) := Glob.c2 (by repeat (first | exact HG.out | exact (HG.out.drewN _) | exact HG.out.drew | (with_reducible refine Glob.drewN ?_ _) | (with_reducible refine Glob.drew ?_) | (with_reducible refine Glob.alloc ?_ _)))
          simp only [errW_some] at hx14
          have hx15 := fun n_ => Glob.eql_drewN ((by repeat (first | exact HG.out | exact (HG.out.drewN _) | exact HG.out.drew | (with_reducible refine Glob.drewN ?_ _) | (with_reducible refine Glob.drew ?_) | (with_reducible refine Glob.alloc ?_ _))) : Glob E w) n_ q104 1
          simp only [errW_some] at hx15
          have hx16 := Glob.eql ((by repeat (first | exact HG.out | exact (HG.out.drewN _) | exact HG.out.drew | (with_reducible refine Glob.drewN ?_ _) | (with_reducible refine Glob.drew ?_) | (with_reducible refine Glob.alloc ?_ _))) : Glob E w) q104 1
          simp only [errW_some] at hx16
          have hx17 : w.cell? ⟨1, 0, none⟩ = some (errW E (some 2)) := Glob.c1 (by repeat (first | exact HG.out | exact (HG.out.drewN _) | exact HG.out.drew | (with_reducible refine Glob.drewN ?_ _) | (with_reducible refine Glob.drew ?_) | (with_reducible refine Glob.alloc ?_ _)))
          simp only [errW_some] at hx17
          have hx18 := fun n_ => Glob.eql_drewN ((by repeat (first | exact HG.out | exact (HG.out.drewN _) | exact HG.out.drew | (with_reducible refine Glob.drewN ?_ _) | (with_reducible refine Glob.drew ?_) | (with_reducible refine Glob.alloc ?_ _))) : Glob E w) n_ q104 2
          simp only [errW_some] at hx18
          have hx19 := Glob.eql ((by repeat (first | exact HG.out | exact (HG.out.drewN _) | exact HG.out.drew | (with_reducible refine Glob.drewN ?_ _) | (with_reducible refine Glob.drew ?_) | (with_reducible refine Glob.alloc ?_ _))) : Glob E w) q104 2
          simp only [errW_some] at hx19
          have hx20 : w.cell? ⟨0, 0, none⟩ = some (errW E (some 3)) := Glob.c0 (by repeat (first | exact HG.out | exact (HG.out.drewN _) | exact HG.out.drew | (with_reducible refine Glob.drewN ?_ _) | (with_reducible refine Glob.drew ?_) | (with_reducible refine Glob.alloc ?_ _)))
          simp only [errW_some] at hx20
          have hx21 := fun n_ => Glob.eql_drewN ((by repeat (first | exact HG.out | exact (HG.out.drewN _) | exact HG.out.drew | (with_reducible refine Glob.drewN ?_ _) | (with_reducible refine Glob.drew ?_) | (with_reducible refine Glob.alloc ?_ _))) : Glob E w) n_ q104 3
          simp only [errW_some] at hx21
          have hx22 := Glob.eql ((by repeat (first | exact HG.out | exact (HG.out.drewN _) | exact HG.out.drew | (with_reducible refine Glob.drewN ?_ _) | (with_reducible refine Glob.drew ?_) | (with_reducible refine Glob.alloc ?_ _))) : Glob E w) q104 3
          simp only [errW_some] at hx22
          go_enter Tryd.func16, Tryd.ntmps16
          go_wp2
          go_ret
          exact ⟨by first | rfl | (simp; done) | (simp [*]; done), by repeat (first | exact Drawn0.refl _ | apply Drawn0.step)⟩
        · rw [if_neg c13] at H
          have c13b0 : (en q104 == en 3) = false := beq_eq_false_iff_ne.mpr c13
          have c13b1 : (en q104 != en 3) = true := bne_iff_ne.mpr c13
          by_cases c23 : en q104 = en 4
          · rw [if_pos c23] at H
            have c23b0 : (en q104 == en 4) = true := beq_iff_eq.mpr c23
            have c23b1 : (en q104 != en 4) = false := bne_eq_false_iff_eq.mpr c23
            clear c23
            obtain rfl := Option.some.inj H
            have hx24 : w.cell? ⟨2, 0, none⟩ = some (errW E (some 1)) := Glob.c2 (by repeat (first | exact HG.out | exact (HG.out.drewN _) | exact HG.out.drew | (with_reducible refine Glob.drewN ?_ _) | (with_reducible refine Glob.drew ?_) | (with_reducible refine Glob.alloc ?_ _)))
            simp only [errW_some] at hx24
            have hx25 := fun n_ => Glob.eql_drewN ((by repeat (first | exact HG.out | exact (HG.out.drewN _) | exact HG.out.drew | (with_reducible refine Glob.drewN ?_ _) | (with_reducible refine Glob.drew ?_) | (with_reducible refine Glob.alloc ?_ _))) : Glob E w) n_ q104 1
            simp only [errW_some] at hx25
            have hx26 := Glob.eql ((by repeat (first | exact HG.out | exact (HG.out.drewN _) | exact HG.out.drew | (with_reducible refine Glob.drewN ?_ _) | (with_reducible refine Glob.drew ?_) | (with_reducible refine Glob.alloc ?_ _))) : Glob E w) q104 1
            simp only [errW_some] at hx26
            have hx27 : w.cell? ⟨1, 0, none⟩ = some (errW E (some 2)) := Glob.c1 (by repeat (first | exact HG.out | exact (HG.out.drewN _) | exact HG.out.drew | (with_reducible refine Glob.drewN ?_ _) | (with_reducible refine Glob.drew ?_) | (with_reducible refine Glob.alloc ?_ _)))
            simp only [errW_some] at hx27
            have hx28 := fun n_ => Glob.eql_drewN ((by repeat (first | exact HG.out | exact (HG.out.drewN _) | exact HG.out.drew | (with_reducible refine Glob.drewN ?_ _) | (with_reducible refine Glob.drew ?_) | (with_reducible refine Glob.alloc ?_ _))) : Glob E w) n_ q104 2
            simp only [errW_some] at hx28
            have hx29 := Glob.eql ((by repeat (first | exact HG.out | exact (HG.out.drewN _) | exact HG.out.drew | (with_reducible refine Glob.drewN ?_ _) | (with_reducible refine Glob.drew ?_) | (with_reducible refine Glob.alloc ?_ _))) : Glob E w) q104 2
            simp only [errW_some] at hx29
            have hx30 : w.cell? ⟨0, 0, none⟩ = some (errW E (some 3)) := Glob.c0 (by repeat (first | exact HG.out | exact (HG.out.drewN _) | exact HG.out.drew | (with_reducible refine Glob.drewN ?_ _) | (with_reducible refine Glob.drew ?_) | (with_reducible refine Glob.alloc ?_ _)))
            simp only [errW_some] at hx30
            have hx31 := fun n_ => Glob.eql_drewN ((by repeat (first | exact HG.out | exact (HG.out.drewN _) | exact HG.out.drew | (with_reducible refine Glob.drewN ?_ _) | (with_reducible refine Glob.drew ?_) | (with_reducible refine Glob.alloc ?_ _))) : Glob E w) n_ q104 3
            simp only [errW_some] at hx31
            have hx32 := Glob.eql ((by repeat (first | exact HG.out | exact (HG.out.drewN _) | exact HG.out.drew | (with_reducible refine Glob.drewN ?_ _) | (with_reducible refine Glob.drew ?_) | (with_reducible refine Glob.alloc ?_ _))) : Glob E w) q104 3
            simp only [errW_some] at hx32
            have hx33 : w.cell? ⟨3, 0, none⟩ = some (errW E (some 4)) := Glob.c3 (by repeat (first | exact HG.out | exact (HG.out.drewN _) | exact HG.out.drew | (with_reducible refine Glob.drewN ?_ _) | (with_reducible refine Glob.drew ?_) | (with_reducible refine Glob.alloc ?_ _)))
            simp only [errW_some] at hx33
            have hx34 := fun n_ => Glob.eql_drewN ((by repeat (first | exact HG.out | exact (HG.out.drewN _) | exact HG.out.drew | (with_reducible refine Glob.drewN ?_ _) | (with_reducible refine Glob.drew ?_) | (with_reducible refine Glob.alloc ?_ _))) : Glob E w) n_ q104 4
            simp only [errW_some] at hx34
            have hx35 := Glob.eql ((by repeat (first | exact HG.out | exact (HG.out.drewN _) | exact HG.out.drew | (with_reducible refine Glob.drewN ?_ _) | (with_reducible refine Glob.drew ?_) | (with_reducible refine Glob.alloc ?_ _))) : Glob E w) q104 4
            simp only [errW_some] at hx35
            go_enter Tryd.func16, Tryd.ntmps16
            go_wp2
            go_ret
            exact ⟨by first | rfl | (simp; done) | (simp [*]; done), by repeat (first | exact Drawn0.refl _ | apply Drawn0.step)⟩
          · rw [if_neg c23] at H
            have c23b0 : (en q104 == en 4) = false := beq_eq_false_iff_ne.mpr c23
            have c23b1 : (en q104 != en 4) = true := bne_iff_ne.mpr c23
            by_cases c36 : en q104 = en 5
            · rw [if_pos c36] at H
              have c36b0 : (en q104 == en 5) = true := beq_iff_eq.mpr c36
              have c36b1 : (en q104 != en 5) = false := bne_eq_false_iff_eq.mpr c36
              clear c36
              obtain rfl := Option.some.inj H
              have hx37 : w.cell? ⟨2, 0, none⟩ = some (errW E (some 1)) := Glob.c2 (by repeat (first | exact HG.out | exact (HG.out.drewN _) | exact HG.out.drew | (with_reducible refine Glob.drewN ?_ _) | (with_reducible refine Glob.drew ?_) | (with_reducible refine Glob.alloc ?_ _)))
              simp only [errW_some] at hx37
              have hx38 := fun n_ => Glob.eql_drewN ((by repeat (first | exact HG.out | exact (HG.out.drewN _) | exact HG.out.drew | (with_reducible refine Glob.drewN ?_ _) | (with_reducible refine Glob.drew ?_) | (with_reducible refine Glob.alloc ?_ _))) : Glob E w) n_ q104 1
              simp only [errW_some] at hx38
              have hx39 := Glob.eql ((by repeat (first | exact HG.out | exact (HG.out.drewN _) | exact HG.out.drew | (with_reducible refine Glob.drewN ?_ _) | (with_reducible refine Glob.drew ?_) | (with_reducible refine Glob.alloc ?_ _))) : Glob E w) q104 1
              simp only [errW_some] at hx39
              have hx40 : w.cell? ⟨1, 0, none⟩ = some (errW E (some 2)) := Glob.c1 (by repeat (first | exact HG.out | exact (HG.out.drewN _) | exact HG.out.drew | (with_reducible refine Glob.drewN ?_ _) | (with_reducible refine Glob.drew ?_) | (with_reducible refine Glob.alloc ?_ _)))
              simp only [errW_some] at hx40
              have hx41 := fun n_ => Glob.eql_drewN ((by repeat (first | exact HG.out | exact (HG.out.drewN _) | exact HG.out.drew | (with_reducible refine Glob.drewN ?_ _) | (with_reducible refine Glob.drew ?_) | (with_reducible refine Glob.alloc ?_ _))) : Glob E w) n_ q104 2
              simp only [errW_some] at hx41
              have hx42 := Glob.eql ((by repeat (first | exact HG.out | exact (HG.out.drewN _) | exact HG.out.drew | (with_reducible refine Glob.drewN ?_ _) | (with_reducible refine Glob.drew ?_) | (with_reducible refine Glob.alloc ?_ _))) : Glob E w) q104 2
              simp only [errW_some] at hx42
              have hx43 : w.cell? ⟨0, 0, none⟩ = some (errW E (some 3)) := Glob.c0 (by repeat (first | exact HG.out | exact (HG.out.drewN _) | exact HG.out.drew | (with_reducible refine Glob.drewN ?_ _) | (with_reducible refine Glob.drew ?_) | (with_reducible refine Glob.alloc ?_ _)))
              simp only [errW_some] at hx43
              have hx44 := fun n_ => Glob.eql_drewN ((by repeat (first | exact HG.out | exact (HG.out.drewN _) | exact HG.out.drew | (with_reducible refine Glob.drewN ?_ _) | (with_reducible refine Glob.drew ?_) | (with_reducible refine Glob.alloc ?_ _))) : Glob E w) n_ q104 3
              simp only [errW_some] at hx44
              have hx45 := Glob.eql ((by repeat (first | exact HG.out | exact (HG.out.drewN _) | exact HG.out.drew | (with_reducible refine Glob.drewN ?_ _) | (with_reducible refine Glob.drew ?_) | (with_reducible refine Glob.alloc ?_ _))) : Glob E w) q104 3
              simp only [errW_some] at hx45
              have hx46 : w.cell? ⟨3, 0, none⟩ = some (errW E (some 4)) := Glob.c3 (by repeat (first | exact HG.out | exact (HG.out.drewN _) | exact HG.out.drew | (with_reducible refine Glob.drewN ?_ _) | (with_reducible refine Glob.drew ?_) | (with_reducible refine Glob.alloc ?_ _)))
              simp only [errW_some] at hx46
              have hx47 := fun n_ => Glob.eql_drewN ((by repeat (first | exact HG.out | exact (HG.out.drewN _) | exact HG.out.drew | (with_reducible refine Glob.drewN ?_ _) | (with_reducible refine Glob.drew ?_) | (with_reducible refine Glob.alloc ?_ _))) : Glob E w) n_ q104 4
              simp only [errW_some] at hx47
              have hx48 := Glob.eql ((by repeat (first | exact HG.out | exact (HG.out.drewN _) | exact HG.out.drew | (with_reducible refine Glob.drewN ?_ _) | (with_reducible refine Glob.drew ?_) | (with_reducible refine Glob.alloc ?_ _))) : Glob E w) q104 4
              simp only [errW_some] at hx48
              have hx49 : w.cell? ⟨4, 0, none⟩ = some (errW E (some 5)) := Glob.c4 (by repeat (first | exact HG.out | exact (HG.out.drewN _) | exact HG.out.drew | (with_reducible refine Glob.drewN ?_ _) | (with_reducible refine Glob.drew ?_) | (with_reducible refine Glob.alloc ?_ _)))
              simp only [errW_some] at hx49
              have hx50 := fun n_ => Glob.eql_drewN ((by repeat (first | exact HG.out | exact (HG.out.drewN _) | exact HG.out.drew | (with_reducible refine Glob.drewN ?_ _) | (with_reducible refine Glob.drew ?_) | (with_reducible refine Glob.alloc ?_ _))) : Glob E w) n_ q104 5
              simp only [errW_some] at hx50
              have hx51 := Glob.eql ((by repeat (first | exact HG.out | exact (HG.out.drewN _) | exact HG.out.drew | (with_reducible refine Glob.drewN ?_ _) | (with_reducible refine Glob.drew ?_) | (with_reducible refine Glob.alloc ?_ _))) : Glob E w) q104 5
              simp only [errW_some] at hx51
              go_enter Tryd.func16, Tryd.ntmps16
              go_wp2
              go_ret
              exact ⟨by first | rfl | (simp; done) | (simp [*]; done), by repeat (first | exact Drawn0.refl _ | apply Drawn0.step)⟩
            · rw [if_neg c36] at H
              have c36b0 : (en q104 == en 5) = false := beq_eq_false_iff_ne.mpr c36
              have c36b1 : (en q104 != en 5) = true := bne_iff_ne.mpr c36
              by_cases c52 : en q104 = en 6
              · rw [if_pos c52] at H
                have c52b0 : (en q104 == en 6) = true := beq_iff_eq.mpr c52
                have c52b1 : (en q104 != en 6) = false := bne_eq_false_iff_eq.mpr c52
                clear c52
                obtain rfl := Option.some.inj H
                have hx53 : w.cell? ⟨2, 0, none⟩ = some (errW E (some 1)) := Glob.c2 (by repeat (first | exact HG.out | exact (HG.out.drewN _) | exact HG.out.drew | (with_reducible refine Glob.drewN ?_ _) | (with_reducible refine Glob.drew ?_) | (with_reducible refine Glob.alloc ?_ _)))
                simp only [errW_some] at hx53
                have hx54 := fun n_ => Glob.eql_drewN ((by repeat (first | exact HG.out | exact (HG.out.drewN _) | exact HG.out.drew | (with_reducible refine Glob.drewN ?_ _) | (with_reducible refine Glob.drew ?_) | (with_reducible refine Glob.alloc ?_ _))) : Glob E w) n_ q104 1
                simp only [errW_some] at hx54
                have hx55 := Glob.eql ((by repeat (first | exact HG.out | exact (HG.out.drewN _) | exact HG.out.drew | (with_reducible refine Glob.drewN ?_ _) | (with_reducible refine Glob.drew ?_) | (with_reducible refine Glob.alloc ?_ _))) : Glob E w) q104 1
                simp only [errW_some] at hx55
                have hx56 : w.cell? ⟨1, 0, none⟩ = some (errW E (some 2)) := Glob.c1 (by repeat (first | exact HG.out | exact (HG.out.drewN _) | exact HG.out.drew | (with_reducible refine Glob.drewN ?_ _) | (with_reducible refine Glob.drew ?_) | (with_reducible refine Glob.alloc ?_ _)))
                simp only [errW_some] at hx56
                have hx57 := fun n_ => Glob.eql_drewN ((by repeat (first | exact HG.out | exact (HG.out.drewN _) | exact HG.out.drew | (with_reducible refine Glob.drewN ?_ _) | (with_reducible refine Glob.drew ?_) | (with_reducible refine Glob.alloc ?_ _))) : Glob E w) n_ q104 2
                simp only [errW_some] at hx57
                have hx58 := Glob.eql ((by repeat (first | exact HG.out | exact (HG.out.drewN _) | exact HG.out.drew | (with_reducible refine Glob.drewN ?_ _) | (with_reducible refine Glob.drew ?_) | (with_reducible refine Glob.alloc ?_ _))) : Glob E w) q104 2
                simp only [errW_some] at hx58
                have hx59 : w.cell? ⟨0, 0, none⟩ = some (errW E (some 3)) := Glob.c0 (by repeat (first | exact HG.out | exact (HG.out.drewN _) | exact HG.out.drew | (with_reducible refine Glob.drewN ?_ _) | (with_reducible refine Glob.drew ?_) | (with_reducible refine Glob.alloc ?_ _)))
                simp only [errW_some] at hx59
                have hx60 := fun n_ => Glob.eql_drewN ((by repeat (first | exact HG.out | exact (HG.out.drewN _) | exact HG.out.drew | (with_reducible refine Glob.drewN ?_ _) | (with_reducible refine Glob.drew ?_) | (with_reducible refine Glob.alloc ?_ _))) : Glob E w) n_ q104 3
                simp only [errW_some] at hx60
                have hx61 := Glob.eql ((by repeat (first | exact HG.out | exact (HG.out.drewN _) | exact HG.out.drew | (with_reducible refine Glob.drewN ?_ _) | (with_reducible refine Glob.drew ?_) | (with_reducible refine Glob.alloc ?_ _))) : Glob E w) q104 3
                simp only [errW_some] at hx61
                have hx62 : w.cell? ⟨3, 0, none⟩ = some (errW E (some 4)) := Glob.c3 (by repeat (first | exact HG.out | exact (HG.out.drewN _) | exact HG.out.drew | (with_reducible refine Glob.drewN ?_ _) | (with_reducible refine Glob.drew ?_) | (with_reducible refine Glob.alloc ?_ _)))
                simp only [errW_some] at hx62
                have hx63 := fun n_ => Glob.eql_drewN ((by repeat (first | exact HG.out | exact (HG.out.drewN _) | exact HG.out.drew | (with_reducible refine Glob.drewN ?_ _) | (with_reducible refine Glob.drew ?_) | (with_reducible refine Glob.alloc ?_ _))) : Glob E w) n_ q104 4
                simp only [errW_some] at hx63
                have hx64 := Glob.eql ((by repeat (first | exact HG.out | exact (HG.out.drewN _) | exact HG.out.drew | (with_reducible refine Glob.drewN ?_ _) | (with_reducible refine Glob.drew ?_) | (with_reducible refine Glob.alloc ?_ _))) : Glob E w) q104 4
                simp only [errW_some] at hx64
                have hx65 : w.cell? ⟨4, 0, none⟩ = some (errW E (some 5)) := Glob.c4 (by repeat (first | exact HG.out | exact (HG.out.drewN _) | exact HG.out.drew | (with_reducible refine Glob.drewN ?_ _) | (with_reducible refine Glob.drew ?_) | (with_reducible refine Glob.alloc ?_ _)))
                simp only [errW_some] at hx65
                have hx66 := fun n_ => Glob.eql_drewN ((by repeat (first | exact HG.out | exact (HG.out.drewN _) | exact HG.out.drew | (with_reducible refine Glob.drewN ?_ _) | (with_reducible refine Glob.drew ?_) | (with_reducible refine Glob.alloc ?_ _))) : Glob E w) n_ q104 5
                simp only [errW_some] at hx66
                have hx67 := Glob.eql ((by repeat (first | exact HG.out | exact (HG.out.drewN _) | exact HG.out.drew | (with_reducible refine Glob.drewN ?_ _) | (with_reducible refine Glob.drew ?_) | (with_reducible refine Glob.alloc ?_ _))) : Glob E w) q104 5
                simp only [errW_some] at hx67
                have hx68 : w.cell? ⟨5, 0, none⟩ = some (errW E (some 6)) := Glob.c5 (by repeat (first | exact HG.out | exact (HG.out.drewN _) | exact HG.out.drew | (with_reducible refine Glob.drewN ?_ _) | (with_reducible refine Glob.drew ?_) | (with_reducible refine Glob.alloc ?_ _)))
                simp only [errW_some] at hx68
                have hx69 := fun n_ => Glob.eql_drewN ((by repeat (first | exact HG.out | exact (HG.out.drewN _) | exact HG.out.drew | (with_reducible refine Glob.drewN ?_ _) | (with_reducible refine Glob.drew ?_) | (with_reducible refine Glob.alloc ?_ _))) : Glob E w) n_ q104 6
                simp only [errW_some] at hx69
                have hx70 := Glob.eql ((by repeat (first | exact HG.out | exact (HG.out.drewN _) | exact HG.out.drew | (with_reducible refine Glob.drewN ?_ _) | (with_reducible refine Glob.drew ?_) | (with_reducible refine Glob.alloc ?_ _))) : Glob E w) q104 6
                simp only [errW_some] at hx70
                go_enter Tryd.func16, Tryd.ntmps16
                go_wp2
                go_ret
                exact ⟨by first | rfl | (simp; done) | (simp [*]; done), by repeat (first | exact Drawn0.refl _ | apply Drawn0.step)⟩
              · rw [if_neg c52] at H
                have c52b0 : (en q104 == en 6) = false := beq_eq_false_iff_ne.mpr c52
                have c52b1 : (en q104 != en 6) = true := bne_iff_ne.mpr c52
                by_cases c71 : en q104 = en 7
                · rw [if_pos c71] at H
                  have c71b0 : (en q104 == en 7) = true := beq_iff_eq.mpr c71
                  have c71b1 : (en q104 != en 7) = false := bne_eq_false_iff_eq.mpr c71
                  clear c71
                  obtain rfl := Option.some.inj H
                  have hx72 : w.cell? ⟨2, 0, none⟩ = some (errW E (some 1)) := Glob.c2 (by repeat (first | exact HG.out | exact (HG.out.drewN _) | exact HG.out.drew | (with_reducible refine Glob.drewN ?_ _) | (with_reducible refine Glob.drew ?_) | (with_reducible refine Glob.alloc ?_ _)))
                  simp only [errW_some] at hx72
                  have hx73 := fun n_ => Glob.eql_drewN ((by repeat (first | exact HG.out | exact (HG.out.drewN _) | exact HG.out.drew | (with_reducible refine Glob.drewN ?_ _) | (with_reducible refine Glob.drew ?_) | (with_reducible refine Glob.alloc ?_ _))) : Glob E w) n_ q104 1
                  simp only [errW_some] at hx73
                  have hx74 := Glob.eql ((by repeat (first | exact HG.out | exact (HG.out.drewN _) | exact HG.out.drew | (with_reducible refine Glob.drewN ?_ _) | (with_reducible refine Glob.drew ?_) | (with_reducible refine Glob.alloc ?_ _))) : Glob E w) q104 1
                  simp only [errW_some] at hx74
                  have hx75 : w.cell? ⟨1, 0, none⟩ = some (errW E (some 2)) := Glob.c1 (by repeat (first | exact HG.out | exact (HG.out.drewN _) | exact HG.out.drew | (with_reducible refine Glob.drewN ?_ _) | (with_reducible refine Glob.drew ?_) | (with_reducible refine Glob.alloc ?_ _)))
                  simp only [errW_some] at hx75
                  have hx76 := fun n_ => Glob.eql_drewN ((by repeat (first | exact HG.out | exact (HG.out.drewN _) | exact HG.out.drew | (with_reducible refine Glob.drewN ?_ _) | (with_reducible refine Glob.drew ?_) | (with_reducible refine Glob.alloc ?_ _))) : Glob E w) n_ q104 2
                  simp only [errW_some] at hx76
                  have hx77 := Glob.eql ((by repeat (first | exact HG.out | exact (HG.out.drewN _) | exact HG.out.drew | (with_reducible refine Glob.drewN ?_ _) | (with_reducible refine Glob.drew ?_) | (with_reducible refine Glob.alloc ?_ _))) : Glob E w) q104 2
                  simp only [errW_some] at hx77
                  have hx78 : w.cell? ⟨0, 0, none⟩ = some (errW E (some 3)) := Glob.c0 (by repeat (first | exact HG.out | exact (HG.out.drewN _) | exact HG.out.drew | (with_reducible refine Glob.drewN ?_ _) | (with_reducible refine Glob.drew ?_) | (with_reducible refine Glob.alloc ?_ _)))
                  simp only [errW_some] at hx78
                  have hx79 := fun n_ => Glob.eql_drewN ((by repeat (first | exact HG.out | exact (HG.out.drewN _) | exact HG.out.drew | (with_reducible refine Glob.drewN ?_ _) | (with_reducible refine Glob.drew ?_) | (with_reducible refine Glob.alloc ?_ _))) : Glob E w) n_ q104 3
                  simp only [errW_some] at hx79
                  have hx80 := Glob.eql ((by repeat (first | exact HG.out | exact (HG.out.drewN _) | exact HG.out.drew | (with_reducible refine Glob.drewN ?_ _) | (with_reducible refine Glob.drew ?_) | (with_reducible refine Glob.alloc ?_ _))) : Glob E w) q104 3
                  simp only [errW_some] at hx80
                  have hx81 : w.cell? ⟨3, 0, none⟩ = some (errW E (some 4)) := Glob.c3 (by repeat (first | exact HG.out | exact (HG.out.drewN _) | exact HG.out.drew | (with_reducible refine Glob.drewN ?_ _) | (with_reducible refine Glob.drew ?_) | (with_reducible refine Glob.alloc ?_ _)))
                  simp only [errW_some] at hx81
                  have hx82 := fun n_ => Glob.eql_drewN ((by repeat (first | exact HG.out | exact (HG.out.drewN _) | exact HG.out.drew | (with_reducible refine Glob.drewN ?_ _) | (with_reducible refine Glob.drew ?_) | (with_reducible refine Glob.alloc ?_ _))) : Glob E w) n_ q104 4
                  simp only [errW_some] at hx82
                  have hx83 := Glob.eql ((by repeat (first | exact HG.out | exact (HG.out.drewN _) | exact HG.out.drew | (with_reducible refine Glob.drewN ?_ _) | (with_reducible refine Glob.drew ?_) | (with_reducible refine Glob.alloc ?_ _))) : Glob E w) q104 4
                  simp only [errW_some] at hx83
                  have hx84 : w.cell? ⟨4, 0, none⟩ = some (errW E (some 5)) := Glob.c4 (by repeat (first | exact HG.out | exact (HG.out.drewN _) | exact HG.out.drew | (with_reducible refine Glob.drewN ?_ _) | (with_reducible refine Glob.drew ?_) | (with_reducible refine Glob.alloc ?_ _)))
                  simp only [errW_some] at hx84
                  have hx85 := fun n_ => Glob.eql_drewN ((by repeat (first | exact HG.out | exact (HG.out.drewN _) | exact HG.out.drew | (with_reducible refine Glob.drewN ?_ _) | (with_reducible refine Glob.drew ?_) | (with_reducible refine Glob.alloc ?_ _))) : Glob E w) n_ q104 5
                  simp only [errW_some] at hx85
                  have hx86 := Glob.eql ((by repeat (first | exact HG.out | exact (HG.out.drewN _) | exact HG.out.drew | (with_reducible refine Glob.drewN ?_ _) | (with_reducible refine Glob.drew ?_) | (with_reducible refine Glob.alloc ?_ _))) : Glob E w) q104 5
                  simp only [errW_some] at hx86
                  have hx87 : w.cell? ⟨5, 0, none⟩ = some (errW E (some 6)) := Glob.c5 (by repeat (first | exact HG.out | exact (HG.out.drewN _) | exact HG.out.drew | (with_reducible refine Glob.drewN ?_ _) | (with_reducible refine Glob.drew ?_) | (with_reducible refine Glob.alloc ?_ _)))
                  simp only [errW_some] at hx87
                  have hx88 := fun n_ => Glob.eql_drewN ((by repeat (first | exact HG.out | exact (HG.out.drewN _) | exact HG.out.drew | (with_reducible refine Glob.drewN ?_ _) | (with_reducible refine Glob.drew ?_) | (with_reducible refine Glob.alloc ?_ _))) : Glob E w) n_ q104 6
                  simp only [errW_some] at hx88
                  have hx89 := Glob.eql ((by repeat (first | exact HG.out | exact (HG.out.drewN _) | exact HG.out.drew | (with_reducible refine Glob.drewN ?_ _) | (with_reducible refine Glob.drew ?_) | (with_reducible refine Glob.alloc ?_ _))) : Glob E w) q104 6
                  simp only [errW_some] at hx89
                  have hx90 : w.cell? ⟨6, 0, none⟩ = some (errW E (some 7)) := Glob.c6 (by repeat (first | exact HG.out | exact (HG.out.drewN _) | exact HG.out.drew | (with_reducible refine Glob.drewN ?_ _) | (with_reducible refine Glob.drew ?_) | (with_reducible refine Glob.alloc ?_ _)))
                  simp only [errW_some] at hx90
                  have hx91 := fun n_ => Glob.eql_drewN ((by repeat (first | exact HG.out | exact (HG.out.drewN _) | exact HG.out.drew | (with_reducible refine Glob.drewN ?_ _) | (with_reducible refine Glob.drew ?_) | (with_reducible refine Glob.alloc ?_ _))) : Glob E w) n_ q104 7
                  simp only [errW_some] at hx91
                  have hx92 := Glob.eql ((by repeat (first | exact HG.out | exact (HG.out.drewN _) | exact HG.out.drew | (with_reducible refine Glob.drewN ?_ _) | (with_reducible refine Glob.drew ?_) | (with_reducible refine Glob.alloc ?_ _))) : Glob E w) q104 7
                  simp only [errW_some] at hx92
                  go_enter Tryd.func16, Tryd.ntmps16
                  go_wp2
                  go_ret
                  exact ⟨by first | rfl | (simp; done) | (simp [*]; done), by repeat (first | exact Drawn0.refl _ | apply Drawn0.step)⟩
                · rw [if_neg c71] at H
                  have c71b0 : (en q104 == en 7) = false := beq_eq_false_iff_ne.mpr c71
                  have c71b1 : (en q104 != en 7) = true := bne_iff_ne.mpr c71
                  replace H := Option.bind_eq_some_iff.mp H
                  obtain ⟨t105, A930, H⟩ := H
                  replace H : (some t105) = some r := H
                  have A93 := Aside0.mk A930
                  clear A930
                  obtain rfl := Option.some.inj H
                  have hx94 : w.cell? ⟨2, 0, none⟩ = some (errW E (some 1)) := Glob.c2 (by repeat (first | exact HG.out | exact (HG.out.drewN _) | exact HG.out.drew | (with_reducible refine Glob.drewN ?_ _) | (with_reducible refine Glob.drew ?_) | (with_reducible refine Glob.alloc ?_ _)))
                  simp only [errW_some] at hx94
                  have hx95 := fun n_ => Glob.eql_drewN ((by repeat (first | exact HG.out | exact (HG.out.drewN _) | exact HG.out.drew | (with_reducible refine Glob.drewN ?_ _) | (with_reducible refine Glob.drew ?_) | (with_reducible refine Glob.alloc ?_ _))) : Glob E w) n_ q104 1
                  simp only [errW_some] at hx95
                  have hx96 := Glob.eql ((by repeat (first | exact HG.out | exact (HG.out.drewN _) | exact HG.out.drew | (with_reducible refine Glob.drewN ?_ _) | (with_reducible refine Glob.drew ?_) | (with_reducible refine Glob.alloc ?_ _))) : Glob E w) q104 1
                  simp only [errW_some] at hx96
                  have hx97 : w.cell? ⟨1, 0, none⟩ = some (errW E (some 2)) := Glob.c1 (by repeat (first | exact HG.out | exact (HG.out.drewN _) | exact HG.out.drew | (with_reducible refine Glob.drewN ?_ _) | (with_reducible refine Glob.drew ?_) | (with_reducible refine Glob.alloc ?_ _)))
                  simp only [errW_some] at hx97
                  have hx98 := fun n_ => Glob.eql_drewN ((by repeat (first | exact HG.out | exact (HG.out.drewN _) | exact HG.out.drew | (with_reducible refine Glob.drewN ?_ _) | (with_reducible refine Glob.drew ?_) | (with_reducible refine Glob.alloc ?_ _))) : Glob E w) n_ q104 2
                  simp only [errW_some] at hx98
                  have hx99 := Glob.eql ((by repeat (first | exact HG.out | exact (HG.out.drewN _) | exact HG.out.drew | (with_reducible refine Glob.drewN ?_ _) | (with_reducible refine Glob.drew ?_) | (with_reducible refine Glob.alloc ?_ _))) : Glob E w) q104 2
                  simp only [errW_some] at hx99
                  have hx100 : w.cell? ⟨0, 0, none⟩ = some (errW E (some 3)) := Glob.c0 (by repeat (first | exact HG.out | exact (HG.out.drewN _) | exact HG.out.drew | (with_reducible refine Glob.drewN ?_ _) | (with_reducible refine Glob.drew ?_) | (with_reducible refine Glob.alloc ?_ _)))
                  simp only [errW_some] at hx100
                  have hx101 := fun n_ => Glob.eql_drewN ((by repeat (first | exact HG.out | exact (HG.out.drewN _) | exact HG.out.drew | (with_reducible refine Glob.drewN ?_ _) | (with_reducible refine Glob.drew ?_) | (with_reducible refine Glob.alloc ?_ _))) : Glob E w) n_ q104 3
                  simp only [errW_some] at hx101
                  have hx102 := Glob.eql ((by repeat (first | exact HG.out | exact (HG.out.drewN _) | exact HG.out.drew | (with_reducible refine Glob.drewN ?_ _) | (with_reducible refine Glob.drew ?_) | (with_reducible refine Glob.alloc ?_ _))) : Glob E w) q104 3
                  simp only [errW_some] at hx102
                  have hx103 : w.cell? ⟨3, 0, none⟩ = some (errW E (some 4)) := Glob.c3 (by repeat (first | exact HG.out | exact (HG.out.drewN _) | exact HG.out.drew | (with_reducible refine Glob.drewN ?_ _) | (with_reducible refine Glob.drew ?_) | (with_reducible refine Glob.alloc ?_ _)))
                  simp only [errW_some] at hx103
                  have hx104 := fun n_ => Glob.eql_drewN ((by repeat (first | exact HG.out | exact (HG.out.drewN _) | exact HG.out.drew | (with_reducible refine Glob.drewN ?_ _) | (with_reducible refine Glob.drew ?_) | (with_reducible refine Glob.alloc ?_ _))) : Glob E w) n_ q104 4
                  simp only [errW_some] at hx104
                  have hx105 := Glob.eql ((by repeat (first | exact HG.out | exact (HG.out.drewN _) | exact HG.out.drew | (with_reducible refine Glob.drewN ?_ _) | (with_reducible refine Glob.drew ?_) | (with_reducible refine Glob.alloc ?_ _))) : Glob E w) q104 4
                  simp only [errW_some] at hx105
                  have hx106 : w.cell? ⟨4, 0, none⟩ = some (errW E (some 5)) := Glob.c4 (by repeat (first | exact HG.out | exact (HG.out.drewN _) | exact HG.out.drew | (with_reducible refine Glob.drewN ?_ _) | (with_reducible refine Glob.drew ?_) | (with_reducible refine Glob.alloc ?_ _)))
                  simp only [errW_some] at hx106
                  have hx107 := fun n_ => Glob.eql_drewN ((by repeat (first | exact HG.out | exact (HG.out.drewN _) | exact HG.out.drew | (with_reducible refine Glob.drewN ?_ _) | (with_reducible refine Glob.drew ?_) | (with_reducible refine Glob.alloc ?_ _))) : Glob E w) n_ q104 5
                  simp only [errW_some] at hx107
                  have hx108 := Glob.eql ((by repeat (first | exact HG.out | exact (HG.out.drewN _) | exact HG.out.drew | (with_reducible refine Glob.drewN ?_ _) | (with_reducible refine Glob.drew ?_) | (with_reducible refine Glob.alloc ?_ _))) : Glob E w) q104 5
                  simp only [errW_some] at hx108
                  have hx109 : w.cell? ⟨5, 0, none⟩ = some (errW E (some 6)) := Glob.c5 (by repeat (first | exact HG.out | exact (HG.out.drewN _) | exact HG.out.drew | (with_reducible refine Glob.drewN ?_ _) | (with_reducible refine Glob.drew ?_) | (with_reducible refine Glob.alloc ?_ _)))
                  simp only [errW_some] at hx109
                  have hx110 := fun n_ => Glob.eql_drewN ((by repeat (first | exact HG.out | exact (HG.out.drewN _) | exact HG.out.drew | (with_reducible refine Glob.drewN ?_ _) | (with_reducible refine Glob.drew ?_) | (with_reducible refine Glob.alloc ?_ _))) : Glob E w) n_ q104 6
                  simp only [errW_some] at hx110
                  have hx111 := Glob.eql ((by repeat (first | exact HG.out | exact (HG.out.drewN _) | exact HG.out.drew | (with_reducible refine Glob.drewN ?_ _) | (with_reducible refine Glob.drew ?_) | (with_reducible refine Glob.alloc ?_ _))) : Glob E w) q104 6
                  simp only [errW_some] at hx111
                  have hx112 : w.cell? ⟨6, 0, none⟩ = some (errW E (some 7)) := Glob.c6 (by repeat (first | exact HG.out | exact (HG.out.drewN _) | exact HG.out.drew | (with_reducible refine Glob.drewN ?_ _) | (with_reducible refine Glob.drew ?_) | (with_reducible refine Glob.alloc ?_ _)))
                  simp only [errW_some] at hx112
                  have hx113 := fun n_ => Glob.eql_drewN ((by repeat (first | exact HG.out | exact (HG.out.drewN _) | exact HG.out.drew | (with_reducible refine Glob.drewN ?_ _) | (with_reducible refine Glob.drew ?_) | (with_reducible refine Glob.alloc ?_ _))) : Glob E w) n_ q104 7
                  simp only [errW_some] at hx113
                  have hx114 := Glob.eql ((by repeat (first | exact HG.out | exact (HG.out.drewN _) | exact HG.out.drew | (with_reducible refine Glob.drewN ?_ _) | (with_reducible refine Glob.drew ?_) | (with_reducible refine Glob.alloc ?_ _))) : Glob E w) q104 7
                  simp only [errW_some] at hx114
                  have CA93 := fun (W : World) (hG_ : Glob E W) => copsekit_more.calls E (some q104) t105 W hG_ A93.out
                  try simp only [errW_none, errW_some] at CA93
                  go_enter Tryd.func16, Tryd.ntmps16
                  go_wp2_with (first | (go_at_call 31; (with_reducible refine (CA93 _ ?side1).mono ?_); (case side1 => exact (by repeat (first | exact HG.out | exact (HG.out.drewN _) | exact HG.out.drew | (with_reducible refine Glob.drewN ?_ _) | (with_reducible refine Glob.drew ?_) | (with_reducible refine Glob.alloc ?_ _)))); rintro e w' ⟨rfl, ⟨nd, rfl⟩⟩))
                  go_ret
                  exact ⟨by first | rfl | (simp; done) | (simp [*]; done), by repeat (first | exact Drawn0.refl _ | apply Drawn0.step)⟩

end Go.Proofs.YtmjdkddpfcfepaaDoor.XCellsReads
