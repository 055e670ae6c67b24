-- Printed for this claim by a program (wip/printx) that builds on the kit's print. Not trusted: Lean checks it.
import Derived.Test.YtcjfmlgljfggpaaDoorXCodecBackx0
namespace Go.Proofs.YtcjfmlgljfggpaaDoor.XCodecBack
open Go.RowKit Go.Proofs.YtcjfmlgljfggpaaDoorW.PrintWords Go.Proofs.YtcjfmlgljfggpaaDoorW.PrintLast Go.Proofs.YtcjfmlgljfggpaaDoorW.PrintMore
attribute [local go_sem] max2_int min2_int max_two min_two max_three min_three max_four min_four   -- for this text's walks alone
set_option linter.unusedVariables false
set_option linter.unusedSimpArgs false

/-! ### copsekit_Bytes: function 17 -/
def copsekit_Bytes.l0 : Nat → ByteArray → List Int → Int → Option (List Int)
  | 0, _, _, _ => none
  | k + 1, x0, x3, x4 => if x4 < (x0.size : Int) then (if 0 ≤ x4 then (if x3.length < 140737488355328 then (copsekit_Bytes.l0 k x0 (x3 ++ [bt x0 x4]) (wrap64 (x4 + 1))) else (none)) else (none)) else (some x3)
def copsekit_Bytes.f (k : Nat) (a0 : ByteArray) : Option (List Int) := copsekit_Bytes.l0 k a0 ([] : List Int) 0
theorem copsekit_Bytes.mono_l : ∀ k, (∀ y0 y1 y2, LeO (copsekit_Bytes.l0 k y0 y1 y2) (copsekit_Bytes.l0 (k + 1) y0 y1 y2))
  | 0 => fun _ _ _ r h => by simp [copsekit_Bytes.l0] at h
  | k + 1 => by
    have ih0 := copsekit_Bytes.mono_l k
    · intro y0 y1 y2
      unfold copsekit_Bytes.l0
      repeat' first
      | (with_reducible exact ih0 _ _ _)
      | (with_reducible exact LeO.refl _)
      | (with_reducible exact LeO.none _)
      | (with_reducible refine LeO.ite ?_ ?_)
      | (with_reducible refine LeO.bind ?_ (fun _ => ?_))
      | exact ih0 _ _ _
      | exact LeO.none _
      | refine LeO.ite ?_ ?_
      | refine LeO.bind ?_ (fun _ => ?_)
theorem copsekit_Bytes.mono : ∀ a0 k, LeO (copsekit_Bytes.f k a0) (copsekit_Bytes.f (k + 1) a0) := by
  intro a0 k
  have ih0 := copsekit_Bytes.mono_l k
  unfold copsekit_Bytes.f
  repeat' first
      | (with_reducible exact ih0 _ _ _)
      | (with_reducible exact LeO.refl _)
      | (with_reducible exact LeO.none _)
      | (with_reducible refine LeO.ite ?_ ?_)
      | (with_reducible refine LeO.bind ?_ (fun _ => ?_))
      | exact ih0 _ _ _
      | exact LeO.none _
      | refine LeO.ite ?_ ?_
      | refine LeO.bind ?_ (fun _ => ?_)
set_option maxHeartbeats 8000000 in
set_option maxRecDepth 100000 in
theorem copsekit_Bytes.calls (k : Nat) (a0 : ByteArray) (r : List Int) (w : World) (h : copsekit_Bytes.f k a0 = some r) :
    Calls Tryd.prog 17 #[.string a0] w fun e w' => ∃ v0_ : Value, e = .returned (v0_) ∧ Kd.R (Kd.int .u8) 5 w' w.heap.size (fun _ => True) v0_ r ∧ Below w.heap.size w w' := by
  have HB := Aside0.mk (Below.refl w.heap.size w)
  have H : (copsekit_Bytes.l0 k a0 ([] : List Int) 0) = some r := h
  clear h
  have H' := Aside0.mk H
  clear H
  go_enter Tryd.func17, Tryd.ntmps17
  go_wp2
  go_loopg [3, 4] k (fun kq v3 v4 w' => ∃ (x3_1 : List Int) (x4_1 : Int), v4 = .int .i64 x4_1 ∧ Aside0 (copsekit_Bytes.l0 kq a0 x3_1 x4_1 = some r) ∧ Aside0 (kq ≤ k) ∧ Aside0 (Kd.R (Kd.int .u8) 5 w' w.heap.size (fun _ => True) v3 x3_1) ∧ Aside0 (Below w.heap.size w w'))
  case atStart => exact ⟨(([] : List Int)), (0), (by first | rfl | (simp; done) | (simp [*]; done)), H', ⟨Nat.le_refl _⟩, ⟨by first | exact Kd.R_nil _ _ _ _ _ | exact Kd.N_nil _ _ _ _ _ | exact Kd.V_nil _ _ _ _ _ | exact Kd.Q_nil _ _ _ _ _ | exact Kd.S_nil _ _ _ _ _⟩, ⟨by repeat (first | (with_reducible first | exact HB.out | apply below_alloc | apply pw_below_drewN | apply below_drew1) | exact HB.out)⟩⟩
  case round =>
    clear H'
    try clear c1
    obtain ⟨x3_1, x4_1, rfl, HA, HK1, HO_3, HB⟩ := hrel
    cases gk with
    | zero => exact absurd HA.out (by simp [copsekit_Bytes.l0])
    | succ k1 =>
      have H := HA.out
      clear HA
      simp only [copsekit_Bytes.l0] at H
      by_cases c2 : x4_1 < (a0.size : Int)
      · rw [if_pos c2] at H
        have c2b0 : decide (x4_1 < (a0.size : Int)) = true := decide_eq_true c2
        clear c2
        by_cases c3 : 0 ≤ x4_1
        · rw [if_pos c3] at H
          have c3b0 : decide (0 ≤ x4_1) = true := decide_eq_true c3
          clear c3
          by_cases c5 : x3_1.length < 140737488355328
          · rw [if_pos c5] at H
            have LMc5 := Aside0.mk c5
            clear c5
            obtain ⟨y101, hy101⟩ : ∃ y_ : List Int, y_ = (x3_1 ++ [bt a0 x4_1]) := ⟨_, rfl⟩
            replace H : (copsekit_Bytes.l0 k1 a0 y101 (wrap64 (x4_1 + 1))) = some r := by first | (rw [hy101]; with_reducible exact H) | (have H2_ := (Option.bind_some _ _).symm.trans H; rw [hy101]; with_reducible exact H2_) | (have H2_ := (Option.bind_some _ _).symm.trans H; with_reducible exact H2_) | with_reducible exact H | (rw [hy101]; exact H) | exact H
            have Ny101 := Aside0.mk hy101
            clear hy101
            have H' := Aside0.mk H
            clear H
            have p4 : 0 ≤ (x4_1 : Int) := of_decide_eq_true (by first | (with_reducible assumption) | assumption)
            have q4 : x4_1 < (a0.size : Int) := of_decide_eq_true (by first | (with_reducible assumption) | assumption)
            have hx4 := bt_at a0 x4_1
            replace p4 := eq_true p4
            replace q4 := eq_true q4
            go_wp2_with (first | ((with_reducible refine gate_builtin (b := .append) (xs := #[.tmp 11, .tmp 15]) rfl ?_); at_builtin; refine Kd.R_append (Kd.int .u8) (w0 := w) w.heap.size rfl (.tmp 11) (.tmp 15) 28 5 (.int .u8 0) 1 rfl Tryd.underlying28 info5 rfl (by decide) (by omega) u3 x3_1 (bt a0 x4_1) [.int .u8 (bt a0 x4_1)] (fun _ => True) (fun _ => False) rfl rfl ?aP (fun _ hk => hk.elim) ?aF ?aO ?aB ?aS ?aL ?_; (case aP => exact rfl); (case aB => exact (by repeat (first | (with_reducible first | exact HB.out | apply below_alloc | apply pw_below_drewN | apply below_drew1) | exact HB.out))); (case aF => exact (fun _ _ => trivial)); (case aO => exact (by (with_reducible repeat (first | apply Kd.R_alloc | apply Kd.R_drewN | apply Kd.R_drew)); exact HO_3.out)); (case aS => exact (below_size (by repeat (first | (with_reducible first | exact HB.out | apply below_alloc | apply pw_below_drewN | apply below_drew1) | exact HB.out)))); (case aL => have := LMc5.out; omega); intro v102 w6 ho hb hg hat; rw [← Ny101.out] at ho; have n0_ := Aside0.mk (hb); have n1_ := Aside0.mk (ho); clear HB; clear HO_3; have HB := n0_; have HO103 := n1_; clear n0_ n1_; clear ho hb hg hat))
            go_roundg k1
            case measure => have := HK1.out; omega
            case rel => exact ⟨(y101), (wrap64 (x4_1 + 1)), (by first | rfl | (simp; done) | (simp [*]; done)), H', ⟨by have := HK1.out; omega⟩, ⟨by (with_reducible repeat (first | apply Kd.R_alloc | apply Kd.R_drewN | apply Kd.R_drew)); exact HO103.out⟩, ⟨by repeat (first | (with_reducible first | exact HB.out | apply below_alloc | apply pw_below_drewN | apply below_drew1) | exact HB.out)⟩⟩
          · rw [if_neg c5] at H
            exact absurd H (by simp)
        · rw [if_neg c3] at H
          exact absurd H (by simp)
      · rw [if_neg c2] at H
        have c2b0 : decide (x4_1 < (a0.size : Int)) = false := decide_eq_false c2
        clear c2
        obtain rfl := Option.some.inj H
        go_wp2
        go_ret
        exact ⟨_, by first | rfl | (simp [errW_none, errW_some] <;> rfl) | (simp [*, errW_none, errW_some] <;> rfl), by (with_reducible repeat (first | apply Kd.R_alloc | apply Kd.R_drewN | apply Kd.R_drew)); exact HO_3.out, by repeat (first | (with_reducible first | exact HB.out | apply below_alloc | apply pw_below_drewN | apply below_drew1) | exact HB.out)⟩

/-! ### codec_Get: function 22 -/
mutual
def codec_Get.j0 : Nat → List Int → Bool → Option (Int × Option Int)
  | 0, _, _ => none
  | k + 1, x0, x13 => if x13 = true then (some (0, some 1)) else (codec_Get.l0 k x0 0 (x0.length : Int) 0)
def codec_Get.l0 : Nat → List Int → Int → Int → Int → Option (Int × Option Int)
  | 0, _, _, _, _ => none
  | k + 1, x0, x4, x16, x17 => if x17 < x16 then (if 0 ≤ x17 then (if x17 < (x0.length : Int) then (codec_Get.l0 k x0 (Go.bits .or .u64 (IntKind.u64.wrap (x4 * 256)) (IntKind.u64.wrap (rd x0 x17))) x16 (wrap64 (x17 + 1))) else (none)) else (none)) else (some (x4, none))
end
def codec_Get.f (k : Nat) (l0 : List Int) : Option (Int × Option Int) := if (l0.length : Int) < 1 then (codec_Get.j0 k l0 true) else (codec_Get.j0 k l0 (decide ((l0.length : Int) > 8)))
theorem codec_Get.mono_l : ∀ k, (∀ y0 y1, LeO (codec_Get.j0 k y0 y1) (codec_Get.j0 (k + 1) y0 y1)) ∧ (∀ y0 y1 y2 y3, LeO (codec_Get.l0 k y0 y1 y2 y3) (codec_Get.l0 (k + 1) y0 y1 y2 y3))
  | 0 => ⟨fun _ _ r h => by simp [codec_Get.j0] at h, fun _ _ _ _ r h => by simp [codec_Get.l0] at h⟩
  | k + 1 => by
    obtain ⟨ih0, ih1⟩ := codec_Get.mono_l k
    refine ⟨?_, ?_⟩
    · intro y0 y1
      unfold codec_Get.j0
      repeat' first
      | (with_reducible exact ih0 _ _)
      | (with_reducible exact ih1 _ _ _ _)
      | (with_reducible exact LeO.refl _)
      | (with_reducible exact LeO.none _)
      | (with_reducible refine LeO.ite ?_ ?_)
      | (with_reducible refine LeO.bind ?_ (fun _ => ?_))
      | exact ih0 _ _
      | exact ih1 _ _ _ _
      | exact LeO.none _
      | refine LeO.ite ?_ ?_
      | refine LeO.bind ?_ (fun _ => ?_)
    · intro y0 y1 y2 y3
      unfold codec_Get.l0
      repeat' first
      | (with_reducible exact ih0 _ _)
      | (with_reducible exact ih1 _ _ _ _)
      | (with_reducible exact LeO.refl _)
      | (with_reducible exact LeO.none _)
      | (with_reducible refine LeO.ite ?_ ?_)
      | (with_reducible refine LeO.bind ?_ (fun _ => ?_))
      | exact ih0 _ _
      | exact ih1 _ _ _ _
      | exact LeO.none _
      | refine LeO.ite ?_ ?_
      | refine LeO.bind ?_ (fun _ => ?_)
theorem codec_Get.mono : ∀ a0 k, LeO (codec_Get.f k a0) (codec_Get.f (k + 1) a0) := by
  intro a0 k
  obtain ⟨ih0, ih1⟩ := codec_Get.mono_l k
  unfold codec_Get.f
  repeat' first
      | (with_reducible exact ih0 _ _)
      | (with_reducible exact ih1 _ _ _ _)
      | (with_reducible exact LeO.refl _)
      | (with_reducible exact LeO.none _)
      | (with_reducible refine LeO.ite ?_ ?_)
      | (with_reducible refine LeO.bind ?_ (fun _ => ?_))
      | exact ih0 _ _
      | exact ih1 _ _ _ _
      | exact LeO.none _
      | refine LeO.ite ?_ ?_
      | refine LeO.bind ?_ (fun _ => ?_)
set_option maxHeartbeats 8000000 in
set_option maxRecDepth 100000 in
theorem codec_Get.calls (k : Nat) (E : Int → Addr) (A0 : Option Addr) (c0 : Nat) (l0 : List Int) (r1 : Int) (r2 : Option Int) (w : World) (hG : Glob E w) (hr0 : Kd.C (Kd.int .u8) w A0 l0.length l0) (hc0 : l0.length ≤ c0) (h : codec_Get.f k l0 = some (r1, r2)) :
    Calls Tryd.prog 22 #[.slice A0 l0.length c0] w fun e w' => e = .returned (.tuple #[.int .u64 r1, errW E r2]) ∧ Drawn0 w w' := by
  have HR0 := Aside0.mk hr0
  have HC0 := Aside0.mk hc0
  clear hr0 hc0
  have HG := Aside0.mk hG
  clear hG
  have H : (if (l0.length : Int) < 1 then (codec_Get.j0 k l0 true) else (codec_Get.j0 k l0 (decide ((l0.length : Int) > 8)))) = some (r1, r2) := h
  clear h
  have HC2 := Aside0.mk H
  clear H
  go_enter Tryd.func22, Tryd.ntmps22
  go_upto_region 1 with (fail)
  repeat (go_quiet (fail); go_upto_region 1 with (fail))
  go_cut [13] (fun v13 wc => ∃ (kq : Nat) (x13_1 : Bool), v13 = .bool x13_1 ∧ Aside0 (codec_Get.j0 kq l0 x13_1 = some (r1, r2)) ∧ Aside0 (kq ≤ k) ∧ Drawn0 w wc)
  case first =>
    have H := HC2.out
    clear HC2
    by_cases c3 : (l0.length : Int) < 1
    · rw [if_pos c3] at H
      have c3b0 : decide ((l0.length : Int) < 1) = true := decide_eq_true c3
      have c3b1 : decide (l0.length < 1) = true := decide_eq_true (by omega)
      clear c3
      (first | rw [c3b0] | (simp only [i64_w, i32_w]; rw [c3b0]) | skip)
      have H' := Aside0.mk H
      clear H
      go_wp2
      repeat (go_quiet (fail); try go_wp2)
      go_meet
      case rel => exact ⟨_, (true), (by first | rfl | (simp; done) | (simp [*]; done)), H', ⟨by first | omega | exact Nat.le_refl _⟩, by repeat (first | exact Drawn0.refl _ | apply Drawn0.step)⟩
    · rw [if_neg c3] at H
      have c3b0 : decide ((l0.length : Int) < 1) = false := decide_eq_false c3
      have c3b1 : decide (l0.length < 1) = false := decide_eq_false (by omega)
      clear c3
      (first | rw [c3b0] | (simp only [i64_w, i32_w]; rw [c3b0]) | skip)
      have H' := Aside0.mk H
      clear H
      go_wp2
      repeat (go_quiet (fail); try go_wp2)
      go_meet
      case rel => exact ⟨_, (decide ((l0.length : Int) > 8)), (by first | rfl | (simp; done) | (simp [*]; done)), H', ⟨by first | omega | exact Nat.le_refl _⟩, by repeat (first | exact Drawn0.refl _ | apply Drawn0.step)⟩
  case rest =>
    clear HC2
    try clear c2
    try clear p2
    try clear c3
    try clear c3b0
    try clear c3b1
    obtain ⟨kq, x13_1, rfl, HA, HJ1, ⟨mc1, rfl⟩⟩ := hcut
    cases kq with
    | zero => exact absurd HA.out (by simp [codec_Get.j0])
    | succ kj1 =>
      have H := HA.out
      clear HA
      simp only [codec_Get.j0] at H
      by_cases c4 : x13_1 = true
      · subst c4
        have H1 : (some (0, some 1)) = some (r1, r2) := by rw [if_pos rfl] at H; exact H
        clear H
        have H := H1
        clear H1
        simp only [Option.some.injEq, Prod.mk.injEq] at H
        obtain ⟨rfl, rfl⟩ := H
        have hx5 : w.cell? ⟨4, 0, none⟩ = some (errW E (some 1)) := Glob.c4 (by repeat (first | exact HG.out | exact (HG.out.drewN _) | exact HG.out.drew | (with_reducible refine Glob.drewN ?_ _) | (with_reducible refine Glob.drew ?_) | (with_reducible refine Glob.alloc ?_ _)))
        simp only [errW_some] at hx5
        go_wp2
        repeat (go_quiet (fail); try go_wp2)
        go_ret2
        exact ⟨by first | rfl | (simp; done) | (simp [*]; done), by repeat (first | exact Drawn0.refl _ | apply Drawn0.step)⟩
      · replace c4 := Bool.eq_false_iff.mpr c4
        subst c4
        have H1 : (codec_Get.l0 kj1 l0 0 (l0.length : Int) 0) = some (r1, r2) := by rw [if_neg (show ¬ (false = true) by decide)] at H; exact H
        clear H
        have H := H1
        clear H1
        have H' := Aside0.mk H
        clear H
        go_wp2
        repeat (go_quiet (fail); try go_wp2)
        go_loopg [4, 17] kj1 (fun kq v4 v17 w' => ∃ (x4_2 : Int) (x17_2 : Int), v4 = .int .u64 x4_2 ∧ v17 = .int .i64 x17_2 ∧ Aside0 (codec_Get.l0 kq l0 x4_2 (l0.length : Int) x17_2 = some (r1, r2)) ∧ Aside0 (kq ≤ kj1) ∧ Drawn0 w w')
        case atStart => exact ⟨(0), (0), (by first | rfl | (simp; done) | (simp [*]; done)), (by first | rfl | (simp; done) | (simp [*]; done)), H', ⟨Nat.le_refl _⟩, by repeat (first | exact Drawn0.refl _ | apply Drawn0.step)⟩
        case round =>
          clear H'
          try clear c1
          try clear c2
          try clear p2
          try clear c3
          try clear c3b0
          try clear c3b1
          try clear c4
          try clear hx5
          try clear p2
          obtain ⟨x4_2, x17_2, rfl, rfl, HA, HK2, ⟨m2, rfl⟩⟩ := hrel
          cases gk with
          | zero => exact absurd HA.out (by simp [codec_Get.l0])
          | succ k2 =>
            have H := HA.out
            clear HA
            simp only [codec_Get.l0] at H
            by_cases c6 : x17_2 < (l0.length : Int)
            · rw [if_pos c6] at H
              have c6b0 : decide (x17_2 < (l0.length : Int)) = true := decide_eq_true c6
              clear c6
              by_cases c7 : 0 ≤ x17_2
              · rw [if_pos c7] at H
                have c7b0 : decide (0 ≤ x17_2) = true := decide_eq_true c7
                clear c7
                by_cases c8 : x17_2 < (l0.length : Int)
                · rw [if_pos c8] at H
                  have c8b0 : decide (x17_2 < (l0.length : Int)) = true := decide_eq_true c8
                  clear c8
                  have H' := Aside0.mk H
                  clear H
                  have p104 : 0 ≤ (x17_2 : Int) := of_decide_eq_true (by first | (with_reducible assumption) | assumption)
                  have q104 : x17_2 < (l0.length : Int) := of_decide_eq_true (by first | (with_reducible assumption) | assumption)
                  obtain ⟨ad104, e104, hx104_0⟩ := Kd.at_int HR0.out x17_2 p104 q104
                  cases e104
                  replace p104 := eq_true p104
                  replace q104 := eq_true q104
                  go_wp2
                  repeat (go_quiet (fail); try go_wp2)
                  go_roundg k2
                  case measure => have := HJ1.out; have := HK2.out; omega
                  case rel => exact ⟨(Go.bits .or .u64 (IntKind.u64.wrap (x4_2 * 256)) (IntKind.u64.wrap (rd l0 x17_2))), (wrap64 (x17_2 + 1)), (by first | rfl | (simp; done) | (simp [*]; done)), (by first | rfl | (simp; done) | (simp [*]; done)), H', ⟨by have := HJ1.out; have := HK2.out; omega⟩, by repeat (first | exact Drawn0.refl _ | apply Drawn0.step)⟩
                · rw [if_neg c8] at H
                  exact absurd H (by simp)
              · rw [if_neg c7] at H
                exact absurd H (by simp)
            · rw [if_neg c6] at H
              have c6b0 : decide (x17_2 < (l0.length : Int)) = false := decide_eq_false c6
              clear c6
              simp only [Option.some.injEq, Prod.mk.injEq] at H
              obtain ⟨rfl, rfl⟩ := H
              go_wp2
              repeat (go_quiet (fail); try go_wp2)
              go_ret2
              exact ⟨by first | rfl | (simp; done) | (simp [*]; done), by repeat (first | exact Drawn0.refl _ | apply Drawn0.step)⟩

/-! ### codec_Put: function 25 -/
def codec_Put.row (a0 : Int) (j : Nat) : List Int := [if 8 ≤ j then a0 / 72057594037927936 % 256 else 0, if 7 ≤ j then a0 / 281474976710656 % 256 else 0, if 6 ≤ j then a0 / 1099511627776 % 256 else 0, if 5 ≤ j then a0 / 4294967296 % 256 else 0, if 4 ≤ j then a0 / 16777216 % 256 else 0, if 3 ≤ j then a0 / 65536 % 256 else 0, if 2 ≤ j then a0 / 256 % 256 else 0, if 1 ≤ j then a0 % 256 else 0]
def codec_Put.f (a0 a1 : Int) : Option (List Int × Option Int) :=
  if 0 ≤ a0 ∧ a0 < 18446744073709551616 then
    if a1 < 1 ∨ 8 < a1 ∨ (a1 < 8 ∧ a0 / 2 ^ (8 * a1).toNat ≠ 0) then some ([], some 1) else some ((codec_Put.row a0 8).drop (8 - a1.toNat), none)
  else none
set_option maxHeartbeats 8000000 in
set_option maxRecDepth 100000 in
theorem codec_Put.refuse (E : Int → Addr) (a0 a1 : Int) (w : World) (hG : Glob E w) (h0 : 0 ≤ a0) (h : a1 < 1 ∨ 8 < a1 ∨ (a1 < 8 ∧ a0 / 2 ^ (8 * a1).toNat ≠ 0)) :
    Calls Tryd.prog 25 #[.int .u64 a0, .int .i64 a1] w fun e w' => e = .returned (.tuple #[.slice none 0 0, errW E (some 1)]) ∧ Below w.heap.size w w' := by
  have hu48 := Tryd.underlying48
  have HB := Aside0.mk (Below.refl w.heap.size w)
  have hx2 : w.cell? ⟨4, 0, none⟩ = some (errW E (some 1)) := Glob.c4 hG
  simp only [errW_some] at hx2
  by_cases h1 : a1 < 1
  · have hb : decide (a1 < 1) = true := decide_eq_true h1
    go_enter Tryd.func25, Tryd.ntmps25
    go_wp2
    repeat (go_quiet (fail); try go_wp2)
    go_ret2
    exact ⟨rfl, by first | exact pw_below_drewN HB.out _ | (repeat (first | exact HB.out | apply pw_below_drewN | apply below_drew1))⟩
  · have hb : decide (a1 < 1) = false := decide_eq_false h1
    by_cases h2 : 8 < a1
    · have hb2 : decide (a1 > 8) = true := decide_eq_true h2
      have hb3 : decide (a1 < 8) = false := decide_eq_false (by omega)
      go_enter Tryd.func25, Tryd.ntmps25
      go_wp2
      repeat (go_quiet (fail); try go_wp2)
      go_ret2
      exact ⟨rfl, by first | exact pw_below_drewN HB.out _ | (repeat (first | exact HB.out | apply pw_below_drewN | apply below_drew1))⟩
    · obtain ⟨h3, h4⟩ : a1 < 8 ∧ a0 / 2 ^ (8 * a1).toNat ≠ 0 := by omega
      have : a1 = 1 ∨ a1 = 2 ∨ a1 = 3 ∨ a1 = 4 ∨ a1 = 5 ∨ a1 = 6 ∨ a1 = 7 := by omega
      rcases this with rfl | rfl | rfl | rfl | rfl | rfl | rfl
      · have h5 : (a0 / 256 != 0) = true := bne_iff_ne.mpr h4
        go_enter Tryd.func25, Tryd.ntmps25
        go_wp2
        repeat (go_quiet (fail); try go_wp2)
        go_ret2
        exact ⟨rfl, by first | exact pw_below_drewN HB.out _ | (repeat (first | exact HB.out | apply pw_below_drewN | apply below_drew1))⟩
      · have h5 : (a0 / 65536 != 0) = true := bne_iff_ne.mpr h4
        go_enter Tryd.func25, Tryd.ntmps25
        go_wp2
        repeat (go_quiet (fail); try go_wp2)
        go_ret2
        exact ⟨rfl, by first | exact pw_below_drewN HB.out _ | (repeat (first | exact HB.out | apply pw_below_drewN | apply below_drew1))⟩
      · have h5 : (a0 / 16777216 != 0) = true := bne_iff_ne.mpr h4
        go_enter Tryd.func25, Tryd.ntmps25
        go_wp2
        repeat (go_quiet (fail); try go_wp2)
        go_ret2
        exact ⟨rfl, by first | exact pw_below_drewN HB.out _ | (repeat (first | exact HB.out | apply pw_below_drewN | apply below_drew1))⟩
      · have h5 : (a0 / 4294967296 != 0) = true := bne_iff_ne.mpr h4
        go_enter Tryd.func25, Tryd.ntmps25
        go_wp2
        repeat (go_quiet (fail); try go_wp2)
        go_ret2
        exact ⟨rfl, by first | exact pw_below_drewN HB.out _ | (repeat (first | exact HB.out | apply pw_below_drewN | apply below_drew1))⟩
      · have h5 : (a0 / 1099511627776 != 0) = true := bne_iff_ne.mpr h4
        go_enter Tryd.func25, Tryd.ntmps25
        go_wp2
        repeat (go_quiet (fail); try go_wp2)
        go_ret2
        exact ⟨rfl, by first | exact pw_below_drewN HB.out _ | (repeat (first | exact HB.out | apply pw_below_drewN | apply below_drew1))⟩
      · have h5 : (a0 / 281474976710656 != 0) = true := bne_iff_ne.mpr h4
        go_enter Tryd.func25, Tryd.ntmps25
        go_wp2
        repeat (go_quiet (fail); try go_wp2)
        go_ret2
        exact ⟨rfl, by first | exact pw_below_drewN HB.out _ | (repeat (first | exact HB.out | apply pw_below_drewN | apply below_drew1))⟩
      · have h5 : (a0 / 72057594037927936 != 0) = true := bne_iff_ne.mpr h4
        go_enter Tryd.func25, Tryd.ntmps25
        go_wp2
        repeat (go_quiet (fail); try go_wp2)
        go_ret2
        exact ⟨rfl, by first | exact pw_below_drewN HB.out _ | (repeat (first | exact HB.out | apply pw_below_drewN | apply below_drew1))⟩
theorem sz5_ : (Tryd.prog.info? 5).map (·.size) = some 1 := by kernel_rfl
def codec_Put.cells (a0 : Int) (j : Nat) : Array Value := ((codec_Put.row a0 j).map (Value.int .u8)).toArray
/-- A block that holds numbers, one a cell, is a row of the call's own. -/
theorem R_of_block_ {k : IntKind} {e : Nat} {w : World} {base g n : Nat} {xs : List Int} (hg : w.heap[g]? = some (.cells (xs.map (Value.int k)).toArray e (0, 0))) (hb : base ≤ g) (hn : xs.length = n) (hl : n ≤ maxLen) :
    Kd.R (Kd.int k) e w base (fun _ => True) (.slice (some ⟨g, 0, none⟩) n n) xs := by
  subst hn
  refine ⟨fun _ _ => trivial, xs.map (Value.int k), ⟨by simp [Kd.int, Kd.scalar], .inr ⟨g, xs.length, _, rfl, hb, hg, Nat.le_refl _, hl, by simp [Kd.int, Kd.scalar], ?_⟩⟩, ?_⟩
  · simp only [Kd.int, Kd.scalar, Nat.mul_one]; exact List.take_of_length_le (by simp)
  · exact Kd.reps_scalar (enc := Value.int k) xs
theorem codec_Put.made_ (n : Nat) (hn : n ≤ 8) (W : World) : (Instr.makeSlice 28 (.int .i64 (n : Int)) (.int .i64 (n : Int))).run Tryd.prog W = .ok (.slice (some ⟨W.heap.size, 0, none⟩) n n) (W.alloc (.cells (List.replicate n (Value.int .u8 0)).toArray 5)) := by
  have h := run_make_row' (P := Tryd.prog) 28 5 (.int .u8 0) 1 Tryd.underlying28 info5 rfl .i64 .i64 n (by omega) (by omega) W
  rw [h, show madeCells #[Value.int .u8 0] n = (List.replicate n (Value.int .u8 0)).toArray by rw [← toList_madeCells_one]]
theorem alloc2_new_ (w : World) (o p : Obj) : ((w.alloc o).alloc p).heap[w.heap.size + 1]? = some p := by
  have h := heap_alloc_new (w.alloc o) p
  rwa [show (w.alloc o).heap.size = w.heap.size + 1 by simp] at h
theorem alloc2_old_ (w : World) (o p : Obj) : ((w.alloc o).alloc p).heap[w.heap.size]? = some o :=
  ((below_alloc (Below.refl _ (w.alloc o)) p).block w.heap.size (by simp)).trans (heap_alloc_new w o)
theorem codec_Put.copied_ (W : World) (a0 : Int) (n : Nat) (hn : n ≤ 8) : 
    (Builtin.copy_ #[28, 28] 3 #[.slice (some ⟨W.heap.size + 1, 0, none⟩) n n, .slice (some ⟨W.heap.size, 8 - n, none⟩) n n]).run Tryd.prog ((W.alloc (.cells (codec_Put.cells a0 8) 70)).alloc (.cells (List.replicate n (Value.int .u8 0)).toArray 5)) =
      .ok (.int .i64 n) (((W.alloc (.cells (codec_Put.cells a0 8) 70)).alloc (.cells (List.replicate n (Value.int .u8 0)).toArray 5)).setRow (W.heap.size + 1) (((codec_Put.row a0 8).drop (8 - n)).map (Value.int .u8)).toArray) := by
  obtain ⟨L, hL⟩ : ∃ L, L = codec_Put.row a0 8 := ⟨_, rfl⟩
  have hlen : L.length = 8 := by rw [hL]; rfl
  have hcl : codec_Put.cells a0 8 = (L.map (Value.int .u8)).toArray := by rw [hL]; rfl
  rw [hcl, ← hL]
  clear hcl hL
  have h := run_copy_row (P := Tryd.prog) ((W.alloc (.cells (L.map (Value.int .u8)).toArray 70)).alloc (.cells (List.replicate n (Value.int .u8 0)).toArray 5)) 28 28 3 5 (W.heap.size + 1) 0 n n ⟨W.heap.size, 8 - n, none⟩ n n (List.replicate n (Value.int .u8 0)).toArray 5 ((L.drop (8 - n)).map (Value.int .u8)) Tryd.underlying28 sz5_
    (alloc2_new_ _ _ _) (by simp only [List.length_map, List.length_drop, hlen]; simp; omega) ?_ (by simp only [List.length_map, List.length_drop, hlen]; simp; omega) (by intro v hv; obtain ⟨x, _, rfl⟩ := List.mem_map.1 hv; rfl)
  · rw [h]
    have e1 : ((L.drop (8 - n)).map (Value.int .u8)).length = n := by simp only [List.length_map, List.length_drop, hlen]; omega
    rw [e1, List.take_zero, List.nil_append, Nat.zero_add, List.drop_of_length_le (show (List.replicate n (Value.int .u8 0)).toArray.toList.length ≤ n by simp), List.append_nil]
    rfl
  · intro j v hj
    have hb := alloc2_old_ W (.cells (L.map (Value.int .u8)).toArray 70) (.cells (List.replicate n (Value.int .u8 0)).toArray 5)
    rw [show (⟨W.heap.size, 8 - n, none⟩ : Addr).add j = ⟨W.heap.size, 8 - n + j, none⟩ by unfold Addr.add; split <;> simp_all]
    simp only [World.cell?, hb, List.getElem?_toArray]
    simp only [List.getElem?_map, List.getElem?_drop] at hj
    simpa only [Option.isSome, Bool.false_eq_true, if_false, List.getElem?_map] using hj
set_option maxHeartbeats 8000000 in
set_option maxRecDepth 100000 in
theorem codec_Put.good (E : Int → Addr) (a0 a1 : Int) (w : World) (h0 : 0 ≤ a0) (h1 : a0 < 18446744073709551616) (h : ¬ (a1 < 1 ∨ 8 < a1 ∨ (a1 < 8 ∧ a0 / 2 ^ (8 * a1).toNat ≠ 0))) :
    Calls Tryd.prog 25 #[.int .u64 a0, .int .i64 a1] w fun e w' => ∃ v0_ : Value, e = .returned (.tuple #[v0_, .nilIface]) ∧ Kd.R (Kd.int .u8) 5 w' w.heap.size (fun _ => True) v0_ ((codec_Put.row a0 8).drop (8 - a1.toNat)) ∧ Below w.heap.size w w' := by
  have hx : a0 / 72057594037927936 % 256 = a0 / 72057594037927936 := by omega
  have : a1 = 1 ∨ a1 = 2 ∨ a1 = 3 ∨ a1 = 4 ∨ a1 = 5 ∨ a1 = 6 ∨ a1 = 7 ∨ a1 = 8 := by omega
  rcases this with rfl | rfl | rfl | rfl | rfl | rfl | rfl | rfl
  · have h5 : (a0 / 256 != 0) = false := by
      rw [bne_eq_false_iff_eq]
      by_cases e : a0 / 2 ^ ((8 * 1 : Int)).toNat = 0
      · exact e
      · exact absurd (.inr (.inr ⟨by omega, e⟩)) h
    clear h
    have hmk : ∀ W : World, (Instr.makeSlice 28 (.int .i64 1) (.int .i64 1)).run Tryd.prog W = .ok (.slice (some ⟨W.heap.size, 0, none⟩) 1 1) (W.alloc (.cells #[.int .u8 0] 5)) := codec_Put.made_ 1 (by omega)
    have hcp : (Builtin.copy_ #[28, 28] 3 #[.slice (some ⟨w.heap.size + 1, 0, none⟩) 1 1, .slice (some ⟨w.heap.size, 7, none⟩) 1 1]).run Tryd.prog ((w.alloc (.cells (codec_Put.cells a0 8) 70)).alloc (.cells #[.int .u8 0] 5)) =
      .ok (.int .i64 1) (((w.alloc (.cells (codec_Put.cells a0 8) 70)).alloc (.cells #[.int .u8 0] 5)).setRow (w.heap.size + 1) (((codec_Put.row a0 8).drop 7).map (Value.int .u8)).toArray) := codec_Put.copied_ w a0 1 (by omega)
    go_enter Tryd.func25, Tryd.ntmps25
    go_wp2
    go_loopg [7, 27] 9 (fun kq v7 v27 w' => ∃ j : Nat, v27 = .int .i64 (j : Int) ∧ Aside0 (j + kq = 9 ∧ j ≤ 8) ∧ w' = w.alloc (.cells (codec_Put.cells a0 j) 70))
    case atStart => exact ⟨0, rfl, ⟨by omega⟩, rfl⟩
    case round =>
      obtain ⟨j, rfl, hj, rfl⟩ := hrel
      cases gk with
      | zero => exact absurd hj.out (by omega)
      | succ k1 =>
        have : j = 0 ∨ j = 1 ∨ j = 2 ∨ j = 3 ∨ j = 4 ∨ j = 5 ∨ j = 6 ∨ j = 7 ∨ j = 8 := by have := hj.out; omega
        rcases this with rfl | rfl | rfl | rfl | rfl | rfl | rfl | rfl | rfl
        · go_wp2
          go_roundg k1
          case measure => omega
          case rel => exact ⟨1, rfl, ⟨by have := hj.out; omega⟩, by simp [codec_Put.cells, codec_Put.row]⟩
        · go_wp2
          go_roundg k1
          case measure => omega
          case rel => exact ⟨2, rfl, ⟨by have := hj.out; omega⟩, by simp [codec_Put.cells, codec_Put.row]⟩
        · go_wp2
          go_roundg k1
          case measure => omega
          case rel => exact ⟨3, rfl, ⟨by have := hj.out; omega⟩, by simp [codec_Put.cells, codec_Put.row]⟩
        · go_wp2
          go_roundg k1
          case measure => omega
          case rel => exact ⟨4, rfl, ⟨by have := hj.out; omega⟩, by simp [codec_Put.cells, codec_Put.row]⟩
        · go_wp2
          go_roundg k1
          case measure => omega
          case rel => exact ⟨5, rfl, ⟨by have := hj.out; omega⟩, by simp [codec_Put.cells, codec_Put.row]⟩
        · go_wp2
          go_roundg k1
          case measure => omega
          case rel => exact ⟨6, rfl, ⟨by have := hj.out; omega⟩, by simp [codec_Put.cells, codec_Put.row]⟩
        · go_wp2
          go_roundg k1
          case measure => omega
          case rel => exact ⟨7, rfl, ⟨by have := hj.out; omega⟩, by simp [codec_Put.cells, codec_Put.row]⟩
        · go_wp2
          go_roundg k1
          case measure => omega
          case rel => exact ⟨8, rfl, ⟨by have := hj.out; omega⟩, by simp [codec_Put.cells, codec_Put.row, hx]⟩
        · go_wp2
          go_ret2
          refine ⟨_, rfl, R_of_block_ (n := 1) (setRow_heap _ _ _ _ 5 _ (alloc2_new_ _ _ _)) (by omega) rfl (by decide), below_setRow (below_alloc (below_alloc (Below.refl _ _) _) _) (by omega) _⟩
  · have h5 : (a0 / 65536 != 0) = false := by
      rw [bne_eq_false_iff_eq]
      by_cases e : a0 / 2 ^ ((8 * 2 : Int)).toNat = 0
      · exact e
      · exact absurd (.inr (.inr ⟨by omega, e⟩)) h
    clear h
    have hmk : ∀ W : World, (Instr.makeSlice 28 (.int .i64 2) (.int .i64 2)).run Tryd.prog W = .ok (.slice (some ⟨W.heap.size, 0, none⟩) 2 2) (W.alloc (.cells #[.int .u8 0, .int .u8 0] 5)) := codec_Put.made_ 2 (by omega)
    have hcp : (Builtin.copy_ #[28, 28] 3 #[.slice (some ⟨w.heap.size + 1, 0, none⟩) 2 2, .slice (some ⟨w.heap.size, 6, none⟩) 2 2]).run Tryd.prog ((w.alloc (.cells (codec_Put.cells a0 8) 70)).alloc (.cells #[.int .u8 0, .int .u8 0] 5)) =
      .ok (.int .i64 2) (((w.alloc (.cells (codec_Put.cells a0 8) 70)).alloc (.cells #[.int .u8 0, .int .u8 0] 5)).setRow (w.heap.size + 1) (((codec_Put.row a0 8).drop 6).map (Value.int .u8)).toArray) := codec_Put.copied_ w a0 2 (by omega)
    go_enter Tryd.func25, Tryd.ntmps25
    go_wp2
    go_loopg [7, 27] 9 (fun kq v7 v27 w' => ∃ j : Nat, v27 = .int .i64 (j : Int) ∧ Aside0 (j + kq = 9 ∧ j ≤ 8) ∧ w' = w.alloc (.cells (codec_Put.cells a0 j) 70))
    case atStart => exact ⟨0, rfl, ⟨by omega⟩, rfl⟩
    case round =>
      obtain ⟨j, rfl, hj, rfl⟩ := hrel
      cases gk with
      | zero => exact absurd hj.out (by omega)
      | succ k1 =>
        have : j = 0 ∨ j = 1 ∨ j = 2 ∨ j = 3 ∨ j = 4 ∨ j = 5 ∨ j = 6 ∨ j = 7 ∨ j = 8 := by have := hj.out; omega
        rcases this with rfl | rfl | rfl | rfl | rfl | rfl | rfl | rfl | rfl
        · go_wp2
          go_roundg k1
          case measure => omega
          case rel => exact ⟨1, rfl, ⟨by have := hj.out; omega⟩, by simp [codec_Put.cells, codec_Put.row]⟩
        · go_wp2
          go_roundg k1
          case measure => omega
          case rel => exact ⟨2, rfl, ⟨by have := hj.out; omega⟩, by simp [codec_Put.cells, codec_Put.row]⟩
        · go_wp2
          go_roundg k1
          case measure => omega
          case rel => exact ⟨3, rfl, ⟨by have := hj.out; omega⟩, by simp [codec_Put.cells, codec_Put.row]⟩
        · go_wp2
          go_roundg k1
          case measure => omega
          case rel => exact ⟨4, rfl, ⟨by have := hj.out; omega⟩, by simp [codec_Put.cells, codec_Put.row]⟩
        · go_wp2
          go_roundg k1
          case measure => omega
          case rel => exact ⟨5, rfl, ⟨by have := hj.out; omega⟩, by simp [codec_Put.cells, codec_Put.row]⟩
        · go_wp2
          go_roundg k1
          case measure => omega
          case rel => exact ⟨6, rfl, ⟨by have := hj.out; omega⟩, by simp [codec_Put.cells, codec_Put.row]⟩
        · go_wp2
          go_roundg k1
          case measure => omega
          case rel => exact ⟨7, rfl, ⟨by have := hj.out; omega⟩, by simp [codec_Put.cells, codec_Put.row]⟩
        · go_wp2
          go_roundg k1
          case measure => omega
          case rel => exact ⟨8, rfl, ⟨by have := hj.out; omega⟩, by simp [codec_Put.cells, codec_Put.row, hx]⟩
        · go_wp2
          go_ret2
          refine ⟨_, rfl, R_of_block_ (n := 2) (setRow_heap _ _ _ _ 5 _ (alloc2_new_ _ _ _)) (by omega) rfl (by decide), below_setRow (below_alloc (below_alloc (Below.refl _ _) _) _) (by omega) _⟩
  · have h5 : (a0 / 16777216 != 0) = false := by
      rw [bne_eq_false_iff_eq]
      by_cases e : a0 / 2 ^ ((8 * 3 : Int)).toNat = 0
      · exact e
      · exact absurd (.inr (.inr ⟨by omega, e⟩)) h
    clear h
    have hmk : ∀ W : World, (Instr.makeSlice 28 (.int .i64 3) (.int .i64 3)).run Tryd.prog W = .ok (.slice (some ⟨W.heap.size, 0, none⟩) 3 3) (W.alloc (.cells #[.int .u8 0, .int .u8 0, .int .u8 0] 5)) := codec_Put.made_ 3 (by omega)
    have hcp : (Builtin.copy_ #[28, 28] 3 #[.slice (some ⟨w.heap.size + 1, 0, none⟩) 3 3, .slice (some ⟨w.heap.size, 5, none⟩) 3 3]).run Tryd.prog ((w.alloc (.cells (codec_Put.cells a0 8) 70)).alloc (.cells #[.int .u8 0, .int .u8 0, .int .u8 0] 5)) =
      .ok (.int .i64 3) (((w.alloc (.cells (codec_Put.cells a0 8) 70)).alloc (.cells #[.int .u8 0, .int .u8 0, .int .u8 0] 5)).setRow (w.heap.size + 1) (((codec_Put.row a0 8).drop 5).map (Value.int .u8)).toArray) := codec_Put.copied_ w a0 3 (by omega)
    go_enter Tryd.func25, Tryd.ntmps25
    go_wp2
    go_loopg [7, 27] 9 (fun kq v7 v27 w' => ∃ j : Nat, v27 = .int .i64 (j : Int) ∧ Aside0 (j + kq = 9 ∧ j ≤ 8) ∧ w' = w.alloc (.cells (codec_Put.cells a0 j) 70))
    case atStart => exact ⟨0, rfl, ⟨by omega⟩, rfl⟩
    case round =>
      obtain ⟨j, rfl, hj, rfl⟩ := hrel
      cases gk with
      | zero => exact absurd hj.out (by omega)
      | succ k1 =>
        have : j = 0 ∨ j = 1 ∨ j = 2 ∨ j = 3 ∨ j = 4 ∨ j = 5 ∨ j = 6 ∨ j = 7 ∨ j = 8 := by have := hj.out; omega
        rcases this with rfl | rfl | rfl | rfl | rfl | rfl | rfl | rfl | rfl
        · go_wp2
          go_roundg k1
          case measure => omega
          case rel => exact ⟨1, rfl, ⟨by have := hj.out; omega⟩, by simp [codec_Put.cells, codec_Put.row]⟩
        · go_wp2
          go_roundg k1
          case measure => omega
          case rel => exact ⟨2, rfl, ⟨by have := hj.out; omega⟩, by simp [codec_Put.cells, codec_Put.row]⟩
        · go_wp2
          go_roundg k1
          case measure => omega
          case rel => exact ⟨3, rfl, ⟨by have := hj.out; omega⟩, by simp [codec_Put.cells, codec_Put.row]⟩
        · go_wp2
          go_roundg k1
          case measure => omega
          case rel => exact ⟨4, rfl, ⟨by have := hj.out; omega⟩, by simp [codec_Put.cells, codec_Put.row]⟩
        · go_wp2
          go_roundg k1
          case measure => omega
          case rel => exact ⟨5, rfl, ⟨by have := hj.out; omega⟩, by simp [codec_Put.cells, codec_Put.row]⟩
        · go_wp2
          go_roundg k1
          case measure => omega
          case rel => exact ⟨6, rfl, ⟨by have := hj.out; omega⟩, by simp [codec_Put.cells, codec_Put.row]⟩
        · go_wp2
          go_roundg k1
          case measure => omega
          case rel => exact ⟨7, rfl, ⟨by have := hj.out; omega⟩, by simp [codec_Put.cells, codec_Put.row]⟩
        · go_wp2
          go_roundg k1
          case measure => omega
          case rel => exact ⟨8, rfl, ⟨by have := hj.out; omega⟩, by simp [codec_Put.cells, codec_Put.row, hx]⟩
        · go_wp2
          go_ret2
          refine ⟨_, rfl, R_of_block_ (n := 3) (setRow_heap _ _ _ _ 5 _ (alloc2_new_ _ _ _)) (by omega) rfl (by decide), below_setRow (below_alloc (below_alloc (Below.refl _ _) _) _) (by omega) _⟩
  · have h5 : (a0 / 4294967296 != 0) = false := by
      rw [bne_eq_false_iff_eq]
      by_cases e : a0 / 2 ^ ((8 * 4 : Int)).toNat = 0
      · exact e
      · exact absurd (.inr (.inr ⟨by omega, e⟩)) h
    clear h
    have hmk : ∀ W : World, (Instr.makeSlice 28 (.int .i64 4) (.int .i64 4)).run Tryd.prog W = .ok (.slice (some ⟨W.heap.size, 0, none⟩) 4 4) (W.alloc (.cells #[.int .u8 0, .int .u8 0, .int .u8 0, .int .u8 0] 5)) := codec_Put.made_ 4 (by omega)
    have hcp : (Builtin.copy_ #[28, 28] 3 #[.slice (some ⟨w.heap.size + 1, 0, none⟩) 4 4, .slice (some ⟨w.heap.size, 4, none⟩) 4 4]).run Tryd.prog ((w.alloc (.cells (codec_Put.cells a0 8) 70)).alloc (.cells #[.int .u8 0, .int .u8 0, .int .u8 0, .int .u8 0] 5)) =
      .ok (.int .i64 4) (((w.alloc (.cells (codec_Put.cells a0 8) 70)).alloc (.cells #[.int .u8 0, .int .u8 0, .int .u8 0, .int .u8 0] 5)).setRow (w.heap.size + 1) (((codec_Put.row a0 8).drop 4).map (Value.int .u8)).toArray) := codec_Put.copied_ w a0 4 (by omega)
    go_enter Tryd.func25, Tryd.ntmps25
    go_wp2
    go_loopg [7, 27] 9 (fun kq v7 v27 w' => ∃ j : Nat, v27 = .int .i64 (j : Int) ∧ Aside0 (j + kq = 9 ∧ j ≤ 8) ∧ w' = w.alloc (.cells (codec_Put.cells a0 j) 70))
    case atStart => exact ⟨0, rfl, ⟨by omega⟩, rfl⟩
    case round =>
      obtain ⟨j, rfl, hj, rfl⟩ := hrel
      cases gk with
      | zero => exact absurd hj.out (by omega)
      | succ k1 =>
        have : j = 0 ∨ j = 1 ∨ j = 2 ∨ j = 3 ∨ j = 4 ∨ j = 5 ∨ j = 6 ∨ j = 7 ∨ j = 8 := by have := hj.out; omega
        rcases this with rfl | rfl | rfl | rfl | rfl | rfl | rfl | rfl | rfl
        · go_wp2
          go_roundg k1
          case measure => omega
          case rel => exact ⟨1, rfl, ⟨by have := hj.out; omega⟩, by simp [codec_Put.cells, codec_Put.row]⟩
        · go_wp2
          go_roundg k1
          case measure => omega
          case rel => exact ⟨2, rfl, ⟨by have := hj.out; omega⟩, by simp [codec_Put.cells, codec_Put.row]⟩
        · go_wp2
          go_roundg k1
          case measure => omega
          case rel => exact ⟨3, rfl, ⟨by have := hj.out; omega⟩, by simp [codec_Put.cells, codec_Put.row]⟩
        · go_wp2
          go_roundg k1
          case measure => omega
          case rel => exact ⟨4, rfl, ⟨by have := hj.out; omega⟩, by simp [codec_Put.cells, codec_Put.row]⟩
        · go_wp2
          go_roundg k1
          case measure => omega
          case rel => exact ⟨5, rfl, ⟨by have := hj.out; omega⟩, by simp [codec_Put.cells, codec_Put.row]⟩
        · go_wp2
          go_roundg k1
          case measure => omega
          case rel => exact ⟨6, rfl, ⟨by have := hj.out; omega⟩, by simp [codec_Put.cells, codec_Put.row]⟩
        · go_wp2
          go_roundg k1
          case measure => omega
          case rel => exact ⟨7, rfl, ⟨by have := hj.out; omega⟩, by simp [codec_Put.cells, codec_Put.row]⟩
        · go_wp2
          go_roundg k1
          case measure => omega
          case rel => exact ⟨8, rfl, ⟨by have := hj.out; omega⟩, by simp [codec_Put.cells, codec_Put.row, hx]⟩
        · go_wp2
          go_ret2
          refine ⟨_, rfl, R_of_block_ (n := 4) (setRow_heap _ _ _ _ 5 _ (alloc2_new_ _ _ _)) (by omega) rfl (by decide), below_setRow (below_alloc (below_alloc (Below.refl _ _) _) _) (by omega) _⟩
  · have h5 : (a0 / 1099511627776 != 0) = false := by
      rw [bne_eq_false_iff_eq]
      by_cases e : a0 / 2 ^ ((8 * 5 : Int)).toNat = 0
      · exact e
      · exact absurd (.inr (.inr ⟨by omega, e⟩)) h
    clear h
    have hmk : ∀ W : World, (Instr.makeSlice 28 (.int .i64 5) (.int .i64 5)).run Tryd.prog W = .ok (.slice (some ⟨W.heap.size, 0, none⟩) 5 5) (W.alloc (.cells #[.int .u8 0, .int .u8 0, .int .u8 0, .int .u8 0, .int .u8 0] 5)) := codec_Put.made_ 5 (by omega)
    have hcp : (Builtin.copy_ #[28, 28] 3 #[.slice (some ⟨w.heap.size + 1, 0, none⟩) 5 5, .slice (some ⟨w.heap.size, 3, none⟩) 5 5]).run Tryd.prog ((w.alloc (.cells (codec_Put.cells a0 8) 70)).alloc (.cells #[.int .u8 0, .int .u8 0, .int .u8 0, .int .u8 0, .int .u8 0] 5)) =
      .ok (.int .i64 5) (((w.alloc (.cells (codec_Put.cells a0 8) 70)).alloc (.cells #[.int .u8 0, .int .u8 0, .int .u8 0, .int .u8 0, .int .u8 0] 5)).setRow (w.heap.size + 1) (((codec_Put.row a0 8).drop 3).map (Value.int .u8)).toArray) := codec_Put.copied_ w a0 5 (by omega)
    go_enter Tryd.func25, Tryd.ntmps25
    go_wp2
    go_loopg [7, 27] 9 (fun kq v7 v27 w' => ∃ j : Nat, v27 = .int .i64 (j : Int) ∧ Aside0 (j + kq = 9 ∧ j ≤ 8) ∧ w' = w.alloc (.cells (codec_Put.cells a0 j) 70))
    case atStart => exact ⟨0, rfl, ⟨by omega⟩, rfl⟩
    case round =>
      obtain ⟨j, rfl, hj, rfl⟩ := hrel
      cases gk with
      | zero => exact absurd hj.out (by omega)
      | succ k1 =>
        have : j = 0 ∨ j = 1 ∨ j = 2 ∨ j = 3 ∨ j = 4 ∨ j = 5 ∨ j = 6 ∨ j = 7 ∨ j = 8 := by have := hj.out; omega
        rcases this with rfl | rfl | rfl | rfl | rfl | rfl | rfl | rfl | rfl
        · go_wp2
          go_roundg k1
          case measure => omega
          case rel => exact ⟨1, rfl, ⟨by have := hj.out; omega⟩, by simp [codec_Put.cells, codec_Put.row]⟩
        · go_wp2
          go_roundg k1
          case measure => omega
          case rel => exact ⟨2, rfl, ⟨by have := hj.out; omega⟩, by simp [codec_Put.cells, codec_Put.row]⟩
        · go_wp2
          go_roundg k1
          case measure => omega
          case rel => exact ⟨3, rfl, ⟨by have := hj.out; omega⟩, by simp [codec_Put.cells, codec_Put.row]⟩
        · go_wp2
          go_roundg k1
          case measure => omega
          case rel => exact ⟨4, rfl, ⟨by have := hj.out; omega⟩, by simp [codec_Put.cells, codec_Put.row]⟩
        · go_wp2
          go_roundg k1
          case measure => omega
          case rel => exact ⟨5, rfl, ⟨by have := hj.out; omega⟩, by simp [codec_Put.cells, codec_Put.row]⟩
        · go_wp2
          go_roundg k1
          case measure => omega
          case rel => exact ⟨6, rfl, ⟨by have := hj.out; omega⟩, by simp [codec_Put.cells, codec_Put.row]⟩
        · go_wp2
          go_roundg k1
          case measure => omega
          case rel => exact ⟨7, rfl, ⟨by have := hj.out; omega⟩, by simp [codec_Put.cells, codec_Put.row]⟩
        · go_wp2
          go_roundg k1
          case measure => omega
          case rel => exact ⟨8, rfl, ⟨by have := hj.out; omega⟩, by simp [codec_Put.cells, codec_Put.row, hx]⟩
        · go_wp2
          go_ret2
          refine ⟨_, rfl, R_of_block_ (n := 5) (setRow_heap _ _ _ _ 5 _ (alloc2_new_ _ _ _)) (by omega) rfl (by decide), below_setRow (below_alloc (below_alloc (Below.refl _ _) _) _) (by omega) _⟩
  · have h5 : (a0 / 281474976710656 != 0) = false := by
      rw [bne_eq_false_iff_eq]
      by_cases e : a0 / 2 ^ ((8 * 6 : Int)).toNat = 0
      · exact e
      · exact absurd (.inr (.inr ⟨by omega, e⟩)) h
    clear h
    have hmk : ∀ W : World, (Instr.makeSlice 28 (.int .i64 6) (.int .i64 6)).run Tryd.prog W = .ok (.slice (some ⟨W.heap.size, 0, none⟩) 6 6) (W.alloc (.cells #[.int .u8 0, .int .u8 0, .int .u8 0, .int .u8 0, .int .u8 0, .int .u8 0] 5)) := codec_Put.made_ 6 (by omega)
    have hcp : (Builtin.copy_ #[28, 28] 3 #[.slice (some ⟨w.heap.size + 1, 0, none⟩) 6 6, .slice (some ⟨w.heap.size, 2, none⟩) 6 6]).run Tryd.prog ((w.alloc (.cells (codec_Put.cells a0 8) 70)).alloc (.cells #[.int .u8 0, .int .u8 0, .int .u8 0, .int .u8 0, .int .u8 0, .int .u8 0] 5)) =
      .ok (.int .i64 6) (((w.alloc (.cells (codec_Put.cells a0 8) 70)).alloc (.cells #[.int .u8 0, .int .u8 0, .int .u8 0, .int .u8 0, .int .u8 0, .int .u8 0] 5)).setRow (w.heap.size + 1) (((codec_Put.row a0 8).drop 2).map (Value.int .u8)).toArray) := codec_Put.copied_ w a0 6 (by omega)
    go_enter Tryd.func25, Tryd.ntmps25
    go_wp2
    go_loopg [7, 27] 9 (fun kq v7 v27 w' => ∃ j : Nat, v27 = .int .i64 (j : Int) ∧ Aside0 (j + kq = 9 ∧ j ≤ 8) ∧ w' = w.alloc (.cells (codec_Put.cells a0 j) 70))
    case atStart => exact ⟨0, rfl, ⟨by omega⟩, rfl⟩
    case round =>
      obtain ⟨j, rfl, hj, rfl⟩ := hrel
      cases gk with
      | zero => exact absurd hj.out (by omega)
      | succ k1 =>
        have : j = 0 ∨ j = 1 ∨ j = 2 ∨ j = 3 ∨ j = 4 ∨ j = 5 ∨ j = 6 ∨ j = 7 ∨ j = 8 := by have := hj.out; omega
        rcases this with rfl | rfl | rfl | rfl | rfl | rfl | rfl | rfl | rfl
        · go_wp2
          go_roundg k1
          case measure => omega
          case rel => exact ⟨1, rfl, ⟨by have := hj.out; omega⟩, by simp [codec_Put.cells, codec_Put.row]⟩
        · go_wp2
          go_roundg k1
          case measure => omega
          case rel => exact ⟨2, rfl, ⟨by have := hj.out; omega⟩, by simp [codec_Put.cells, codec_Put.row]⟩
        · go_wp2
          go_roundg k1
          case measure => omega
          case rel => exact ⟨3, rfl, ⟨by have := hj.out; omega⟩, by simp [codec_Put.cells, codec_Put.row]⟩
        · go_wp2
          go_roundg k1
          case measure => omega
          case rel => exact ⟨4, rfl, ⟨by have := hj.out; omega⟩, by simp [codec_Put.cells, codec_Put.row]⟩
        · go_wp2
          go_roundg k1
          case measure => omega
          case rel => exact ⟨5, rfl, ⟨by have := hj.out; omega⟩, by simp [codec_Put.cells, codec_Put.row]⟩
        · go_wp2
          go_roundg k1
          case measure => omega
          case rel => exact ⟨6, rfl, ⟨by have := hj.out; omega⟩, by simp [codec_Put.cells, codec_Put.row]⟩
        · go_wp2
          go_roundg k1
          case measure => omega
          case rel => exact ⟨7, rfl, ⟨by have := hj.out; omega⟩, by simp [codec_Put.cells, codec_Put.row]⟩
        · go_wp2
          go_roundg k1
          case measure => omega
          case rel => exact ⟨8, rfl, ⟨by have := hj.out; omega⟩, by simp [codec_Put.cells, codec_Put.row, hx]⟩
        · go_wp2
          go_ret2
          refine ⟨_, rfl, R_of_block_ (n := 6) (setRow_heap _ _ _ _ 5 _ (alloc2_new_ _ _ _)) (by omega) rfl (by decide), below_setRow (below_alloc (below_alloc (Below.refl _ _) _) _) (by omega) _⟩
  · have h5 : (a0 / 72057594037927936 != 0) = false := by
      rw [bne_eq_false_iff_eq]
      by_cases e : a0 / 2 ^ ((8 * 7 : Int)).toNat = 0
      · exact e
      · exact absurd (.inr (.inr ⟨by omega, e⟩)) h
    clear h
    have hmk : ∀ W : World, (Instr.makeSlice 28 (.int .i64 7) (.int .i64 7)).run Tryd.prog W = .ok (.slice (some ⟨W.heap.size, 0, none⟩) 7 7) (W.alloc (.cells #[.int .u8 0, .int .u8 0, .int .u8 0, .int .u8 0, .int .u8 0, .int .u8 0, .int .u8 0] 5)) := codec_Put.made_ 7 (by omega)
    have hcp : (Builtin.copy_ #[28, 28] 3 #[.slice (some ⟨w.heap.size + 1, 0, none⟩) 7 7, .slice (some ⟨w.heap.size, 1, none⟩) 7 7]).run Tryd.prog ((w.alloc (.cells (codec_Put.cells a0 8) 70)).alloc (.cells #[.int .u8 0, .int .u8 0, .int .u8 0, .int .u8 0, .int .u8 0, .int .u8 0, .int .u8 0] 5)) =
      .ok (.int .i64 7) (((w.alloc (.cells (codec_Put.cells a0 8) 70)).alloc (.cells #[.int .u8 0, .int .u8 0, .int .u8 0, .int .u8 0, .int .u8 0, .int .u8 0, .int .u8 0] 5)).setRow (w.heap.size + 1) (((codec_Put.row a0 8).drop 1).map (Value.int .u8)).toArray) := codec_Put.copied_ w a0 7 (by omega)
    go_enter Tryd.func25, Tryd.ntmps25
    go_wp2
    go_loopg [7, 27] 9 (fun kq v7 v27 w' => ∃ j : Nat, v27 = .int .i64 (j : Int) ∧ Aside0 (j + kq = 9 ∧ j ≤ 8) ∧ w' = w.alloc (.cells (codec_Put.cells a0 j) 70))
    case atStart => exact ⟨0, rfl, ⟨by omega⟩, rfl⟩
    case round =>
      obtain ⟨j, rfl, hj, rfl⟩ := hrel
      cases gk with
      | zero => exact absurd hj.out (by omega)
      | succ k1 =>
        have : j = 0 ∨ j = 1 ∨ j = 2 ∨ j = 3 ∨ j = 4 ∨ j = 5 ∨ j = 6 ∨ j = 7 ∨ j = 8 := by have := hj.out; omega
        rcases this with rfl | rfl | rfl | rfl | rfl | rfl | rfl | rfl | rfl
        · go_wp2
          go_roundg k1
          case measure => omega
          case rel => exact ⟨1, rfl, ⟨by have := hj.out; omega⟩, by simp [codec_Put.cells, codec_Put.row]⟩
        · go_wp2
          go_roundg k1
          case measure => omega
          case rel => exact ⟨2, rfl, ⟨by have := hj.out; omega⟩, by simp [codec_Put.cells, codec_Put.row]⟩
        · go_wp2
          go_roundg k1
          case measure => omega
          case rel => exact ⟨3, rfl, ⟨by have := hj.out; omega⟩, by simp [codec_Put.cells, codec_Put.row]⟩
        · go_wp2
          go_roundg k1
          case measure => omega
          case rel => exact ⟨4, rfl, ⟨by have := hj.out; omega⟩, by simp [codec_Put.cells, codec_Put.row]⟩
        · go_wp2
          go_roundg k1
          case measure => omega
          case rel => exact ⟨5, rfl, ⟨by have := hj.out; omega⟩, by simp [codec_Put.cells, codec_Put.row]⟩
        · go_wp2
          go_roundg k1
          case measure => omega
          case rel => exact ⟨6, rfl, ⟨by have := hj.out; omega⟩, by simp [codec_Put.cells, codec_Put.row]⟩
        · go_wp2
          go_roundg k1
          case measure => omega
          case rel => exact ⟨7, rfl, ⟨by have := hj.out; omega⟩, by simp [codec_Put.cells, codec_Put.row]⟩
        · go_wp2
          go_roundg k1
          case measure => omega
          case rel => exact ⟨8, rfl, ⟨by have := hj.out; omega⟩, by simp [codec_Put.cells, codec_Put.row, hx]⟩
        · go_wp2
          go_ret2
          refine ⟨_, rfl, R_of_block_ (n := 7) (setRow_heap _ _ _ _ 5 _ (alloc2_new_ _ _ _)) (by omega) rfl (by decide), below_setRow (below_alloc (below_alloc (Below.refl _ _) _) _) (by omega) _⟩
  · clear h
    have hmk : ∀ W : World, (Instr.makeSlice 28 (.int .i64 8) (.int .i64 8)).run Tryd.prog W = .ok (.slice (some ⟨W.heap.size, 0, none⟩) 8 8) (W.alloc (.cells #[.int .u8 0, .int .u8 0, .int .u8 0, .int .u8 0, .int .u8 0, .int .u8 0, .int .u8 0, .int .u8 0] 5)) := codec_Put.made_ 8 (by omega)
    have hcp : (Builtin.copy_ #[28, 28] 3 #[.slice (some ⟨w.heap.size + 1, 0, none⟩) 8 8, .slice (some ⟨w.heap.size, 0, none⟩) 8 8]).run Tryd.prog ((w.alloc (.cells (codec_Put.cells a0 8) 70)).alloc (.cells #[.int .u8 0, .int .u8 0, .int .u8 0, .int .u8 0, .int .u8 0, .int .u8 0, .int .u8 0, .int .u8 0] 5)) =
      .ok (.int .i64 8) (((w.alloc (.cells (codec_Put.cells a0 8) 70)).alloc (.cells #[.int .u8 0, .int .u8 0, .int .u8 0, .int .u8 0, .int .u8 0, .int .u8 0, .int .u8 0, .int .u8 0] 5)).setRow (w.heap.size + 1) (((codec_Put.row a0 8).drop 0).map (Value.int .u8)).toArray) := codec_Put.copied_ w a0 8 (by omega)
    go_enter Tryd.func25, Tryd.ntmps25
    go_wp2
    go_loopg [7, 27] 9 (fun kq v7 v27 w' => ∃ j : Nat, v27 = .int .i64 (j : Int) ∧ Aside0 (j + kq = 9 ∧ j ≤ 8) ∧ w' = w.alloc (.cells (codec_Put.cells a0 j) 70))
    case atStart => exact ⟨0, rfl, ⟨by omega⟩, rfl⟩
    case round =>
      obtain ⟨j, rfl, hj, rfl⟩ := hrel
      cases gk with
      | zero => exact absurd hj.out (by omega)
      | succ k1 =>
        have : j = 0 ∨ j = 1 ∨ j = 2 ∨ j = 3 ∨ j = 4 ∨ j = 5 ∨ j = 6 ∨ j = 7 ∨ j = 8 := by have := hj.out; omega
        rcases this with rfl | rfl | rfl | rfl | rfl | rfl | rfl | rfl | rfl
        · go_wp2
          go_roundg k1
          case measure => omega
          case rel => exact ⟨1, rfl, ⟨by have := hj.out; omega⟩, by simp [codec_Put.cells, codec_Put.row]⟩
        · go_wp2
          go_roundg k1
          case measure => omega
          case rel => exact ⟨2, rfl, ⟨by have := hj.out; omega⟩, by simp [codec_Put.cells, codec_Put.row]⟩
        · go_wp2
          go_roundg k1
          case measure => omega
          case rel => exact ⟨3, rfl, ⟨by have := hj.out; omega⟩, by simp [codec_Put.cells, codec_Put.row]⟩
        · go_wp2
          go_roundg k1
          case measure => omega
          case rel => exact ⟨4, rfl, ⟨by have := hj.out; omega⟩, by simp [codec_Put.cells, codec_Put.row]⟩
        · go_wp2
          go_roundg k1
          case measure => omega
          case rel => exact ⟨5, rfl, ⟨by have := hj.out; omega⟩, by simp [codec_Put.cells, codec_Put.row]⟩
        · go_wp2
          go_roundg k1
          case measure => omega
          case rel => exact ⟨6, rfl, ⟨by have := hj.out; omega⟩, by simp [codec_Put.cells, codec_Put.row]⟩
        · go_wp2
          go_roundg k1
          case measure => omega
          case rel => exact ⟨7, rfl, ⟨by have := hj.out; omega⟩, by simp [codec_Put.cells, codec_Put.row]⟩
        · go_wp2
          go_roundg k1
          case measure => omega
          case rel => exact ⟨8, rfl, ⟨by have := hj.out; omega⟩, by simp [codec_Put.cells, codec_Put.row, hx]⟩
        · go_wp2
          go_ret2
          refine ⟨_, rfl, R_of_block_ (n := 8) (setRow_heap _ _ _ _ 5 _ (alloc2_new_ _ _ _)) (by omega) rfl (by decide), below_setRow (below_alloc (below_alloc (Below.refl _ _) _) _) (by omega) _⟩
theorem codec_Put.calls (E : Int → Addr) (a0 a1 : Int) (r1 : List Int) (r2 : Option Int) (w : World) (hG : Glob E w) (h : codec_Put.f a0 a1 = some (r1, r2)) :
    Calls Tryd.prog 25 #[.int .u64 a0, .int .i64 a1] w fun e w' => ∃ v0_ : Value, e = .returned (.tuple #[v0_, errW E r2]) ∧ Kd.R (Kd.int .u8) 5 w' w.heap.size (fun _ => True) v0_ r1 ∧ Below w.heap.size w w' := by
  unfold codec_Put.f at h
  split at h
  · rename_i h0
    split at h
    · rename_i h1
      simp only [Option.some.injEq, Prod.mk.injEq] at h
      obtain ⟨rfl, rfl⟩ := h
      exact (codec_Put.refuse E a0 a1 w hG h0.1 h1).mono (fun e w' he => ⟨_, he.1, Kd.R_nil _ _ _ _ _, he.2⟩)
    · rename_i h1
      simp only [Option.some.injEq, Prod.mk.injEq] at h
      obtain ⟨rfl, rfl⟩ := h
      exact (codec_Put.good E a0 a1 w h0.1 h0.2 h1)
  · simp at h

end Go.Proofs.YtcjfmlgljfggpaaDoor.XCodecBack
