-- Printed for this claim by a program (wip/printx) that builds on the kit's print. Not trusted: Lean checks it.
import Derived.Test.YtcjfmlgljfggpaaDoorXCodecGetsx0
import Derived.Test.YtcjfmlgljfggpaaDoorXCodecGetsx1
import Derived.Test.YtcjfmlgljfggpaaDoorXCodecGetsx2
namespace Go.Proofs.YtcjfmlgljfggpaaDoor.XCodecGets
open Go.RowKit Go.Proofs.YtcjfmlgljfggpaaDoorW.PrintWords Go.Proofs.YtcjfmlgljfggpaaDoorW.PrintLast Go.Proofs.YtcjfmlgljfggpaaDoorW.PrintMore
attribute [local go_sem] max2_int min2_int max_two min_two max_three min_three max_four min_four   -- for this text's walks alone
set_option linter.unusedVariables false
set_option linter.unusedSimpArgs false

/-! ### copselaw1_CodecGets: function 8 -/
mutual
def copselaw1_CodecGets.j0 : Nat → ByteArray → List Int → Bool → Option (Bool)
  | 0, _, _, _ => none
  | k + 1, x0, x3, x42 => if x42 = true then (some false) else ((copsekit_Bytes.f k x0).bind fun t134 => (copselaw1_CodecGets.l0 k x0 x3 t134 0))
def copselaw1_CodecGets.l0 : Nat → ByteArray → List Int → List Int → Int → Option (Bool)
  | 0, _, _, _, _ => none
  | k + 1, x0, x3, x9, x10 => if x10 < (x9.length : Int) then (if 0 ≤ x10 then (if x10 < (x3.length : Int) then (copselaw1_CodecGets.l0 k x0 (x3.set (x10 : Int).toNat (((rd x3 x10) + 1) % 256)) (x9.set (x10 : Int).toNat (((rd x9 x10) + 1) % 256)) (wrap64 (x10 + 1))) else (none)) else (none)) else (if 0 ≤ (x0.size : Int) then (if (x0.size : Int) ≤ (x3.length : Int) then ((codec_Get.f k (x3.take ((x0.size : Int) : Int).toNat)).bind fun bt145 => ((copseref1_Get.f k x9).bind fun bt147 => (if bt145.1 = bt147.1 then ((copsekit_Num.f bt145.2).bind fun t149 => (some (t149 == bt147.2))) else (some false)))) else (none)) else (none))
end
def copselaw1_CodecGets.f (k : Nat) (a0 : ByteArray) : Option (Bool) := (copselaw1_spare.f k a0).bind fun t118 => (if 0 ≤ (a0.size : Int) then (if (a0.size : Int) ≤ (t118.length : Int) then ((codec_Get.f k (t118.take ((a0.size : Int) : Int).toNat)).bind fun bt125 => ((copselaw1_kept.f k t118 a0).bind fun t127 => ((copsekit_Bytes.f k a0).bind fun t128 => ((copseref1_Get.f k t128).bind fun bt131 => (if t127 = true then (if bt125.1 = bt131.1 then ((copsekit_Num.f bt125.2).bind fun t133 => (copselaw1_CodecGets.j0 k a0 t118 (t133 != bt131.2))) else (copselaw1_CodecGets.j0 k a0 t118 true)) else (copselaw1_CodecGets.j0 k a0 t118 true)))))) else (none)) else (none))
theorem copselaw1_CodecGets.mono_l : ∀ k, (∀ y0 y1 y2, LeO (copselaw1_CodecGets.j0 k y0 y1 y2) (copselaw1_CodecGets.j0 (k + 1) y0 y1 y2)) ∧ (∀ y0 y1 y2 y3, LeO (copselaw1_CodecGets.l0 k y0 y1 y2 y3) (copselaw1_CodecGets.l0 (k + 1) y0 y1 y2 y3))
  | 0 => ⟨fun _ _ _ r h => by simp [copselaw1_CodecGets.j0] at h, fun _ _ _ _ r h => by simp [copselaw1_CodecGets.l0] at h⟩
  | k + 1 => by
    obtain ⟨ih0, ih1⟩ := copselaw1_CodecGets.mono_l k
    refine ⟨?_, ?_⟩
    · intro y0 y1 y2
      unfold copselaw1_CodecGets.j0
      repeat' first
      | (with_reducible exact ih0 _ _ _)
      | (with_reducible exact ih1 _ _ _ _)
      | (with_reducible exact codec_Get.mono _ _)
      | (with_reducible exact copsekit_Bytes.mono _ _)
      | (with_reducible exact copselaw1_kept.mono _ _ _)
      | (with_reducible exact copselaw1_spare.mono _ _)
      | (with_reducible exact copseref1_Get.mono _ _)
      | (with_reducible exact LeO.refl _)
      | (with_reducible exact LeO.none _)
      | (with_reducible refine LeO.ite ?_ ?_)
      | (with_reducible refine LeO.bind ?_ (fun _ => ?_))
      | exact ih0 _ _ _
      | exact ih1 _ _ _ _
      | exact codec_Get.mono _ _
      | exact copsekit_Bytes.mono _ _
      | exact copselaw1_kept.mono _ _ _
      | exact copselaw1_spare.mono _ _
      | exact copseref1_Get.mono _ _
      | exact LeO.none _
      | refine LeO.ite ?_ ?_
      | refine LeO.bind ?_ (fun _ => ?_)
    · intro y0 y1 y2 y3
      unfold copselaw1_CodecGets.l0
      repeat' first
      | (with_reducible exact ih0 _ _ _)
      | (with_reducible exact ih1 _ _ _ _)
      | (with_reducible exact codec_Get.mono _ _)
      | (with_reducible exact copsekit_Bytes.mono _ _)
      | (with_reducible exact copselaw1_kept.mono _ _ _)
      | (with_reducible exact copselaw1_spare.mono _ _)
      | (with_reducible exact copseref1_Get.mono _ _)
      | (with_reducible exact LeO.refl _)
      | (with_reducible exact LeO.none _)
      | (with_reducible refine LeO.ite ?_ ?_)
      | (with_reducible refine LeO.bind ?_ (fun _ => ?_))
      | exact ih0 _ _ _
      | exact ih1 _ _ _ _
      | exact codec_Get.mono _ _
      | exact copsekit_Bytes.mono _ _
      | exact copselaw1_kept.mono _ _ _
      | exact copselaw1_spare.mono _ _
      | exact copseref1_Get.mono _ _
      | exact LeO.none _
      | refine LeO.ite ?_ ?_
      | refine LeO.bind ?_ (fun _ => ?_)
theorem copselaw1_CodecGets.mono : ∀ a0 k, LeO (copselaw1_CodecGets.f k a0) (copselaw1_CodecGets.f (k + 1) a0) := by
  intro a0 k
  obtain ⟨ih0, ih1⟩ := copselaw1_CodecGets.mono_l k
  unfold copselaw1_CodecGets.f
  repeat' first
      | (with_reducible exact ih0 _ _ _)
      | (with_reducible exact ih1 _ _ _ _)
      | (with_reducible exact codec_Get.mono _ _)
      | (with_reducible exact copsekit_Bytes.mono _ _)
      | (with_reducible exact copselaw1_kept.mono _ _ _)
      | (with_reducible exact copselaw1_spare.mono _ _)
      | (with_reducible exact copseref1_Get.mono _ _)
      | (with_reducible exact LeO.refl _)
      | (with_reducible exact LeO.none _)
      | (with_reducible refine LeO.ite ?_ ?_)
      | (with_reducible refine LeO.bind ?_ (fun _ => ?_))
      | exact ih0 _ _ _
      | exact ih1 _ _ _ _
      | exact codec_Get.mono _ _
      | exact copsekit_Bytes.mono _ _
      | exact copselaw1_kept.mono _ _ _
      | exact copselaw1_spare.mono _ _
      | exact copseref1_Get.mono _ _
      | exact LeO.none _
      | refine LeO.ite ?_ ?_
      | refine LeO.bind ?_ (fun _ => ?_)
set_option maxHeartbeats 8000000 in
set_option maxRecDepth 100000 in
theorem copselaw1_CodecGets.calls (k : Nat) (E : Int → Addr) (a0 : ByteArray) (r : Bool) (w : World) (hG : Glob E w) (h : copselaw1_CodecGets.f k a0 = some r) :
    Calls Tryd.prog 8 #[.string a0] w fun e w' => e = .returned (.bool r) ∧ Below w.heap.size w w' := by
  have HB := Aside0.mk (Below.refl w.heap.size w)
  have HG := Aside0.mk hG
  clear hG
  have H : ((copselaw1_spare.f k a0).bind fun t118 => (if 0 ≤ (a0.size : Int) then (if (a0.size : Int) ≤ (t118.length : Int) then ((codec_Get.f k (t118.take ((a0.size : Int) : Int).toNat)).bind fun bt125 => ((copselaw1_kept.f k t118 a0).bind fun t127 => ((copsekit_Bytes.f k a0).bind fun t128 => ((copseref1_Get.f k t128).bind fun bt131 => (if t127 = true then (if bt125.1 = bt131.1 then ((copsekit_Num.f bt125.2).bind fun t133 => (copselaw1_CodecGets.j0 k a0 t118 (t133 != bt131.2))) else (copselaw1_CodecGets.j0 k a0 t118 true)) else (copselaw1_CodecGets.j0 k a0 t118 true)))))) else (none)) else (none))) = some r := h
  clear h
  replace H := Option.bind_eq_some_iff.mp H
  obtain ⟨t118, A20, H⟩ := H
  replace H : (if 0 ≤ (a0.size : Int) then (if (a0.size : Int) ≤ (t118.length : Int) then ((codec_Get.f k (t118.take ((a0.size : Int) : Int).toNat)).bind fun bt125 => ((copselaw1_kept.f k t118 a0).bind fun t127 => ((copsekit_Bytes.f k a0).bind fun t128 => ((copseref1_Get.f k t128).bind fun bt131 => (if t127 = true then (if bt125.1 = bt131.1 then ((copsekit_Num.f bt125.2).bind fun t133 => (copselaw1_CodecGets.j0 k a0 t118 (t133 != bt131.2))) else (copselaw1_CodecGets.j0 k a0 t118 true)) else (copselaw1_CodecGets.j0 k a0 t118 true)))))) else (none)) else (none)) = some r := H
  have A2 := Aside0.mk A20
  clear A20
  by_cases c3 : 0 ≤ (a0.size : Int)
  · rw [if_pos c3] at H
    have c3b0 := eq_true c3
    have c3b1 : decide (0 ≤ (a0.size : Int)) = true := decide_eq_true c3
    clear c3
    by_cases c4 : (a0.size : Int) ≤ (t118.length : Int)
    · rw [if_pos c4] at H
      have c4b0 := eq_true c4
      have c4b1 : decide ((a0.size : Int) ≤ (t118.length : Int)) = true := decide_eq_true c4
      clear c4
      obtain ⟨y121, hy121⟩ : ∃ y_ : List Int, y_ = (t118.take ((a0.size : Int) : Int).toNat) := ⟨_, rfl⟩
      replace H : ((codec_Get.f k y121).bind fun bt125 => ((copselaw1_kept.f k t118 a0).bind fun t127 => ((copsekit_Bytes.f k a0).bind fun t128 => ((copseref1_Get.f k t128).bind fun bt131 => (if t127 = true then (if bt125.1 = bt131.1 then ((copsekit_Num.f bt125.2).bind fun t133 => (copselaw1_CodecGets.j0 k a0 t118 (t133 != bt131.2))) else (copselaw1_CodecGets.j0 k a0 t118 true)) else (copselaw1_CodecGets.j0 k a0 t118 true)))))) = some r := by first | (rw [hy121]; with_reducible exact H) | (have H2_ := (Option.bind_some _ _).symm.trans H; rw [hy121]; with_reducible exact H2_) | (have H2_ := (Option.bind_some _ _).symm.trans H; with_reducible exact H2_) | with_reducible exact H | (rw [hy121]; exact H) | exact H
      have Ny121 := Aside0.mk hy121
      clear hy121
      replace H := Option.bind_eq_some_iff.mp H
      obtain ⟨⟨t125, t126⟩, A50, H⟩ := H
      replace H : ((copselaw1_kept.f k t118 a0).bind fun t127 => ((copsekit_Bytes.f k a0).bind fun t128 => ((copseref1_Get.f k t128).bind fun bt131 => (if t127 = true then (if t125 = bt131.1 then ((copsekit_Num.f t126).bind fun t133 => (copselaw1_CodecGets.j0 k a0 t118 (t133 != bt131.2))) else (copselaw1_CodecGets.j0 k a0 t118 true)) else (copselaw1_CodecGets.j0 k a0 t118 true))))) = some r := H
      have A5 := Aside0.mk A50
      clear A50
      replace H := Option.bind_eq_some_iff.mp H
      obtain ⟨t127, A60, H⟩ := H
      replace H : ((copsekit_Bytes.f k a0).bind fun t128 => ((copseref1_Get.f k t128).bind fun bt131 => (if t127 = true then (if t125 = bt131.1 then ((copsekit_Num.f t126).bind fun t133 => (copselaw1_CodecGets.j0 k a0 t118 (t133 != bt131.2))) else (copselaw1_CodecGets.j0 k a0 t118 true)) else (copselaw1_CodecGets.j0 k a0 t118 true)))) = some r := H
      have A6 := Aside0.mk A60
      clear A60
      replace H := Option.bind_eq_some_iff.mp H
      obtain ⟨t128, A70, H⟩ := H
      replace H : ((copseref1_Get.f k t128).bind fun bt131 => (if t127 = true then (if t125 = bt131.1 then ((copsekit_Num.f t126).bind fun t133 => (copselaw1_CodecGets.j0 k a0 t118 (t133 != bt131.2))) else (copselaw1_CodecGets.j0 k a0 t118 true)) else (copselaw1_CodecGets.j0 k a0 t118 true))) = some r := H
      have A7 := Aside0.mk A70
      clear A70
      replace H := Option.bind_eq_some_iff.mp H
      obtain ⟨⟨t131, t132⟩, A80, H⟩ := H
      replace H : (if t127 = true then (if t125 = t131 then ((copsekit_Num.f t126).bind fun t133 => (copselaw1_CodecGets.j0 k a0 t118 (t133 != t132))) else (copselaw1_CodecGets.j0 k a0 t118 true)) else (copselaw1_CodecGets.j0 k a0 t118 true)) = some r := H
      have A8 := Aside0.mk A80
      clear A80
      have HC9 := Aside0.mk H
      clear H
      go_enter Tryd.func8, Tryd.ntmps8
      go_upto_region 5 with (first | ((with_reducible refine gate_callee (f := 13) rfl ?_); refine goesL_ (some 12) rfl rfl Tryd.func13 (by kernel_rfl) rfl #[.string a0] rfl (by (try simp only [List.map_toArray, List.map_cons, List.map_nil]); first | done | rfl | (simp only [List.length_drop, List.length_take]; rfl)) ?_; (with_reducible refine (copselaw1_spare.calls k a0 t118 _ A2.out).mono ?_); rintro e w10 ⟨v119, rfl, ho0, hb⟩; refine ⟨_, rfl, ?_⟩; have n0_ := Aside0.mk (Kd.R_lower ho0 (below_size (by repeat (first | (with_reducible first | exact HB.out | apply below_alloc | apply pw_below_drewN | apply below_drew1) | exact HB.out)))); have n1_ := Aside0.mk (below_step (by repeat (first | (with_reducible first | exact HB.out | apply below_alloc | apply pw_below_drewN | apply below_drew1) | exact HB.out)) hb); clear HB; have HO120 := n0_; have HB := n1_; clear n0_ n1_; (try clear hb); (try clear hb2); (try clear hk); (try clear hi); (try clear ho0); obtain ⟨Ao12, co12, eo12⟩ := Kd.R_slice HO120.out; subst eo12; have q11 : ((a0.size : Int) : Int) ≤ ((t118.length : Int) : Int) := of_decide_eq_true (by first | (with_reducible assumption) | assumption); obtain ⟨i011, hi011, _, hsz11, _⟩ := info_parts info5; have hroom11 : t118.length ≤ co12 := (Kd.R_reads' HO120.out).2.1; have hC11 : Kd.C (Kd.int .u8) _ Ao12 t118.length t118 := (Kd.R_reads' HO120.out).2.2; have hcut11 := cut_to (P := Tryd.prog) 28 5 .i64 Tryd.underlying28 hi011 Ao12 t118.length co12 (a0.size : Int) (of_decide_eq_true (by first | (with_reducible assumption) | assumption)) q11 hroom11; have hr11 := Kd.C_take (m := ((a0.size : Int) : Int).toNat) hC11 (by omega); have hy11 : y121.length = ((a0.size : Int) : Int).toNat := (by rw [Ny121.out, List.length_take]; omega); rw [← Ny121.out] at hr11; rw [← hy11] at hcut11; have HR124 := Aside0.mk hr11; have HC124 := Aside0.mk (show y121.length ≤ co12 from by omega); clear hr11 hC11 hroom11 hi011 hsz11; have KY11 := Aside0.mk hy11; clear hy11; have KL11 := Aside0.mk (show ((a0.size : Int) : Int).toNat ≤ t118.length from by omega); replace q11 := eq_true q11) | ((with_reducible refine gate_callee (f := 22) rfl ?_); refine goesL_ (some 18) rfl rfl Tryd.func22 (by kernel_rfl) rfl #[.slice Ao12 y121.length co12] rfl (by (try simp only [List.map_toArray, List.map_cons, List.map_nil]); first | done | rfl | (simp only [List.length_drop, List.length_take]; rfl)) ?_; (with_reducible refine (codec_Get.calls k E _ _ y121 t125 t126 _ ?side1 ?side2 ?side3 A5.out).mono ?_); (case side1 => exact (Glob.below HG.out (by repeat (first | (with_reducible first | exact HB.out | apply below_alloc | apply pw_below_drewN | apply below_drew1) | exact HB.out)))); (case side2 => repeat (first | exact (by repeat (first | (with_reducible exact HR124.out) | (with_reducible refine Kd.C_alloc ?_ _) | (with_reducible refine Kd.C_drewN ?_ _) | (with_reducible refine Kd.C_drew ?_) | exact HR124.out)) | (with_reducible refine Kd.C_alloc ?_ _) | (with_reducible refine Kd.C_drewN ?_ _) | (with_reducible refine Kd.C_drew ?_))); (case side3 => exact HC124.out); rintro e w' ⟨rfl, ⟨nd, rfl⟩⟩; refine ⟨_, rfl, ?_⟩; (try simp only [errW_none, errW_some])) | ((with_reducible refine gate_callee (f := 16) rfl ?_); refine goesL_ (some 23) rfl rfl Tryd.func16 (by kernel_rfl) rfl #[.slice Ao12 t118.length co12, .string a0] rfl (by (try simp only [List.map_toArray, List.map_cons, List.map_nil]); first | done | rfl | (simp only [List.length_drop, List.length_take]; rfl)) ?_; (with_reducible refine (copselaw1_kept.calls k _ _ t118 a0 t127 _ ?side1 ?side2 A6.out).mono ?_); (case side1 => repeat (first | exact (Kd.R_reads' HO120.out).2.2 | (with_reducible refine Kd.C_alloc ?_ _) | (with_reducible refine Kd.C_drewN ?_ _) | (with_reducible refine Kd.C_drew ?_))); (case side2 => exact (Kd.R_reads' HO120.out).2.1); rintro e w' ⟨rfl, ⟨nd, rfl⟩⟩; refine ⟨_, rfl, ?_⟩) | ((with_reducible refine gate_callee (f := 17) rfl ?_); refine goesL_ (some 26) rfl rfl Tryd.func17 (by kernel_rfl) rfl #[.string a0] rfl (by (try simp only [List.map_toArray, List.map_cons, List.map_nil]); first | done | rfl | (simp only [List.length_drop, List.length_take]; rfl)) ?_; (with_reducible refine (copsekit_Bytes.calls k a0 t128 _ A7.out).mono ?_); rintro e w13 ⟨v129, rfl, ho0, hb⟩; refine ⟨_, rfl, ?_⟩; have n0_ := Aside0.mk (Kd.R_elder' (by (with_reducible repeat (first | apply Kd.R_alloc | apply Kd.R_drewN | apply Kd.R_drew)); exact HO120.out) (Kd.R_base ho0) hb); have n1_ := Aside0.mk (Kd.R_lower (Kd.R_new' ho0 (Kd.R_lt (by (with_reducible repeat (first | apply Kd.R_alloc | apply Kd.R_drewN | apply Kd.R_drew)); exact HO120.out))) (below_size (by repeat (first | (with_reducible first | exact HB.out | apply below_alloc | apply pw_below_drewN | apply below_drew1) | exact HB.out)))); have n2_ := Aside0.mk (Kd.C_below (by repeat (first | (with_reducible exact HR124.out) | (with_reducible refine Kd.C_alloc ?_ _) | (with_reducible refine Kd.C_drewN ?_ _) | (with_reducible refine Kd.C_drew ?_) | exact HR124.out)) hb); have n3_ := Aside0.mk (below_step (by repeat (first | (with_reducible first | exact HB.out | apply below_alloc | apply pw_below_drewN | apply below_drew1) | exact HB.out)) hb); clear HO120; clear HR124; clear HB; have HO120 := n0_; have HO130 := n1_; have HR124 := n2_; have HB := n3_; clear n0_ n1_ n2_ n3_; (try clear hb); (try clear hb2); (try clear hk); (try clear hi); (try clear ho0); obtain ⟨Ao14, co14, eo14⟩ := Kd.R_slice HO130.out; subst eo14) | ((with_reducible refine gate_callee (f := 23) rfl ?_); refine goesL_ (some 27) rfl rfl Tryd.func23 (by kernel_rfl) rfl #[.slice Ao14 t128.length co14] rfl (by (try simp only [List.map_toArray, List.map_cons, List.map_nil]); first | done | rfl | (simp only [List.length_drop, List.length_take]; rfl)) ?_; (with_reducible refine (copseref1_Get.calls k _ _ t128 t131 t132 _ ?side1 ?side2 A8.out).mono ?_); (case side1 => repeat (first | exact (Kd.R_reads' HO130.out).2.2 | (with_reducible refine Kd.C_alloc ?_ _) | (with_reducible refine Kd.C_drewN ?_ _) | (with_reducible refine Kd.C_drew ?_))); (case side2 => exact (Kd.R_reads' HO130.out).2.1); rintro e w' ⟨rfl, ⟨nd, rfl⟩⟩; refine ⟨_, rfl, ?_⟩))
      (try simp only [Act.put, List.setIfInBounds_toArray, List.set_cons_zero, List.set_cons_succ])
      go_cut [42] (fun v42 wc => ∃ (kq : Nat) (x42_8 : Bool), v42 = .bool x42_8 ∧ Aside0 (copselaw1_CodecGets.j0 kq a0 t118 x42_8 = some r) ∧ Aside0 (kq ≤ k) ∧ Aside0 (Kd.R (Kd.int .u8) 5 wc w.heap.size (fun _ => True) (.slice Ao12 t118.length co12) t118) ∧ Aside0 (Kd.C (Kd.int .u8) wc Ao12 y121.length y121) ∧ Aside0 (Below w.heap.size w wc))
      case first =>
        have H := HC9.out
        clear HC9
        by_cases c15 : t127 = true
        · subst c15
          have H1 : (if t125 = t131 then ((copsekit_Num.f t126).bind fun t133 => (copselaw1_CodecGets.j0 k a0 t118 (t133 != t132))) else (copselaw1_CodecGets.j0 k a0 t118 true)) = some r := by rw [if_pos rfl] at H; exact H
          clear H
          have H := H1
          clear H1
          by_cases c16 : t125 = t131
          · rw [if_pos c16] at H
            have c16b0 : (t125 == t131) = true := beq_iff_eq.mpr c16
            have c16b1 : (t125 != t131) = false := bne_eq_false_iff_eq.mpr c16
            clear c16
            (first | rw [c16b0] | (simp only [i64_w, i32_w]; rw [c16b0]) | skip)
            replace H := Option.bind_eq_some_iff.mp H
            obtain ⟨t133, A170, H⟩ := H
            replace H : (copselaw1_CodecGets.j0 k a0 t118 (t133 != t132)) = some r := H
            have A17 := Aside0.mk A170
            clear A170
            have H' := Aside0.mk H
            clear H
            have CA17 := fun (W : World) (hG_ : Glob E W) => copsekit_Num.calls E t126 t133 W hG_ A17.out
            try simp only [errW_none, errW_some] at CA17
            go_wp2_with (first | (go_at_call 24; (with_reducible refine (CA17 _ ?side1).mono ?_); (case side1 => exact (Glob.below HG.out (by repeat (first | (with_reducible first | exact HB.out | apply below_alloc | apply pw_below_drewN | apply below_drew1) | exact HB.out)))); rintro e w' ⟨rfl, ⟨nd, rfl⟩⟩))
            go_meet
            case rel => exact ⟨_, ((t133 != t132)), (by first | rfl | (simp; done) | (simp [*]; done)), H', ⟨by first | omega | exact Nat.le_refl _⟩, ⟨by (with_reducible repeat (first | apply Kd.R_alloc | apply Kd.R_drewN | apply Kd.R_drew)); exact Kd.R_mono HO120.out (fun _ hk => trivial)⟩, ⟨by repeat (first | (with_reducible exact HR124.out) | (with_reducible refine Kd.C_alloc ?_ _) | (with_reducible refine Kd.C_drewN ?_ _) | (with_reducible refine Kd.C_drew ?_) | exact HR124.out)⟩, ⟨by repeat (first | (with_reducible first | exact HB.out | apply below_alloc | apply pw_below_drewN | apply below_drew1) | exact HB.out)⟩⟩
          · rw [if_neg c16] at H
            have c16b0 : (t125 == t131) = false := beq_eq_false_iff_ne.mpr c16
            have c16b1 : (t125 != t131) = true := bne_iff_ne.mpr c16
            (first | rw [c16b0] | (simp only [i64_w, i32_w]; rw [c16b0]) | skip)
            have H' := Aside0.mk H
            clear H
            go_wp2
            go_meet
            case rel => exact ⟨_, (true), (by first | rfl | (simp; done) | (simp [*]; done)), H', ⟨by first | omega | exact Nat.le_refl _⟩, ⟨by (with_reducible repeat (first | apply Kd.R_alloc | apply Kd.R_drewN | apply Kd.R_drew)); exact Kd.R_mono HO120.out (fun _ hk => trivial)⟩, ⟨by repeat (first | (with_reducible exact HR124.out) | (with_reducible refine Kd.C_alloc ?_ _) | (with_reducible refine Kd.C_drewN ?_ _) | (with_reducible refine Kd.C_drew ?_) | exact HR124.out)⟩, ⟨by repeat (first | (with_reducible first | exact HB.out | apply below_alloc | apply pw_below_drewN | apply below_drew1) | exact HB.out)⟩⟩
        · replace c15 := Bool.eq_false_iff.mpr c15
          subst c15
          have H1 : (copselaw1_CodecGets.j0 k a0 t118 true) = some r := by rw [if_neg (show ¬ (false = true) by decide)] at H; exact H
          clear H
          have H := H1
          clear H1
          have H' := Aside0.mk H
          clear H
          go_wp2
          go_meet
          case rel => exact ⟨_, (true), (by first | rfl | (simp; done) | (simp [*]; done)), H', ⟨by first | omega | exact Nat.le_refl _⟩, ⟨by (with_reducible repeat (first | apply Kd.R_alloc | apply Kd.R_drewN | apply Kd.R_drew)); exact Kd.R_mono HO120.out (fun _ hk => trivial)⟩, ⟨by repeat (first | (with_reducible exact HR124.out) | (with_reducible refine Kd.C_alloc ?_ _) | (with_reducible refine Kd.C_drewN ?_ _) | (with_reducible refine Kd.C_drew ?_) | exact HR124.out)⟩, ⟨by repeat (first | (with_reducible first | exact HB.out | apply below_alloc | apply pw_below_drewN | apply below_drew1) | exact HB.out)⟩⟩
      case rest =>
        clear HC9
        try clear c1
        try clear q1
        try clear c2
        try clear p2
        try clear c3
        try clear c3b0
        try clear c3b1
        try clear c4
        try clear c4b0
        try clear c4b1
        try clear c8
        try clear q11
        try clear c13
        try clear c15
        try clear c16
        try clear c16b0
        try clear c16b1
        try clear c17
        try clear q11
        obtain ⟨kq, x42_8, rfl, HA, HJ8, HO_3, HR124, HB⟩ := hcut
        cases kq with
        | zero => exact absurd HA.out (by simp [copselaw1_CodecGets.j0])
        | succ kj8 =>
          have H := HA.out
          clear HA
          simp only [copselaw1_CodecGets.j0] at H
          by_cases c18 : x42_8 = true
          · subst c18
            have H1 : (some false) = some r := by rw [if_pos rfl] at H; exact H
            clear H
            have H := H1
            clear H1
            obtain rfl := Option.some.inj H
            go_wp2
            go_ret
            exact ⟨by first | rfl | (simp [errW_none, errW_some] <;> rfl) | (simp [*, errW_none, errW_some] <;> rfl), by repeat (first | (with_reducible first | exact HB.out | apply below_alloc | apply pw_below_drewN | apply below_drew1) | exact HB.out)⟩
          · replace c18 := Bool.eq_false_iff.mpr c18
            subst c18
            have H1 : ((copsekit_Bytes.f kj8 a0).bind fun t134 => (copselaw1_CodecGets.l0 kj8 a0 t118 t134 0)) = some r := by rw [if_neg (show ¬ (false = true) by decide)] at H; exact H
            clear H
            have H := H1
            clear H1
            replace H := Option.bind_eq_some_iff.mp H
            obtain ⟨t134, A190, H⟩ := H
            replace H : (copselaw1_CodecGets.l0 kj8 a0 t118 t134 0) = some r := H
            have A19 := Aside0.mk A190
            clear A190
            have H' := Aside0.mk H
            clear H
            go_wp2_with (first | ((with_reducible refine gate_callee (f := 17) rfl ?_); refine goesL_ (some 44) rfl rfl Tryd.func17 (by kernel_rfl) rfl #[.string a0] rfl (by (try simp only [List.map_toArray, List.map_cons, List.map_nil]); first | done | rfl | (simp only [List.length_drop, List.length_take]; rfl)) ?_; (with_reducible refine (copsekit_Bytes.calls kj8 a0 t134 _ A19.out).mono ?_); rintro e w20 ⟨v135, rfl, ho0, hb⟩; refine ⟨_, rfl, ?_⟩; have n0_ := Aside0.mk (Kd.R_elder' (by (with_reducible repeat (first | apply Kd.R_alloc | apply Kd.R_drewN | apply Kd.R_drew)); exact HO_3.out) (Kd.R_base ho0) hb); have n1_ := Aside0.mk (Kd.R_lower (Kd.R_new' ho0 (Kd.R_lt (by (with_reducible repeat (first | apply Kd.R_alloc | apply Kd.R_drewN | apply Kd.R_drew)); exact HO_3.out))) (below_size (by repeat (first | (with_reducible first | exact HB.out | apply below_alloc | apply pw_below_drewN | apply below_drew1) | exact HB.out)))); have n2_ := Aside0.mk (Kd.C_below (by repeat (first | (with_reducible exact HR124.out) | (with_reducible refine Kd.C_alloc ?_ _) | (with_reducible refine Kd.C_drewN ?_ _) | (with_reducible refine Kd.C_drew ?_) | exact HR124.out)) hb); have n3_ := Aside0.mk (below_step (by repeat (first | (with_reducible first | exact HB.out | apply below_alloc | apply pw_below_drewN | apply below_drew1) | exact HB.out)) hb); clear HO_3; clear HR124; clear HB; have HO_3 := n0_; have HO136 := n1_; have HR124 := n2_; have HB := n3_; clear n0_ n1_ n2_ n3_; (try clear hb); (try clear hb2); (try clear hk); (try clear hi); (try clear ho0)))
            go_loopg [10] kj8 (fun kq v10 w' => ∃ (x3_2 : List Int) (x9_2 : List Int) (x10_2 : Int), v10 = .int .i64 x10_2 ∧ Aside0 (copselaw1_CodecGets.l0 kq a0 x3_2 x9_2 x10_2 = some r) ∧ Aside0 (kq ≤ kj8) ∧ Aside0 (Kd.R (Kd.int .u8) 5 w' w.heap.size (fun k_ => some k_ ≠ (v135 : Value).ownBlock) (.slice Ao12 t118.length co12) x3_2) ∧ Aside0 (Kd.R (Kd.int .u8) 5 w' w.heap.size (fun k_ => some k_ ≠ ((.slice Ao12 t118.length co12) : Value).ownBlock) v135 x9_2) ∧ Aside0 (Below w.heap.size w w'))
            case atStart => exact ⟨(t118), (t134), (0), (by first | rfl | (simp; done) | (simp [*]; done)), H', ⟨Nat.le_refl _⟩, ⟨by (with_reducible repeat (first | apply Kd.R_alloc | apply Kd.R_drewN | apply Kd.R_drew)); exact Kd.R_mono HO_3.out (fun _ hk => hk.2)⟩, ⟨by (with_reducible repeat (first | apply Kd.R_alloc | apply Kd.R_drewN | apply Kd.R_drew)); exact Kd.R_mono HO136.out (fun _ hk => hk.2)⟩, ⟨by repeat (first | (with_reducible first | exact HB.out | apply below_alloc | apply pw_below_drewN | apply below_drew1) | exact HB.out)⟩⟩
            case round =>
              clear H'
              try clear c1
              try clear q1
              try clear c2
              try clear p2
              try clear c3
              try clear c3b0
              try clear c3b1
              try clear c4
              try clear c4b0
              try clear c4b1
              try clear c8
              try clear q11
              try clear c13
              try clear c15
              try clear c16
              try clear c16b0
              try clear c16b1
              try clear c17
              try clear c18
              try clear p2
              try clear q1
              try clear q11
              obtain ⟨x3_2, x9_2, x10_2, rfl, HA, HK2, HO_3, HO_9, HB⟩ := hrel
              have hl3_2 := (Kd.R_reads' HO_3.out).1
              rw [hl3_2] at HO_3
              (try simp only [hl3_2])
              (try simp only [hl3_2] at HO_9)
              cases gk with
              | zero => exact absurd HA.out (by simp [copselaw1_CodecGets.l0])
              | succ k2 =>
                have H := HA.out
                clear HA
                simp only [copselaw1_CodecGets.l0] at H
                by_cases c21 : x10_2 < (x9_2.length : Int)
                · rw [if_pos c21] at H
                  have c21b0 : decide (x10_2 < (x9_2.length : Int)) = true := decide_eq_true c21
                  clear c21
                  by_cases c22 : 0 ≤ x10_2
                  · rw [if_pos c22] at H
                    have c22b0 : decide (0 ≤ x10_2) = true := decide_eq_true c22
                    clear c22
                    by_cases c23 : x10_2 < (x3_2.length : Int)
                    · rw [if_pos c23] at H
                      have c23b0 : decide (x10_2 < (x3_2.length : Int)) = true := decide_eq_true c23
                      clear c23
                      obtain ⟨y138, hy138⟩ : ∃ y_ : List Int, y_ = (x3_2.set (x10_2 : Int).toNat (((rd x3_2 x10_2) + 1) % 256)) := ⟨_, rfl⟩
                      replace H : (copselaw1_CodecGets.l0 k2 a0 y138 (x9_2.set (x10_2 : Int).toNat (((rd x9_2 x10_2) + 1) % 256)) (wrap64 (x10_2 + 1))) = some r := by first | (rw [hy138]; with_reducible exact H) | (have H2_ := (Option.bind_some _ _).symm.trans H; rw [hy138]; with_reducible exact H2_) | (have H2_ := (Option.bind_some _ _).symm.trans H; with_reducible exact H2_) | with_reducible exact H | (rw [hy138]; exact H) | exact H
                      have Ny138 := Aside0.mk hy138
                      clear hy138
                      obtain ⟨y140, hy140⟩ : ∃ y_ : List Int, y_ = (x9_2.set (x10_2 : Int).toNat (((rd x9_2 x10_2) + 1) % 256)) := ⟨_, rfl⟩
                      replace H : (copselaw1_CodecGets.l0 k2 a0 y138 y140 (wrap64 (x10_2 + 1))) = some r := by first | (rw [hy140]; with_reducible exact H) | (have H2_ := (Option.bind_some _ _).symm.trans H; rw [hy140]; with_reducible exact H2_) | (have H2_ := (Option.bind_some _ _).symm.trans H; with_reducible exact H2_) | with_reducible exact H | (rw [hy140]; exact H) | exact H
                      have Ny140 := Aside0.mk hy140
                      clear hy140
                      have H' := Aside0.mk H
                      clear H
                      obtain ⟨Ao26, co26, eo26⟩ := Kd.R_slice HO_9.out
                      subst eo26
                      have p137 : 0 ≤ (x10_2 : Int) := of_decide_eq_true (by first | (with_reducible assumption) | assumption)
                      have q137 : x10_2 < (x3_2.length : Int) := of_decide_eq_true (by first | (with_reducible assumption) | assumption)
                      obtain ⟨ad137, e137, hx137_0⟩ := Kd.at_int (Kd.R_reads' HO_3.out).2.2 x10_2 p137 q137
                      cases e137
                      replace p137 := eq_true p137
                      replace q137 := eq_true q137
                      have p24 : 0 ≤ (x10_2 : Int) := of_decide_eq_true (by first | (with_reducible assumption) | assumption)
                      have q24 : (x10_2 : Int) < ((x3_2.length : Int) : Int) := of_decide_eq_true (by first | (with_reducible assumption) | assumption)
                      obtain ⟨go24, co24, eo24, gb24, gl24, cl24, HG24⟩ := Kd.R_form HO_3.out (by omega)
                      (first | cases eo24 | (injection eo24 with ea_ en_ ec_; (first | subst ea_ | (injection ea_ with ea_; subst ea_)); subst ec_; clear en_))
                      have GB24 := Aside0.mk gb24
                      have GG24 := Aside0.mk HG24
                      clear gb24 gl24 HG24
                      (first | simp only [add_plain] at hx137_0 | skip)
                      obtain ⟨hx24_0, hf24_0⟩ := Kd.R_celln 0 HO_3.out (x10_2 : Int) p24 q24
                      replace p24 := eq_true p24
                      replace q24 := eq_true q24
                      have HP27 := Kd.R_putg HO_3.out (x10_2 : Int) (((rd x3_2 x10_2) + 1) % 256)
                      go_wp2_with (first | ((with_reducible refine gate_store (t := 5) (p := 58) rfl ?_); refine store_event (t := 5) (p := 58) (v := ?vo_w28) (w1 := (wr.setCell ⟨go24, (x10_2 : Int).toNat, none⟩ (.int .u8 (((rd x3_2 x10_2) + 1) % 256)))) ?hg ?ho ?hn ?hr ?_; (case ho => rfl); (case hg => rfl); (case hn => rfl); (case hr => first | (go_simp; done) | (go_simp; rfl)); intro w28 hw; have hg : wr.grownBy w28 (some go24) := (by rw [hw]; exact HP27.2); have hp_ : Kd.R (Kd.int .u8) 5 w28 w.heap.size (fun k_ => some k_ ≠ (.slice Ao26 x9_2.length co26 : Value).ownBlock) (.slice (some ⟨go24, 0, none⟩) x3_2.length co12) y138 := (by rw [hw, Ny138.out]; exact HP27.1); clear HP27; have n0_ := Aside0.mk (hp_); have n1_ := Aside0.mk (Kd.R_after (v := (.slice (some ⟨go24, 0, none⟩) x3_2.length co12)) (v1 := (.slice (some ⟨go24, 0, none⟩) x3_2.length co12)) (ok := (fun _ => True)) (by (with_reducible repeat (first | apply Kd.R_alloc | apply Kd.R_drewN | apply Kd.R_drew)); exact Kd.R_mono HO_9.out (fun _ hk => ⟨trivial, hk⟩)) hg (.inl rfl)); have n2_ := Aside0.mk ((by rw [hw]; exact below_set (HB.out) GB24.out : Below w.heap.size w w28)); clear HO_3; clear HO_9; clear HB; have HO_3 := n0_; have HO_9 := n1_; have HB := n2_; clear n0_ n1_ n2_; clear hg hw hp_; have p139 : 0 ≤ (x10_2 : Int) := of_decide_eq_true (by first | (with_reducible assumption) | assumption); have q139 : x10_2 < (x9_2.length : Int) := of_decide_eq_true (by first | (with_reducible assumption) | assumption); obtain ⟨ad139, e139, hx139_0⟩ := Kd.at_int (Kd.R_reads' HO_9.out).2.2 x10_2 p139 q139; cases e139; replace p139 := eq_true p139; replace q139 := eq_true q139; have p25 : 0 ≤ (x10_2 : Int) := of_decide_eq_true (by first | (with_reducible assumption) | assumption); have q25 : (x10_2 : Int) < ((x9_2.length : Int) : Int) := of_decide_eq_true (by first | (with_reducible assumption) | assumption); obtain ⟨go25, co25, eo25, gb25, gl25, cl25, HG25⟩ := Kd.R_form HO_9.out (by omega); (first | cases eo25 | (injection eo25 with ea_ en_ ec_; (first | subst ea_ | (injection ea_ with ea_; subst ea_)); subst ec_; clear en_)); have GB25 := Aside0.mk gb25; have GG25 := Aside0.mk HG25; clear gb25 gl25 HG25; (first | simp only [add_plain] at hx139_0 | skip); obtain ⟨hx25_0, hf25_0⟩ := Kd.R_celln 0 HO_9.out (x10_2 : Int) p25 q25; replace p25 := eq_true p25; replace q25 := eq_true q25; have n_ := Aside0.mk (Kd.R_mono (ok' := (fun k_ => some k_ ≠ (.slice (some ⟨go24, 0, none⟩) x3_2.length co12 : Value).ownBlock)) HO_9.out (fun k_ hk => hk.2)); clear HO_9; have HO_9 := n_; clear n_; obtain ⟨hy29_, hz29_⟩ := Kd.R_celln 0 HO_9.out (x10_2 : Int) (of_decide_eq_true (by first | (with_reducible assumption) | assumption)) (of_decide_eq_true (by first | (with_reducible assumption) | assumption)); have HP29 := Kd.R_putg HO_9.out (x10_2 : Int) (((rd x9_2 x10_2) + 1) % 256)) | ((with_reducible refine gate_store (t := 5) (p := 66) rfl ?_); refine store_event (t := 5) (p := 66) (v := ?vo_w30) (w1 := (w28.setCell ⟨go25, (x10_2 : Int).toNat, none⟩ (.int .u8 (((rd x9_2 x10_2) + 1) % 256)))) ?hg ?ho ?hn ?hr ?_; (case ho => rfl); (case hg => rfl); (case hn => rfl); (case hr => first | (go_simp; done) | (go_simp; rfl)); intro w30 hw; have hg : w28.grownBy w30 (some go25) := (by rw [hw]; exact HP29.2); have hp_ : Kd.R (Kd.int .u8) 5 w30 w.heap.size (fun k_ => some k_ ≠ (.slice (some ⟨go24, 0, none⟩) x3_2.length co12 : Value).ownBlock) (.slice (some ⟨go25, 0, none⟩) x9_2.length co26) y140 := (by rw [hw, Ny140.out]; exact HP29.1); clear HP29; have n0_ := Aside0.mk (Kd.R_after (v := (.slice (some ⟨go25, 0, none⟩) x9_2.length co26)) (v1 := (.slice (some ⟨go25, 0, none⟩) x9_2.length co26)) (ok := (fun _ => True)) (by (with_reducible repeat (first | apply Kd.R_alloc | apply Kd.R_drewN | apply Kd.R_drew)); exact Kd.R_mono HO_3.out (fun _ hk => ⟨trivial, hk⟩)) hg (.inl rfl)); have n1_ := Aside0.mk (hp_); have n2_ := Aside0.mk ((by rw [hw]; exact below_set (HB.out) GB25.out : Below w.heap.size w w30)); clear HO_3; clear HO_9; clear HB; have HO_3 := n0_; have HO_9 := n1_; have HB := n2_; clear n0_ n1_ n2_; clear hg hw hp_))
                      (try simp only [← hl3_2])
                      go_roundg k2
                      case measure => have := HJ8.out; have := HK2.out; omega
                      case rel => exact ⟨(y138), (y140), (wrap64 (x10_2 + 1)), (by first | rfl | (simp; done) | (simp [*]; done)), H', ⟨by have := HJ8.out; have := HK2.out; omega⟩, ⟨by (try simp only [hl3_2]); (with_reducible repeat (first | apply Kd.R_alloc | apply Kd.R_drewN | apply Kd.R_drew)); exact Kd.R_mono HO_3.out (fun _ hk => hk.2)⟩, ⟨by (try simp only [hl3_2]); (with_reducible repeat (first | apply Kd.R_alloc | apply Kd.R_drewN | apply Kd.R_drew)); exact HO_9.out⟩, ⟨by repeat (first | (with_reducible first | exact HB.out | apply below_alloc | apply pw_below_drewN | apply below_drew1) | exact HB.out)⟩⟩
                    · rw [if_neg c23] at H
                      exact absurd H (by simp)
                  · rw [if_neg c22] at H
                    exact absurd H (by simp)
                · rw [if_neg c21] at H
                  have c21b0 : decide (x10_2 < (x9_2.length : Int)) = false := decide_eq_false c21
                  clear c21
                  by_cases c31 : 0 ≤ (a0.size : Int)
                  · rw [if_pos c31] at H
                    have c31b0 := eq_true c31
                    have c31b1 : decide (0 ≤ (a0.size : Int)) = true := decide_eq_true c31
                    clear c31
                    by_cases c32 : (a0.size : Int) ≤ (x3_2.length : Int)
                    · rw [if_pos c32] at H
                      have c32b0 := eq_true c32
                      have c32b1 : decide ((a0.size : Int) ≤ (x3_2.length : Int)) = true := decide_eq_true c32
                      clear c32
                      obtain ⟨y141, hy141⟩ : ∃ y_ : List Int, y_ = (x3_2.take ((a0.size : Int) : Int).toNat) := ⟨_, rfl⟩
                      replace H : ((codec_Get.f k2 y141).bind fun bt145 => ((copseref1_Get.f k2 x9_2).bind fun bt147 => (if bt145.1 = bt147.1 then ((copsekit_Num.f bt145.2).bind fun t149 => (some (t149 == bt147.2))) else (some false)))) = some r := by first | (rw [hy141]; with_reducible exact H) | (have H2_ := (Option.bind_some _ _).symm.trans H; rw [hy141]; with_reducible exact H2_) | (have H2_ := (Option.bind_some _ _).symm.trans H; with_reducible exact H2_) | with_reducible exact H | (rw [hy141]; exact H) | exact H
                      have Ny141 := Aside0.mk hy141
                      clear hy141
                      replace H := Option.bind_eq_some_iff.mp H
                      obtain ⟨⟨t145, t146⟩, A330, H⟩ := H
                      replace H : ((copseref1_Get.f k2 x9_2).bind fun bt147 => (if t145 = bt147.1 then ((copsekit_Num.f t146).bind fun t149 => (some (t149 == bt147.2))) else (some false))) = some r := H
                      have A33 := Aside0.mk A330
                      clear A330
                      replace H := Option.bind_eq_some_iff.mp H
                      obtain ⟨⟨t147, t148⟩, A340, H⟩ := H
                      replace H : (if t145 = t147 then ((copsekit_Num.f t146).bind fun t149 => (some (t149 == t148))) else (some false)) = some r := H
                      have A34 := Aside0.mk A340
                      clear A340
                      by_cases c35 : t145 = t147
                      · rw [if_pos c35] at H
                        have c35b0 : (t145 == t147) = true := beq_iff_eq.mpr c35
                        have c35b1 : (t145 != t147) = false := bne_eq_false_iff_eq.mpr c35
                        clear c35
                        replace H := Option.bind_eq_some_iff.mp H
                        obtain ⟨t149, A360, H⟩ := H
                        replace H : (some (t149 == t148)) = some r := H
                        have A36 := Aside0.mk A360
                        clear A360
                        obtain rfl := Option.some.inj H
                        obtain ⟨Ao37, co37, eo37⟩ := Kd.R_slice HO_9.out
                        subst eo37
                        have q38 : ((a0.size : Int) : Int) ≤ ((x3_2.length : Int) : Int) := of_decide_eq_true (by first | (with_reducible assumption) | assumption)
                        obtain ⟨i038, hi038, _, hsz38, _⟩ := info_parts info5
                        have hroom38 : x3_2.length ≤ co12 := (Kd.R_reads' HO_3.out).2.1
                        have hC38 : Kd.C (Kd.int .u8) _ Ao12 x3_2.length x3_2 := (Kd.R_reads' HO_3.out).2.2
                        have hcut38 := cut_to (P := Tryd.prog) 28 5 .i64 Tryd.underlying28 hi038 Ao12 x3_2.length co12 (a0.size : Int) (of_decide_eq_true (by first | (with_reducible assumption) | assumption)) q38 hroom38
                        have hr38 := Kd.C_take (m := ((a0.size : Int) : Int).toNat) hC38 (by omega)
                        have hy38 : y141.length = ((a0.size : Int) : Int).toNat := (by rw [Ny141.out, List.length_take]; omega)
                        rw [← Ny141.out] at hr38
                        rw [← hy38] at hcut38
                        have HR144 := Aside0.mk hr38
                        have HC144 := Aside0.mk (show y141.length ≤ co12 from by omega)
                        clear hr38 hC38 hroom38 hi038 hsz38
                        have KY38 := Aside0.mk hy38
                        clear hy38
                        have KL38 := Aside0.mk (show ((a0.size : Int) : Int).toNat ≤ x3_2.length from by omega)
                        replace q38 := eq_true q38
                        go_wp2_with (first | ((with_reducible refine gate_callee (f := 22) rfl ?_); refine goesL_ (some 72) rfl rfl Tryd.func22 (by kernel_rfl) rfl #[.slice Ao12 y141.length co12] rfl (by (try simp only [List.map_toArray, List.map_cons, List.map_nil]); first | done | rfl | (simp only [List.length_drop, List.length_take]; rfl)) ?_; (with_reducible refine (codec_Get.calls k2 E _ _ y141 t145 t146 _ ?side1 ?side2 ?side3 A33.out).mono ?_); (case side1 => exact (Glob.below HG.out (by repeat (first | (with_reducible first | exact HB.out | apply below_alloc | apply pw_below_drewN | apply below_drew1) | exact HB.out)))); (case side2 => repeat (first | exact (by repeat (first | (with_reducible exact HR144.out) | (with_reducible refine Kd.C_alloc ?_ _) | (with_reducible refine Kd.C_drewN ?_ _) | (with_reducible refine Kd.C_drew ?_) | exact HR144.out)) | (with_reducible refine Kd.C_alloc ?_ _) | (with_reducible refine Kd.C_drewN ?_ _) | (with_reducible refine Kd.C_drew ?_))); (case side3 => exact HC144.out); rintro e w' ⟨rfl, ⟨nd, rfl⟩⟩; refine ⟨_, rfl, ?_⟩; (try simp only [errW_none, errW_some])) | ((with_reducible refine gate_callee (f := 23) rfl ?_); refine goesL_ (some 77) rfl rfl Tryd.func23 (by kernel_rfl) rfl #[.slice Ao37 x9_2.length co37] rfl (by (try simp only [List.map_toArray, List.map_cons, List.map_nil]); first | done | rfl | (simp only [List.length_drop, List.length_take]; rfl)) ?_; (with_reducible refine (copseref1_Get.calls k2 _ _ x9_2 t147 t148 _ ?side1 ?side2 A34.out).mono ?_); (case side1 => repeat (first | exact (Kd.R_reads' HO_9.out).2.2 | (with_reducible refine Kd.C_alloc ?_ _) | (with_reducible refine Kd.C_drewN ?_ _) | (with_reducible refine Kd.C_drew ?_))); (case side2 => exact (Kd.R_reads' HO_9.out).2.1); rintro e w' ⟨rfl, ⟨nd, rfl⟩⟩; refine ⟨_, rfl, ?_⟩; have CA36 := fun (W : World) (hG_ : Glob E W) => copsekit_Num.calls E t146 t149 W hG_ A36.out; try simp only [errW_none, errW_some] at CA36) | (go_at_call 24; (with_reducible refine (CA36 _ ?side1).mono ?_); (case side1 => exact (Glob.below HG.out (by repeat (first | (with_reducible first | exact HB.out | apply below_alloc | apply pw_below_drewN | apply below_drew1) | exact HB.out)))); rintro e w' ⟨rfl, ⟨nd, rfl⟩⟩))
                        go_ret
                        exact ⟨by first | rfl | (simp [errW_none, errW_some] <;> rfl) | (simp [*, errW_none, errW_some] <;> rfl), by repeat (first | (with_reducible first | exact HB.out | apply below_alloc | apply pw_below_drewN | apply below_drew1) | exact HB.out)⟩
                      · rw [if_neg c35] at H
                        have c35b0 : (t145 == t147) = false := beq_eq_false_iff_ne.mpr c35
                        have c35b1 : (t145 != t147) = true := bne_iff_ne.mpr c35
                        obtain rfl := Option.some.inj H
                        obtain ⟨Ao39, co39, eo39⟩ := Kd.R_slice HO_9.out
                        subst eo39
                        have q40 : ((a0.size : Int) : Int) ≤ ((x3_2.length : Int) : Int) := of_decide_eq_true (by first | (with_reducible assumption) | assumption)
                        obtain ⟨i040, hi040, _, hsz40, _⟩ := info_parts info5
                        have hroom40 : x3_2.length ≤ co12 := (Kd.R_reads' HO_3.out).2.1
                        have hC40 : Kd.C (Kd.int .u8) _ Ao12 x3_2.length x3_2 := (Kd.R_reads' HO_3.out).2.2
                        have hcut40 := cut_to (P := Tryd.prog) 28 5 .i64 Tryd.underlying28 hi040 Ao12 x3_2.length co12 (a0.size : Int) (of_decide_eq_true (by first | (with_reducible assumption) | assumption)) q40 hroom40
                        have hr40 := Kd.C_take (m := ((a0.size : Int) : Int).toNat) hC40 (by omega)
                        have hy40 : y141.length = ((a0.size : Int) : Int).toNat := (by rw [Ny141.out, List.length_take]; omega)
                        rw [← Ny141.out] at hr40
                        rw [← hy40] at hcut40
                        have HR144 := Aside0.mk hr40
                        have HC144 := Aside0.mk (show y141.length ≤ co12 from by omega)
                        clear hr40 hC40 hroom40 hi040 hsz40
                        have KY40 := Aside0.mk hy40
                        clear hy40
                        have KL40 := Aside0.mk (show ((a0.size : Int) : Int).toNat ≤ x3_2.length from by omega)
                        replace q40 := eq_true q40
                        go_wp2_with (first | ((with_reducible refine gate_callee (f := 22) rfl ?_); refine goesL_ (some 72) rfl rfl Tryd.func22 (by kernel_rfl) rfl #[.slice Ao12 y141.length co12] rfl (by (try simp only [List.map_toArray, List.map_cons, List.map_nil]); first | done | rfl | (simp only [List.length_drop, List.length_take]; rfl)) ?_; (with_reducible refine (codec_Get.calls k2 E _ _ y141 t145 t146 _ ?side1 ?side2 ?side3 A33.out).mono ?_); (case side1 => exact (Glob.below HG.out (by repeat (first | (with_reducible first | exact HB.out | apply below_alloc | apply pw_below_drewN | apply below_drew1) | exact HB.out)))); (case side2 => repeat (first | exact (by repeat (first | (with_reducible exact HR144.out) | (with_reducible refine Kd.C_alloc ?_ _) | (with_reducible refine Kd.C_drewN ?_ _) | (with_reducible refine Kd.C_drew ?_) | exact HR144.out)) | (with_reducible refine Kd.C_alloc ?_ _) | (with_reducible refine Kd.C_drewN ?_ _) | (with_reducible refine Kd.C_drew ?_))); (case side3 => exact HC144.out); rintro e w' ⟨rfl, ⟨nd, rfl⟩⟩; refine ⟨_, rfl, ?_⟩; (try simp only [errW_none, errW_some])) | ((with_reducible refine gate_callee (f := 23) rfl ?_); refine goesL_ (some 77) rfl rfl Tryd.func23 (by kernel_rfl) rfl #[.slice Ao39 x9_2.length co39] rfl (by (try simp only [List.map_toArray, List.map_cons, List.map_nil]); first | done | rfl | (simp only [List.length_drop, List.length_take]; rfl)) ?_; (with_reducible refine (copseref1_Get.calls k2 _ _ x9_2 t147 t148 _ ?side1 ?side2 A34.out).mono ?_); (case side1 => repeat (first | exact (Kd.R_reads' HO_9.out).2.2 | (with_reducible refine Kd.C_alloc ?_ _) | (with_reducible refine Kd.C_drewN ?_ _) | (with_reducible refine Kd.C_drew ?_))); (case side2 => exact (Kd.R_reads' HO_9.out).2.1); rintro e w' ⟨rfl, ⟨nd, rfl⟩⟩; refine ⟨_, rfl, ?_⟩))
                        go_ret
                        exact ⟨by first | rfl | (simp [errW_none, errW_some] <;> rfl) | (simp [*, errW_none, errW_some] <;> rfl), by repeat (first | (with_reducible first | exact HB.out | apply below_alloc | apply pw_below_drewN | apply below_drew1) | exact HB.out)⟩
                    · rw [if_neg c32] at H
                      exact absurd H (by simp)
                  · rw [if_neg c31] at H
                    exact absurd H (by simp)
    · rw [if_neg c4] at H
      exact absurd H (by simp)
  · rw [if_neg c3] at H
    exact absurd H (by simp)

end Go.Proofs.YtcjfmlgljfggpaaDoor.XCodecGets
