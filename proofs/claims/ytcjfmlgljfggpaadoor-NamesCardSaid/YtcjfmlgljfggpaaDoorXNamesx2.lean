-- Printed for this claim by a program (wip/printx) that builds on the kit's print. Not trusted: Lean checks it.
import Derived.Test.YtcjfmlgljfggpaaDoorXNamesx0
import Derived.Test.YtcjfmlgljfggpaaDoorXNamesx1
namespace Go.Proofs.YtcjfmlgljfggpaaDoor.XNames
open Go.RowKit Go.Proofs.YtcjfmlgljfggpaaDoorW.PrintWords Go.Proofs.YtcjfmlgljfggpaaDoorW.PrintLast Go.Proofs.YtcjfmlgljfggpaaDoorW.PrintMore
attribute [local go_sem] max2_int min2_int max_two min_two max_three min_three max_four min_four   -- for this text's walks alone
set_option linter.unusedVariables false
set_option linter.unusedSimpArgs false

/-! ### copselaw0_refusals: function 12 -/
def copselaw0_refusals.l0 : Nat → List Int → Int → Option (Bool)
  | 0, _, _ => none
  | k + 1, x1, x2 => if x2 < (x1.length : Int) then (if 0 ≤ x2 then (if (rd x1 x2) = (wrap64 (x2 + 1)) then (copselaw0_refusals.l0 k x1 (wrap64 (x2 + 1))) else (some false)) else (none)) else ((copsekit_Num.f none).bind fun t121 => (some (t121 == 0)))
def copselaw0_refusals.f (k : Nat)  : Option (Bool) := (copsekit_Num.f (some 1)).bind fun t104 => ((copsekit_Num.f (some 2)).bind fun t105 => ((copsekit_Num.f (some 3)).bind fun t106 => ((copsekit_Num.f (some 4)).bind fun t107 => ((copsekit_Num.f (some 5)).bind fun t108 => ((copsekit_Num.f (some 6)).bind fun t109 => ((copsekit_Num.f (some 7)).bind fun t110 => ((copsekit_Num.f (some 8)).bind fun t111 => ((copsekit_Num.f (some 9)).bind fun t112 => ((copsekit_Num.f (some 10)).bind fun t113 => ((copsekit_Num.f (some 11)).bind fun t114 => ((copsekit_Num.f (some 12)).bind fun t115 => ((copsekit_Num.f (some 13)).bind fun t116 => (copselaw0_refusals.l0 k (([t104, t105, t106, t107, t108, t109, t110, t111, t112, t113, t114, t115, t116] : List Int)) 0)))))))))))))
theorem copselaw0_refusals.mono_l : ∀ k, (∀ y0 y1, LeO (copselaw0_refusals.l0 k y0 y1) (copselaw0_refusals.l0 (k + 1) y0 y1))
  | 0 => fun _ _ r h => by simp [copselaw0_refusals.l0] at h
  | k + 1 => by
    have ih0 := copselaw0_refusals.mono_l k
    · intro y0 y1
      unfold copselaw0_refusals.l0
      repeat' first
      | (with_reducible exact ih0 _ _)
      | (with_reducible exact LeO.refl _)
      | (with_reducible exact LeO.none _)
      | (with_reducible refine LeO.ite ?_ ?_)
      | (with_reducible refine LeO.bind ?_ (fun _ => ?_))
      | exact ih0 _ _
      | exact LeO.none _
      | refine LeO.ite ?_ ?_
      | refine LeO.bind ?_ (fun _ => ?_)
theorem copselaw0_refusals.mono : ∀ k, LeO (copselaw0_refusals.f k ) (copselaw0_refusals.f (k + 1) ) := by
  intro  k
  have ih0 := copselaw0_refusals.mono_l k
  unfold copselaw0_refusals.f
  repeat' first
      | (with_reducible exact ih0 _ _)
      | (with_reducible exact LeO.refl _)
      | (with_reducible exact LeO.none _)
      | (with_reducible refine LeO.ite ?_ ?_)
      | (with_reducible refine LeO.bind ?_ (fun _ => ?_))
      | exact ih0 _ _
      | exact LeO.none _
      | refine LeO.ite ?_ ?_
      | refine LeO.bind ?_ (fun _ => ?_)
def copselaw0_refusals.T1 : Bool × List (List Nat × List Nat) := (true, [([], []), ([0], [0]), ([], []), ([2, 1], [2]), ([], []), ([4, 3], [4]), ([], []), ([6, 5], [6]), ([], []), ([8, 7], [8]), ([], []), ([10, 9], [10]), ([], []), ([12, 11], [12]), ([], []), ([14, 13], [14]), ([], []), ([16, 15], [16]), ([], []), ([18, 17], [18]), ([], []), ([20, 19], [20]), ([], []), ([22, 21], [22]), ([], []), ([24, 23], [24]), ([1, 3, 5, 7, 9, 11, 13, 15, 17, 19, 21, 23, 25], [1, 3, 5, 7, 9, 11, 13, 15, 17, 19, 21, 23, 25]), ([26, 25, 0, 1, 2, 3, 4, 5, 6, 7, 8, 9, 10, 11, 12, 13, 14, 15, 16, 17, 18, 19, 20, 21, 22, 23, 24, 25, 26], [26])])
def copselaw0_refusals.B1 : List Nat := [0, 1, 0, 7, 0, 31, 0, 127, 0, 511, 0, 2047, 0, 8191, 0, 32767, 0, 131071, 0, 524287, 0, 2097151, 0, 8388607, 0, 33554431, 67108863, 134217727]
theorem copselaw0_refusals.tab1 : rtab .any (opsOf Tryd.f12 1) = copselaw0_refusals.T1 := by kernel_rfl
theorem copselaw0_refusals.bits1 : waitsOk copselaw0_refusals.T1.2 copselaw0_refusals.B1 = true := by kernel_rfl
set_option maxHeartbeats 8000000 in
set_option maxRecDepth 100000 in
theorem copselaw0_refusals.calls (k : Nat) (E : Int → Addr)  (r : Bool) (w : World) (hG : Glob E w) (h : copselaw0_refusals.f k  = some r) :
    Calls Tryd.prog 12 #[] w fun e w' => e = .returned (.bool r) ∧ Below w.heap.size w w' := by
  have HB := Aside0.mk (Below.refl w.heap.size w)
  have HG := Aside0.mk hG
  clear hG
  have H : ((copsekit_Num.f (some 1)).bind fun t104 => ((copsekit_Num.f (some 2)).bind fun t105 => ((copsekit_Num.f (some 3)).bind fun t106 => ((copsekit_Num.f (some 4)).bind fun t107 => ((copsekit_Num.f (some 5)).bind fun t108 => ((copsekit_Num.f (some 6)).bind fun t109 => ((copsekit_Num.f (some 7)).bind fun t110 => ((copsekit_Num.f (some 8)).bind fun t111 => ((copsekit_Num.f (some 9)).bind fun t112 => ((copsekit_Num.f (some 10)).bind fun t113 => ((copsekit_Num.f (some 11)).bind fun t114 => ((copsekit_Num.f (some 12)).bind fun t115 => ((copsekit_Num.f (some 13)).bind fun t116 => (copselaw0_refusals.l0 k (([t104, t105, t106, t107, t108, t109, t110, t111, t112, t113, t114, t115, t116] : List Int)) 0)))))))))))))) = some r := h
  clear h
  replace H := Option.bind_eq_some_iff.mp H
  obtain ⟨t104, A10, H⟩ := H
  replace H : ((copsekit_Num.f (some 2)).bind fun t105 => ((copsekit_Num.f (some 3)).bind fun t106 => ((copsekit_Num.f (some 4)).bind fun t107 => ((copsekit_Num.f (some 5)).bind fun t108 => ((copsekit_Num.f (some 6)).bind fun t109 => ((copsekit_Num.f (some 7)).bind fun t110 => ((copsekit_Num.f (some 8)).bind fun t111 => ((copsekit_Num.f (some 9)).bind fun t112 => ((copsekit_Num.f (some 10)).bind fun t113 => ((copsekit_Num.f (some 11)).bind fun t114 => ((copsekit_Num.f (some 12)).bind fun t115 => ((copsekit_Num.f (some 13)).bind fun t116 => (copselaw0_refusals.l0 k (([t104, t105, t106, t107, t108, t109, t110, t111, t112, t113, t114, t115, t116] : List Int)) 0))))))))))))) = some r := H
  have A1 := Aside0.mk A10
  clear A10
  replace H := Option.bind_eq_some_iff.mp H
  obtain ⟨t105, A20, H⟩ := H
  replace H : ((copsekit_Num.f (some 3)).bind fun t106 => ((copsekit_Num.f (some 4)).bind fun t107 => ((copsekit_Num.f (some 5)).bind fun t108 => ((copsekit_Num.f (some 6)).bind fun t109 => ((copsekit_Num.f (some 7)).bind fun t110 => ((copsekit_Num.f (some 8)).bind fun t111 => ((copsekit_Num.f (some 9)).bind fun t112 => ((copsekit_Num.f (some 10)).bind fun t113 => ((copsekit_Num.f (some 11)).bind fun t114 => ((copsekit_Num.f (some 12)).bind fun t115 => ((copsekit_Num.f (some 13)).bind fun t116 => (copselaw0_refusals.l0 k (([t104, t105, t106, t107, t108, t109, t110, t111, t112, t113, t114, t115, t116] : List Int)) 0)))))))))))) = some r := H
  have A2 := Aside0.mk A20
  clear A20
  replace H := Option.bind_eq_some_iff.mp H
  obtain ⟨t106, A30, H⟩ := H
  replace H : ((copsekit_Num.f (some 4)).bind fun t107 => ((copsekit_Num.f (some 5)).bind fun t108 => ((copsekit_Num.f (some 6)).bind fun t109 => ((copsekit_Num.f (some 7)).bind fun t110 => ((copsekit_Num.f (some 8)).bind fun t111 => ((copsekit_Num.f (some 9)).bind fun t112 => ((copsekit_Num.f (some 10)).bind fun t113 => ((copsekit_Num.f (some 11)).bind fun t114 => ((copsekit_Num.f (some 12)).bind fun t115 => ((copsekit_Num.f (some 13)).bind fun t116 => (copselaw0_refusals.l0 k (([t104, t105, t106, t107, t108, t109, t110, t111, t112, t113, t114, t115, t116] : List Int)) 0))))))))))) = some r := H
  have A3 := Aside0.mk A30
  clear A30
  replace H := Option.bind_eq_some_iff.mp H
  obtain ⟨t107, A40, H⟩ := H
  replace H : ((copsekit_Num.f (some 5)).bind fun t108 => ((copsekit_Num.f (some 6)).bind fun t109 => ((copsekit_Num.f (some 7)).bind fun t110 => ((copsekit_Num.f (some 8)).bind fun t111 => ((copsekit_Num.f (some 9)).bind fun t112 => ((copsekit_Num.f (some 10)).bind fun t113 => ((copsekit_Num.f (some 11)).bind fun t114 => ((copsekit_Num.f (some 12)).bind fun t115 => ((copsekit_Num.f (some 13)).bind fun t116 => (copselaw0_refusals.l0 k (([t104, t105, t106, t107, t108, t109, t110, t111, t112, t113, t114, t115, t116] : List Int)) 0)))))))))) = some r := H
  have A4 := Aside0.mk A40
  clear A40
  replace H := Option.bind_eq_some_iff.mp H
  obtain ⟨t108, A50, H⟩ := H
  replace H : ((copsekit_Num.f (some 6)).bind fun t109 => ((copsekit_Num.f (some 7)).bind fun t110 => ((copsekit_Num.f (some 8)).bind fun t111 => ((copsekit_Num.f (some 9)).bind fun t112 => ((copsekit_Num.f (some 10)).bind fun t113 => ((copsekit_Num.f (some 11)).bind fun t114 => ((copsekit_Num.f (some 12)).bind fun t115 => ((copsekit_Num.f (some 13)).bind fun t116 => (copselaw0_refusals.l0 k (([t104, t105, t106, t107, t108, t109, t110, t111, t112, t113, t114, t115, t116] : List Int)) 0))))))))) = some r := H
  have A5 := Aside0.mk A50
  clear A50
  replace H := Option.bind_eq_some_iff.mp H
  obtain ⟨t109, A60, H⟩ := H
  replace H : ((copsekit_Num.f (some 7)).bind fun t110 => ((copsekit_Num.f (some 8)).bind fun t111 => ((copsekit_Num.f (some 9)).bind fun t112 => ((copsekit_Num.f (some 10)).bind fun t113 => ((copsekit_Num.f (some 11)).bind fun t114 => ((copsekit_Num.f (some 12)).bind fun t115 => ((copsekit_Num.f (some 13)).bind fun t116 => (copselaw0_refusals.l0 k (([t104, t105, t106, t107, t108, t109, t110, t111, t112, t113, t114, t115, t116] : List Int)) 0)))))))) = some r := H
  have A6 := Aside0.mk A60
  clear A60
  replace H := Option.bind_eq_some_iff.mp H
  obtain ⟨t110, A70, H⟩ := H
  replace H : ((copsekit_Num.f (some 8)).bind fun t111 => ((copsekit_Num.f (some 9)).bind fun t112 => ((copsekit_Num.f (some 10)).bind fun t113 => ((copsekit_Num.f (some 11)).bind fun t114 => ((copsekit_Num.f (some 12)).bind fun t115 => ((copsekit_Num.f (some 13)).bind fun t116 => (copselaw0_refusals.l0 k (([t104, t105, t106, t107, t108, t109, t110, t111, t112, t113, t114, t115, t116] : List Int)) 0))))))) = some r := H
  have A7 := Aside0.mk A70
  clear A70
  replace H := Option.bind_eq_some_iff.mp H
  obtain ⟨t111, A80, H⟩ := H
  replace H : ((copsekit_Num.f (some 9)).bind fun t112 => ((copsekit_Num.f (some 10)).bind fun t113 => ((copsekit_Num.f (some 11)).bind fun t114 => ((copsekit_Num.f (some 12)).bind fun t115 => ((copsekit_Num.f (some 13)).bind fun t116 => (copselaw0_refusals.l0 k (([t104, t105, t106, t107, t108, t109, t110, t111, t112, t113, t114, t115, t116] : List Int)) 0)))))) = some r := H
  have A8 := Aside0.mk A80
  clear A80
  replace H := Option.bind_eq_some_iff.mp H
  obtain ⟨t112, A90, H⟩ := H
  replace H : ((copsekit_Num.f (some 10)).bind fun t113 => ((copsekit_Num.f (some 11)).bind fun t114 => ((copsekit_Num.f (some 12)).bind fun t115 => ((copsekit_Num.f (some 13)).bind fun t116 => (copselaw0_refusals.l0 k (([t104, t105, t106, t107, t108, t109, t110, t111, t112, t113, t114, t115, t116] : List Int)) 0))))) = some r := H
  have A9 := Aside0.mk A90
  clear A90
  replace H := Option.bind_eq_some_iff.mp H
  obtain ⟨t113, A100, H⟩ := H
  replace H : ((copsekit_Num.f (some 11)).bind fun t114 => ((copsekit_Num.f (some 12)).bind fun t115 => ((copsekit_Num.f (some 13)).bind fun t116 => (copselaw0_refusals.l0 k (([t104, t105, t106, t107, t108, t109, t110, t111, t112, t113, t114, t115, t116] : List Int)) 0)))) = some r := H
  have A10 := Aside0.mk A100
  clear A100
  replace H := Option.bind_eq_some_iff.mp H
  obtain ⟨t114, A110, H⟩ := H
  replace H : ((copsekit_Num.f (some 12)).bind fun t115 => ((copsekit_Num.f (some 13)).bind fun t116 => (copselaw0_refusals.l0 k (([t104, t105, t106, t107, t108, t109, t110, t111, t112, t113, t114, t115, t116] : List Int)) 0))) = some r := H
  have A11 := Aside0.mk A110
  clear A110
  replace H := Option.bind_eq_some_iff.mp H
  obtain ⟨t115, A120, H⟩ := H
  replace H : ((copsekit_Num.f (some 13)).bind fun t116 => (copselaw0_refusals.l0 k (([t104, t105, t106, t107, t108, t109, t110, t111, t112, t113, t114, t115, t116] : List Int)) 0)) = some r := H
  have A12 := Aside0.mk A120
  clear A120
  replace H := Option.bind_eq_some_iff.mp H
  obtain ⟨t116, A130, H⟩ := H
  replace H : (copselaw0_refusals.l0 k (([t104, t105, t106, t107, t108, t109, t110, t111, t112, t113, t114, t115, t116] : List Int)) 0) = some r := H
  have A13 := Aside0.mk A130
  clear A130
  obtain ⟨y117, hy117⟩ : ∃ y_ : List Int, y_ = (([t104, t105, t106, t107, t108, t109, t110, t111, t112, t113, t114, t115, t116] : List Int)) := ⟨_, rfl⟩
  replace H : (copselaw0_refusals.l0 k y117 0) = some r := by first | (rw [hy117]; with_reducible exact H) | (have H2_ := (Option.bind_some _ _).symm.trans H; rw [hy117]; with_reducible exact H2_) | (have H2_ := (Option.bind_some _ _).symm.trans H; with_reducible exact H2_) | with_reducible exact H | (rw [hy117]; exact H) | exact H
  have Ny117 := Aside0.mk hy117
  clear hy117
  have H' := Aside0.mk H
  clear H
  go_enter Tryd.func12, Tryd.ntmps12
  try go_wp2
  have n0_ := Aside0.mk (below_drew1 HB.out)
  clear HB
  have HB := n0_
  clear n0_
  have hx15 : w.cell? ⟨4, 0, none⟩ = some (.iface 71 (.pointer (some (E 1)))) := Glob.c4 HG.out
  have hx16 : w.cell? ⟨5, 0, none⟩ = some (.iface 71 (.pointer (some (E 2)))) := Glob.c5 HG.out
  have hx17 : w.cell? ⟨6, 0, none⟩ = some (.iface 71 (.pointer (some (E 3)))) := Glob.c6 HG.out
  have hx18 : w.cell? ⟨7, 0, none⟩ = some (.iface 71 (.pointer (some (E 4)))) := Glob.c7 HG.out
  have hx19 : w.cell? ⟨8, 0, none⟩ = some (.iface 71 (.pointer (some (E 5)))) := Glob.c8 HG.out
  have hx20 : w.cell? ⟨9, 0, none⟩ = some (.iface 71 (.pointer (some (E 6)))) := Glob.c9 HG.out
  have hx21 : w.cell? ⟨10, 0, none⟩ = some (.iface 71 (.pointer (some (E 7)))) := Glob.c10 HG.out
  have hx22 : w.cell? ⟨11, 0, none⟩ = some (.iface 71 (.pointer (some (E 8)))) := Glob.c11 HG.out
  have hx23 : w.cell? ⟨12, 0, none⟩ = some (.iface 71 (.pointer (some (E 9)))) := Glob.c12 HG.out
  have hx24 : w.cell? ⟨13, 0, none⟩ = some (.iface 71 (.pointer (some (E 10)))) := Glob.c13 HG.out
  have hx25 : w.cell? ⟨14, 0, none⟩ = some (.iface 71 (.pointer (some (E 11)))) := Glob.c14 HG.out
  have hx26 : w.cell? ⟨15, 0, none⟩ = some (.iface 71 (.pointer (some (E 12)))) := Glob.c15 HG.out
  have hx27 : w.cell? ⟨16, 0, none⟩ = some (.iface 71 (.pointer (some (E 13)))) := Glob.c16 HG.out
  have CA1 := fun (W : World) (hG_ : Glob E W) => copsekit_Num.calls E (some 1) t104 W hG_ A1.out
  try simp only [errW_none, errW_some] at CA1
  refine start_ (n := 28) (S := fun w' => w'.cell? ⟨4, 0, none⟩ = some (.iface 71 (.pointer (some (E 1)))) ∧ w'.cell? ⟨5, 0, none⟩ = some (.iface 71 (.pointer (some (E 2)))) ∧ w'.cell? ⟨6, 0, none⟩ = some (.iface 71 (.pointer (some (E 3)))) ∧ w'.cell? ⟨7, 0, none⟩ = some (.iface 71 (.pointer (some (E 4)))) ∧ w'.cell? ⟨8, 0, none⟩ = some (.iface 71 (.pointer (some (E 5)))) ∧ w'.cell? ⟨9, 0, none⟩ = some (.iface 71 (.pointer (some (E 6)))) ∧ w'.cell? ⟨10, 0, none⟩ = some (.iface 71 (.pointer (some (E 7)))) ∧ w'.cell? ⟨11, 0, none⟩ = some (.iface 71 (.pointer (some (E 8)))) ∧ w'.cell? ⟨12, 0, none⟩ = some (.iface 71 (.pointer (some (E 9)))) ∧ w'.cell? ⟨13, 0, none⟩ = some (.iface 71 (.pointer (some (E 10)))) ∧ w'.cell? ⟨14, 0, none⟩ = some (.iface 71 (.pointer (some (E 11)))) ∧ w'.cell? ⟨15, 0, none⟩ = some (.iface 71 (.pointer (some (E 12)))) ∧ w'.cell? ⟨16, 0, none⟩ = some (.iface 71 (.pointer (some (E 13))))) (ds := []) #[false, false, false, false, false, false, false, false, false, false, false, false, false, false, false, false, false, false, false, false, false, false, false, false, false, false, false, false] (by kernel_rfl) rfl rfl ⟨((HB.out.cell (World.block_lt_of_cell? w _ hx15)).trans hx15), ((HB.out.cell (World.block_lt_of_cell? w _ hx16)).trans hx16), ((HB.out.cell (World.block_lt_of_cell? w _ hx17)).trans hx17), ((HB.out.cell (World.block_lt_of_cell? w _ hx18)).trans hx18), ((HB.out.cell (World.block_lt_of_cell? w _ hx19)).trans hx19), ((HB.out.cell (World.block_lt_of_cell? w _ hx20)).trans hx20), ((HB.out.cell (World.block_lt_of_cell? w _ hx21)).trans hx21), ((HB.out.cell (World.block_lt_of_cell? w _ hx22)).trans hx22), ((HB.out.cell (World.block_lt_of_cell? w _ hx23)).trans hx23), ((HB.out.cell (World.block_lt_of_cell? w _ hx24)).trans hx24), ((HB.out.cell (World.block_lt_of_cell? w _ hx25)).trans hx25), ((HB.out.cell (World.block_lt_of_cell? w _ hx26)).trans hx26), ((HB.out.cell (World.block_lt_of_cell? w _ hx27)).trans hx27)⟩ (fun hHeld => ?_); refine with_tabW copselaw0_refusals.tab1 copselaw0_refusals.bits1 (fun HT_ HW_ => ?_)
  generalize w.drew = w14 at HB hHeld ⊢
  refine take_ (i := 0) (N := some 3) (v := ?_) (a' := ?_) #[true, false, false, false, false, false, false, false, false, false, false, false, false, false, false, false, false, false, false, false, false, false, false, false, false, false, false, false] rfl rfl (take_ofW HT_.out HW_.out (by kernel_rfl)) (fun _ _ _ h => h) (Or.inl ⟨by rfl, ?_⟩) hHeld ?_ ?_
  rotate_left
  · rintro w' ⟨s0, s1, s2, s3, s4, s5, s6, s7, s8, s9, s10, s11, s12⟩
    go_simp
    with_reducible rfl
  rotate_left
  · simp only [Act.put, List.setIfInBounds_toArray, List.set_cons_zero, List.set_cons_succ, i64_w, i32_w]
    rfl
  refine take_ (i := 2) (N := some 5) (v := ?_) (a' := ?_) #[true, false, true, false, false, false, false, false, false, false, false, false, false, false, false, false, false, false, false, false, false, false, false, false, false, false, false, false] rfl rfl (take_ofW HT_.out HW_.out (by kernel_rfl)) (fun _ _ _ h => h) (Or.inl ⟨by rfl, ?_⟩) hHeld ?_ ?_
  rotate_left
  · rintro w' ⟨s0, s1, s2, s3, s4, s5, s6, s7, s8, s9, s10, s11, s12⟩
    go_simp
    with_reducible rfl
  rotate_left
  · simp only [Act.put, List.setIfInBounds_toArray, List.set_cons_zero, List.set_cons_succ, i64_w, i32_w]
    rfl
  refine take_ (i := 4) (N := some 7) (v := ?_) (a' := ?_) #[true, false, true, false, true, false, false, false, false, false, false, false, false, false, false, false, false, false, false, false, false, false, false, false, false, false, false, false] rfl rfl (take_ofW HT_.out HW_.out (by kernel_rfl)) (fun _ _ _ h => h) (Or.inl ⟨by rfl, ?_⟩) hHeld ?_ ?_
  rotate_left
  · rintro w' ⟨s0, s1, s2, s3, s4, s5, s6, s7, s8, s9, s10, s11, s12⟩
    go_simp
    with_reducible rfl
  rotate_left
  · simp only [Act.put, List.setIfInBounds_toArray, List.set_cons_zero, List.set_cons_succ, i64_w, i32_w]
    rfl
  refine take_ (i := 6) (N := some 9) (v := ?_) (a' := ?_) #[true, false, true, false, true, false, true, false, false, false, false, false, false, false, false, false, false, false, false, false, false, false, false, false, false, false, false, false] rfl rfl (take_ofW HT_.out HW_.out (by kernel_rfl)) (fun _ _ _ h => h) (Or.inl ⟨by rfl, ?_⟩) hHeld ?_ ?_
  rotate_left
  · rintro w' ⟨s0, s1, s2, s3, s4, s5, s6, s7, s8, s9, s10, s11, s12⟩
    go_simp
    with_reducible rfl
  rotate_left
  · simp only [Act.put, List.setIfInBounds_toArray, List.set_cons_zero, List.set_cons_succ, i64_w, i32_w]
    rfl
  refine take_ (i := 8) (N := some 11) (v := ?_) (a' := ?_) #[true, false, true, false, true, false, true, false, true, false, false, false, false, false, false, false, false, false, false, false, false, false, false, false, false, false, false, false] rfl rfl (take_ofW HT_.out HW_.out (by kernel_rfl)) (fun _ _ _ h => h) (Or.inl ⟨by rfl, ?_⟩) hHeld ?_ ?_
  rotate_left
  · rintro w' ⟨s0, s1, s2, s3, s4, s5, s6, s7, s8, s9, s10, s11, s12⟩
    go_simp
    with_reducible rfl
  rotate_left
  · simp only [Act.put, List.setIfInBounds_toArray, List.set_cons_zero, List.set_cons_succ, i64_w, i32_w]
    rfl
  refine take_ (i := 10) (N := some 13) (v := ?_) (a' := ?_) #[true, false, true, false, true, false, true, false, true, false, true, false, false, false, false, false, false, false, false, false, false, false, false, false, false, false, false, false] rfl rfl (take_ofW HT_.out HW_.out (by kernel_rfl)) (fun _ _ _ h => h) (Or.inl ⟨by rfl, ?_⟩) hHeld ?_ ?_
  rotate_left
  · rintro w' ⟨s0, s1, s2, s3, s4, s5, s6, s7, s8, s9, s10, s11, s12⟩
    go_simp
    with_reducible rfl
  rotate_left
  · simp only [Act.put, List.setIfInBounds_toArray, List.set_cons_zero, List.set_cons_succ, i64_w, i32_w]
    rfl
  refine take_ (i := 12) (N := some 15) (v := ?_) (a' := ?_) #[true, false, true, false, true, false, true, false, true, false, true, false, true, false, false, false, false, false, false, false, false, false, false, false, false, false, false, false] rfl rfl (take_ofW HT_.out HW_.out (by kernel_rfl)) (fun _ _ _ h => h) (Or.inl ⟨by rfl, ?_⟩) hHeld ?_ ?_
  rotate_left
  · rintro w' ⟨s0, s1, s2, s3, s4, s5, s6, s7, s8, s9, s10, s11, s12⟩
    go_simp
    with_reducible rfl
  rotate_left
  · simp only [Act.put, List.setIfInBounds_toArray, List.set_cons_zero, List.set_cons_succ, i64_w, i32_w]
    rfl
  refine take_ (i := 14) (N := some 17) (v := ?_) (a' := ?_) #[true, false, true, false, true, false, true, false, true, false, true, false, true, false, true, false, false, false, false, false, false, false, false, false, false, false, false, false] rfl rfl (take_ofW HT_.out HW_.out (by kernel_rfl)) (fun _ _ _ h => h) (Or.inl ⟨by rfl, ?_⟩) hHeld ?_ ?_
  rotate_left
  · rintro w' ⟨s0, s1, s2, s3, s4, s5, s6, s7, s8, s9, s10, s11, s12⟩
    go_simp
    with_reducible rfl
  rotate_left
  · simp only [Act.put, List.setIfInBounds_toArray, List.set_cons_zero, List.set_cons_succ, i64_w, i32_w]
    rfl
  refine take_ (i := 16) (N := some 19) (v := ?_) (a' := ?_) #[true, false, true, false, true, false, true, false, true, false, true, false, true, false, true, false, true, false, false, false, false, false, false, false, false, false, false, false] rfl rfl (take_ofW HT_.out HW_.out (by kernel_rfl)) (fun _ _ _ h => h) (Or.inl ⟨by rfl, ?_⟩) hHeld ?_ ?_
  rotate_left
  · rintro w' ⟨s0, s1, s2, s3, s4, s5, s6, s7, s8, s9, s10, s11, s12⟩
    go_simp
    with_reducible rfl
  rotate_left
  · simp only [Act.put, List.setIfInBounds_toArray, List.set_cons_zero, List.set_cons_succ, i64_w, i32_w]
    rfl
  refine take_ (i := 18) (N := some 21) (v := ?_) (a' := ?_) #[true, false, true, false, true, false, true, false, true, false, true, false, true, false, true, false, true, false, true, false, false, false, false, false, false, false, false, false] rfl rfl (take_ofW HT_.out HW_.out (by kernel_rfl)) (fun _ _ _ h => h) (Or.inl ⟨by rfl, ?_⟩) hHeld ?_ ?_
  rotate_left
  · rintro w' ⟨s0, s1, s2, s3, s4, s5, s6, s7, s8, s9, s10, s11, s12⟩
    go_simp
    with_reducible rfl
  rotate_left
  · simp only [Act.put, List.setIfInBounds_toArray, List.set_cons_zero, List.set_cons_succ, i64_w, i32_w]
    rfl
  refine take_ (i := 20) (N := some 23) (v := ?_) (a' := ?_) #[true, false, true, false, true, false, true, false, true, false, true, false, true, false, true, false, true, false, true, false, true, false, false, false, false, false, false, false] rfl rfl (take_ofW HT_.out HW_.out (by kernel_rfl)) (fun _ _ _ h => h) (Or.inl ⟨by rfl, ?_⟩) hHeld ?_ ?_
  rotate_left
  · rintro w' ⟨s0, s1, s2, s3, s4, s5, s6, s7, s8, s9, s10, s11, s12⟩
    go_simp
    with_reducible rfl
  rotate_left
  · simp only [Act.put, List.setIfInBounds_toArray, List.set_cons_zero, List.set_cons_succ, i64_w, i32_w]
    rfl
  refine take_ (i := 22) (N := some 25) (v := ?_) (a' := ?_) #[true, false, true, false, true, false, true, false, true, false, true, false, true, false, true, false, true, false, true, false, true, false, true, false, false, false, false, false] rfl rfl (take_ofW HT_.out HW_.out (by kernel_rfl)) (fun _ _ _ h => h) (Or.inl ⟨by rfl, ?_⟩) hHeld ?_ ?_
  rotate_left
  · rintro w' ⟨s0, s1, s2, s3, s4, s5, s6, s7, s8, s9, s10, s11, s12⟩
    go_simp
    with_reducible rfl
  rotate_left
  · simp only [Act.put, List.setIfInBounds_toArray, List.set_cons_zero, List.set_cons_succ, i64_w, i32_w]
    rfl
  refine take_ (i := 24) (N := some 27) (v := ?_) (a' := ?_) #[true, false, true, false, true, false, true, false, true, false, true, false, true, false, true, false, true, false, true, false, true, false, true, false, true, false, false, false] rfl rfl (take_ofW HT_.out HW_.out (by kernel_rfl)) (fun _ _ _ h => h) (Or.inl ⟨by rfl, ?_⟩) hHeld ?_ ?_
  rotate_left
  · rintro w' ⟨s0, s1, s2, s3, s4, s5, s6, s7, s8, s9, s10, s11, s12⟩
    go_simp
    with_reducible rfl
  rotate_left
  · simp only [Act.put, List.setIfInBounds_toArray, List.set_cons_zero, List.set_cons_succ, i64_w, i32_w]
    rfl
  refine one_ (i := 1) (N := some 4) #[true, true, true, false, true, false, true, false, true, false, true, false, true, false, true, false, true, false, true, false, true, false, true, false, true, false, false, false] rfl rfl (one_of HT_.out (by kernel_rfl)) (by decide) (fun K hK => ?_)
  refine goes_ Tryd.func24 (by kernel_rfl) rfl #[.iface 71 (.pointer (some (E 1)))] (by rfl) rfl rfl (by (try simp only [List.map_toArray, List.map_cons, List.map_nil]); first | done | rfl | (simp only [List.length_drop, List.length_take]; rfl)) ?_
  with_reducible refine (CA1 _ ?side1).mono ?_
  (case side1 => exact (Glob.below HG.out (by repeat (first | (with_reducible first | exact HB.out | apply below_alloc | apply pw_below_drewN | apply below_drew1) | exact HB.out))))
  rintro e w' ⟨rfl, hnd_⟩
  have n0_ := Aside0.mk (show Below w.heap.size w w' by obtain ⟨nd, rfl⟩ := hnd_; exact pw_below_drewN HB.out nd)
  clear HB hnd_
  have HB := n0_
  clear n0_
  refine ⟨_, rfl, ?_⟩
  have CA2 := fun (W : World) (hG_ : Glob E W) => copsekit_Num.calls E (some 2) t105 W hG_ A2.out
  try simp only [errW_none, errW_some] at CA2
  refine hK.out _ _ ⟨((HB.out.cell (World.block_lt_of_cell? w _ hx15)).trans hx15), ((HB.out.cell (World.block_lt_of_cell? w _ hx16)).trans hx16), ((HB.out.cell (World.block_lt_of_cell? w _ hx17)).trans hx17), ((HB.out.cell (World.block_lt_of_cell? w _ hx18)).trans hx18), ((HB.out.cell (World.block_lt_of_cell? w _ hx19)).trans hx19), ((HB.out.cell (World.block_lt_of_cell? w _ hx20)).trans hx20), ((HB.out.cell (World.block_lt_of_cell? w _ hx21)).trans hx21), ((HB.out.cell (World.block_lt_of_cell? w _ hx22)).trans hx22), ((HB.out.cell (World.block_lt_of_cell? w _ hx23)).trans hx23), ((HB.out.cell (World.block_lt_of_cell? w _ hx24)).trans hx24), ((HB.out.cell (World.block_lt_of_cell? w _ hx25)).trans hx25), ((HB.out.cell (World.block_lt_of_cell? w _ hx26)).trans hx26), ((HB.out.cell (World.block_lt_of_cell? w _ hx27)).trans hx27)⟩ (fun hHeld => ?_)
  clear hK K
  refine norm_ (a' := ?_) ?_ ?_
  rotate_left
  · show Act.put _ (some 4) _ = _
    simp only [Act.put, List.setIfInBounds_toArray, List.set_cons_zero, List.set_cons_succ, i64_w, i32_w]
    rfl
  refine one_ (i := 3) (N := some 6) #[true, true, true, true, true, false, true, false, true, false, true, false, true, false, true, false, true, false, true, false, true, false, true, false, true, false, false, false] rfl rfl (one_of HT_.out (by kernel_rfl)) (by decide) (fun K hK => ?_)
  refine goes_ Tryd.func24 (by kernel_rfl) rfl #[.iface 71 (.pointer (some (E 2)))] (by rfl) rfl rfl (by (try simp only [List.map_toArray, List.map_cons, List.map_nil]); first | done | rfl | (simp only [List.length_drop, List.length_take]; rfl)) ?_
  with_reducible refine (CA2 _ ?side1).mono ?_
  (case side1 => exact (Glob.below HG.out (by repeat (first | (with_reducible first | exact HB.out | apply below_alloc | apply pw_below_drewN | apply below_drew1) | exact HB.out))))
  rintro e w' ⟨rfl, hnd_⟩
  have n0_ := Aside0.mk (show Below w.heap.size w w' by obtain ⟨nd, rfl⟩ := hnd_; exact pw_below_drewN HB.out nd)
  clear HB hnd_
  have HB := n0_
  clear n0_
  refine ⟨_, rfl, ?_⟩
  have CA3 := fun (W : World) (hG_ : Glob E W) => copsekit_Num.calls E (some 3) t106 W hG_ A3.out
  try simp only [errW_none, errW_some] at CA3
  refine hK.out _ _ ⟨((HB.out.cell (World.block_lt_of_cell? w _ hx15)).trans hx15), ((HB.out.cell (World.block_lt_of_cell? w _ hx16)).trans hx16), ((HB.out.cell (World.block_lt_of_cell? w _ hx17)).trans hx17), ((HB.out.cell (World.block_lt_of_cell? w _ hx18)).trans hx18), ((HB.out.cell (World.block_lt_of_cell? w _ hx19)).trans hx19), ((HB.out.cell (World.block_lt_of_cell? w _ hx20)).trans hx20), ((HB.out.cell (World.block_lt_of_cell? w _ hx21)).trans hx21), ((HB.out.cell (World.block_lt_of_cell? w _ hx22)).trans hx22), ((HB.out.cell (World.block_lt_of_cell? w _ hx23)).trans hx23), ((HB.out.cell (World.block_lt_of_cell? w _ hx24)).trans hx24), ((HB.out.cell (World.block_lt_of_cell? w _ hx25)).trans hx25), ((HB.out.cell (World.block_lt_of_cell? w _ hx26)).trans hx26), ((HB.out.cell (World.block_lt_of_cell? w _ hx27)).trans hx27)⟩ (fun hHeld => ?_)
  clear hK K
  refine norm_ (a' := ?_) ?_ ?_
  rotate_left
  · show Act.put _ (some 6) _ = _
    simp only [Act.put, List.setIfInBounds_toArray, List.set_cons_zero, List.set_cons_succ, i64_w, i32_w]
    rfl
  refine one_ (i := 5) (N := some 8) #[true, true, true, true, true, true, true, false, true, false, true, false, true, false, true, false, true, false, true, false, true, false, true, false, true, false, false, false] rfl rfl (one_of HT_.out (by kernel_rfl)) (by decide) (fun K hK => ?_)
  refine goes_ Tryd.func24 (by kernel_rfl) rfl #[.iface 71 (.pointer (some (E 3)))] (by rfl) rfl rfl (by (try simp only [List.map_toArray, List.map_cons, List.map_nil]); first | done | rfl | (simp only [List.length_drop, List.length_take]; rfl)) ?_
  with_reducible refine (CA3 _ ?side1).mono ?_
  (case side1 => exact (Glob.below HG.out (by repeat (first | (with_reducible first | exact HB.out | apply below_alloc | apply pw_below_drewN | apply below_drew1) | exact HB.out))))
  rintro e w' ⟨rfl, hnd_⟩
  have n0_ := Aside0.mk (show Below w.heap.size w w' by obtain ⟨nd, rfl⟩ := hnd_; exact pw_below_drewN HB.out nd)
  clear HB hnd_
  have HB := n0_
  clear n0_
  refine ⟨_, rfl, ?_⟩
  have CA4 := fun (W : World) (hG_ : Glob E W) => copsekit_Num.calls E (some 4) t107 W hG_ A4.out
  try simp only [errW_none, errW_some] at CA4
  refine hK.out _ _ ⟨((HB.out.cell (World.block_lt_of_cell? w _ hx15)).trans hx15), ((HB.out.cell (World.block_lt_of_cell? w _ hx16)).trans hx16), ((HB.out.cell (World.block_lt_of_cell? w _ hx17)).trans hx17), ((HB.out.cell (World.block_lt_of_cell? w _ hx18)).trans hx18), ((HB.out.cell (World.block_lt_of_cell? w _ hx19)).trans hx19), ((HB.out.cell (World.block_lt_of_cell? w _ hx20)).trans hx20), ((HB.out.cell (World.block_lt_of_cell? w _ hx21)).trans hx21), ((HB.out.cell (World.block_lt_of_cell? w _ hx22)).trans hx22), ((HB.out.cell (World.block_lt_of_cell? w _ hx23)).trans hx23), ((HB.out.cell (World.block_lt_of_cell? w _ hx24)).trans hx24), ((HB.out.cell (World.block_lt_of_cell? w _ hx25)).trans hx25), ((HB.out.cell (World.block_lt_of_cell? w _ hx26)).trans hx26), ((HB.out.cell (World.block_lt_of_cell? w _ hx27)).trans hx27)⟩ (fun hHeld => ?_)
  clear hK K
  refine norm_ (a' := ?_) ?_ ?_
  rotate_left
  · show Act.put _ (some 8) _ = _
    simp only [Act.put, List.setIfInBounds_toArray, List.set_cons_zero, List.set_cons_succ, i64_w, i32_w]
    rfl
  refine one_ (i := 7) (N := some 10) #[true, true, true, true, true, true, true, true, true, false, true, false, true, false, true, false, true, false, true, false, true, false, true, false, true, false, false, false] rfl rfl (one_of HT_.out (by kernel_rfl)) (by decide) (fun K hK => ?_)
  refine goes_ Tryd.func24 (by kernel_rfl) rfl #[.iface 71 (.pointer (some (E 4)))] (by rfl) rfl rfl (by (try simp only [List.map_toArray, List.map_cons, List.map_nil]); first | done | rfl | (simp only [List.length_drop, List.length_take]; rfl)) ?_
  with_reducible refine (CA4 _ ?side1).mono ?_
  (case side1 => exact (Glob.below HG.out (by repeat (first | (with_reducible first | exact HB.out | apply below_alloc | apply pw_below_drewN | apply below_drew1) | exact HB.out))))
  rintro e w' ⟨rfl, hnd_⟩
  have n0_ := Aside0.mk (show Below w.heap.size w w' by obtain ⟨nd, rfl⟩ := hnd_; exact pw_below_drewN HB.out nd)
  clear HB hnd_
  have HB := n0_
  clear n0_
  refine ⟨_, rfl, ?_⟩
  have CA5 := fun (W : World) (hG_ : Glob E W) => copsekit_Num.calls E (some 5) t108 W hG_ A5.out
  try simp only [errW_none, errW_some] at CA5
  refine hK.out _ _ ⟨((HB.out.cell (World.block_lt_of_cell? w _ hx15)).trans hx15), ((HB.out.cell (World.block_lt_of_cell? w _ hx16)).trans hx16), ((HB.out.cell (World.block_lt_of_cell? w _ hx17)).trans hx17), ((HB.out.cell (World.block_lt_of_cell? w _ hx18)).trans hx18), ((HB.out.cell (World.block_lt_of_cell? w _ hx19)).trans hx19), ((HB.out.cell (World.block_lt_of_cell? w _ hx20)).trans hx20), ((HB.out.cell (World.block_lt_of_cell? w _ hx21)).trans hx21), ((HB.out.cell (World.block_lt_of_cell? w _ hx22)).trans hx22), ((HB.out.cell (World.block_lt_of_cell? w _ hx23)).trans hx23), ((HB.out.cell (World.block_lt_of_cell? w _ hx24)).trans hx24), ((HB.out.cell (World.block_lt_of_cell? w _ hx25)).trans hx25), ((HB.out.cell (World.block_lt_of_cell? w _ hx26)).trans hx26), ((HB.out.cell (World.block_lt_of_cell? w _ hx27)).trans hx27)⟩ (fun hHeld => ?_)
  clear hK K
  refine norm_ (a' := ?_) ?_ ?_
  rotate_left
  · show Act.put _ (some 10) _ = _
    simp only [Act.put, List.setIfInBounds_toArray, List.set_cons_zero, List.set_cons_succ, i64_w, i32_w]
    rfl
  refine one_ (i := 9) (N := some 12) #[true, true, true, true, true, true, true, true, true, true, true, false, true, false, true, false, true, false, true, false, true, false, true, false, true, false, false, false] rfl rfl (one_of HT_.out (by kernel_rfl)) (by decide) (fun K hK => ?_)
  refine goes_ Tryd.func24 (by kernel_rfl) rfl #[.iface 71 (.pointer (some (E 5)))] (by rfl) rfl rfl (by (try simp only [List.map_toArray, List.map_cons, List.map_nil]); first | done | rfl | (simp only [List.length_drop, List.length_take]; rfl)) ?_
  with_reducible refine (CA5 _ ?side1).mono ?_
  (case side1 => exact (Glob.below HG.out (by repeat (first | (with_reducible first | exact HB.out | apply below_alloc | apply pw_below_drewN | apply below_drew1) | exact HB.out))))
  rintro e w' ⟨rfl, hnd_⟩
  have n0_ := Aside0.mk (show Below w.heap.size w w' by obtain ⟨nd, rfl⟩ := hnd_; exact pw_below_drewN HB.out nd)
  clear HB hnd_
  have HB := n0_
  clear n0_
  refine ⟨_, rfl, ?_⟩
  have CA6 := fun (W : World) (hG_ : Glob E W) => copsekit_Num.calls E (some 6) t109 W hG_ A6.out
  try simp only [errW_none, errW_some] at CA6
  refine hK.out _ _ ⟨((HB.out.cell (World.block_lt_of_cell? w _ hx15)).trans hx15), ((HB.out.cell (World.block_lt_of_cell? w _ hx16)).trans hx16), ((HB.out.cell (World.block_lt_of_cell? w _ hx17)).trans hx17), ((HB.out.cell (World.block_lt_of_cell? w _ hx18)).trans hx18), ((HB.out.cell (World.block_lt_of_cell? w _ hx19)).trans hx19), ((HB.out.cell (World.block_lt_of_cell? w _ hx20)).trans hx20), ((HB.out.cell (World.block_lt_of_cell? w _ hx21)).trans hx21), ((HB.out.cell (World.block_lt_of_cell? w _ hx22)).trans hx22), ((HB.out.cell (World.block_lt_of_cell? w _ hx23)).trans hx23), ((HB.out.cell (World.block_lt_of_cell? w _ hx24)).trans hx24), ((HB.out.cell (World.block_lt_of_cell? w _ hx25)).trans hx25), ((HB.out.cell (World.block_lt_of_cell? w _ hx26)).trans hx26), ((HB.out.cell (World.block_lt_of_cell? w _ hx27)).trans hx27)⟩ (fun hHeld => ?_)
  clear hK K
  refine norm_ (a' := ?_) ?_ ?_
  rotate_left
  · show Act.put _ (some 12) _ = _
    simp only [Act.put, List.setIfInBounds_toArray, List.set_cons_zero, List.set_cons_succ, i64_w, i32_w]
    rfl
  refine one_ (i := 11) (N := some 14) #[true, true, true, true, true, true, true, true, true, true, true, true, true, false, true, false, true, false, true, false, true, false, true, false, true, false, false, false] rfl rfl (one_of HT_.out (by kernel_rfl)) (by decide) (fun K hK => ?_)
  refine goes_ Tryd.func24 (by kernel_rfl) rfl #[.iface 71 (.pointer (some (E 6)))] (by rfl) rfl rfl (by (try simp only [List.map_toArray, List.map_cons, List.map_nil]); first | done | rfl | (simp only [List.length_drop, List.length_take]; rfl)) ?_
  with_reducible refine (CA6 _ ?side1).mono ?_
  (case side1 => exact (Glob.below HG.out (by repeat (first | (with_reducible first | exact HB.out | apply below_alloc | apply pw_below_drewN | apply below_drew1) | exact HB.out))))
  rintro e w' ⟨rfl, hnd_⟩
  have n0_ := Aside0.mk (show Below w.heap.size w w' by obtain ⟨nd, rfl⟩ := hnd_; exact pw_below_drewN HB.out nd)
  clear HB hnd_
  have HB := n0_
  clear n0_
  refine ⟨_, rfl, ?_⟩
  have CA7 := fun (W : World) (hG_ : Glob E W) => copsekit_Num.calls E (some 7) t110 W hG_ A7.out
  try simp only [errW_none, errW_some] at CA7
  refine hK.out _ _ ⟨((HB.out.cell (World.block_lt_of_cell? w _ hx15)).trans hx15), ((HB.out.cell (World.block_lt_of_cell? w _ hx16)).trans hx16), ((HB.out.cell (World.block_lt_of_cell? w _ hx17)).trans hx17), ((HB.out.cell (World.block_lt_of_cell? w _ hx18)).trans hx18), ((HB.out.cell (World.block_lt_of_cell? w _ hx19)).trans hx19), ((HB.out.cell (World.block_lt_of_cell? w _ hx20)).trans hx20), ((HB.out.cell (World.block_lt_of_cell? w _ hx21)).trans hx21), ((HB.out.cell (World.block_lt_of_cell? w _ hx22)).trans hx22), ((HB.out.cell (World.block_lt_of_cell? w _ hx23)).trans hx23), ((HB.out.cell (World.block_lt_of_cell? w _ hx24)).trans hx24), ((HB.out.cell (World.block_lt_of_cell? w _ hx25)).trans hx25), ((HB.out.cell (World.block_lt_of_cell? w _ hx26)).trans hx26), ((HB.out.cell (World.block_lt_of_cell? w _ hx27)).trans hx27)⟩ (fun hHeld => ?_)
  clear hK K
  refine norm_ (a' := ?_) ?_ ?_
  rotate_left
  · show Act.put _ (some 14) _ = _
    simp only [Act.put, List.setIfInBounds_toArray, List.set_cons_zero, List.set_cons_succ, i64_w, i32_w]
    rfl
  refine one_ (i := 13) (N := some 16) #[true, true, true, true, true, true, true, true, true, true, true, true, true, true, true, false, true, false, true, false, true, false, true, false, true, false, false, false] rfl rfl (one_of HT_.out (by kernel_rfl)) (by decide) (fun K hK => ?_)
  refine goes_ Tryd.func24 (by kernel_rfl) rfl #[.iface 71 (.pointer (some (E 7)))] (by rfl) rfl rfl (by (try simp only [List.map_toArray, List.map_cons, List.map_nil]); first | done | rfl | (simp only [List.length_drop, List.length_take]; rfl)) ?_
  with_reducible refine (CA7 _ ?side1).mono ?_
  (case side1 => exact (Glob.below HG.out (by repeat (first | (with_reducible first | exact HB.out | apply below_alloc | apply pw_below_drewN | apply below_drew1) | exact HB.out))))
  rintro e w' ⟨rfl, hnd_⟩
  have n0_ := Aside0.mk (show Below w.heap.size w w' by obtain ⟨nd, rfl⟩ := hnd_; exact pw_below_drewN HB.out nd)
  clear HB hnd_
  have HB := n0_
  clear n0_
  refine ⟨_, rfl, ?_⟩
  have CA8 := fun (W : World) (hG_ : Glob E W) => copsekit_Num.calls E (some 8) t111 W hG_ A8.out
  try simp only [errW_none, errW_some] at CA8
  refine hK.out _ _ ⟨((HB.out.cell (World.block_lt_of_cell? w _ hx15)).trans hx15), ((HB.out.cell (World.block_lt_of_cell? w _ hx16)).trans hx16), ((HB.out.cell (World.block_lt_of_cell? w _ hx17)).trans hx17), ((HB.out.cell (World.block_lt_of_cell? w _ hx18)).trans hx18), ((HB.out.cell (World.block_lt_of_cell? w _ hx19)).trans hx19), ((HB.out.cell (World.block_lt_of_cell? w _ hx20)).trans hx20), ((HB.out.cell (World.block_lt_of_cell? w _ hx21)).trans hx21), ((HB.out.cell (World.block_lt_of_cell? w _ hx22)).trans hx22), ((HB.out.cell (World.block_lt_of_cell? w _ hx23)).trans hx23), ((HB.out.cell (World.block_lt_of_cell? w _ hx24)).trans hx24), ((HB.out.cell (World.block_lt_of_cell? w _ hx25)).trans hx25), ((HB.out.cell (World.block_lt_of_cell? w _ hx26)).trans hx26), ((HB.out.cell (World.block_lt_of_cell? w _ hx27)).trans hx27)⟩ (fun hHeld => ?_)
  clear hK K
  refine norm_ (a' := ?_) ?_ ?_
  rotate_left
  · show Act.put _ (some 16) _ = _
    simp only [Act.put, List.setIfInBounds_toArray, List.set_cons_zero, List.set_cons_succ, i64_w, i32_w]
    rfl
  refine one_ (i := 15) (N := some 18) #[true, true, true, true, true, true, true, true, true, true, true, true, true, true, true, true, true, false, true, false, true, false, true, false, true, false, false, false] rfl rfl (one_of HT_.out (by kernel_rfl)) (by decide) (fun K hK => ?_)
  refine goes_ Tryd.func24 (by kernel_rfl) rfl #[.iface 71 (.pointer (some (E 8)))] (by rfl) rfl rfl (by (try simp only [List.map_toArray, List.map_cons, List.map_nil]); first | done | rfl | (simp only [List.length_drop, List.length_take]; rfl)) ?_
  with_reducible refine (CA8 _ ?side1).mono ?_
  (case side1 => exact (Glob.below HG.out (by repeat (first | (with_reducible first | exact HB.out | apply below_alloc | apply pw_below_drewN | apply below_drew1) | exact HB.out))))
  rintro e w' ⟨rfl, hnd_⟩
  have n0_ := Aside0.mk (show Below w.heap.size w w' by obtain ⟨nd, rfl⟩ := hnd_; exact pw_below_drewN HB.out nd)
  clear HB hnd_
  have HB := n0_
  clear n0_
  refine ⟨_, rfl, ?_⟩
  have CA9 := fun (W : World) (hG_ : Glob E W) => copsekit_Num.calls E (some 9) t112 W hG_ A9.out
  try simp only [errW_none, errW_some] at CA9
  refine hK.out _ _ ⟨((HB.out.cell (World.block_lt_of_cell? w _ hx15)).trans hx15), ((HB.out.cell (World.block_lt_of_cell? w _ hx16)).trans hx16), ((HB.out.cell (World.block_lt_of_cell? w _ hx17)).trans hx17), ((HB.out.cell (World.block_lt_of_cell? w _ hx18)).trans hx18), ((HB.out.cell (World.block_lt_of_cell? w _ hx19)).trans hx19), ((HB.out.cell (World.block_lt_of_cell? w _ hx20)).trans hx20), ((HB.out.cell (World.block_lt_of_cell? w _ hx21)).trans hx21), ((HB.out.cell (World.block_lt_of_cell? w _ hx22)).trans hx22), ((HB.out.cell (World.block_lt_of_cell? w _ hx23)).trans hx23), ((HB.out.cell (World.block_lt_of_cell? w _ hx24)).trans hx24), ((HB.out.cell (World.block_lt_of_cell? w _ hx25)).trans hx25), ((HB.out.cell (World.block_lt_of_cell? w _ hx26)).trans hx26), ((HB.out.cell (World.block_lt_of_cell? w _ hx27)).trans hx27)⟩ (fun hHeld => ?_)
  clear hK K
  refine norm_ (a' := ?_) ?_ ?_
  rotate_left
  · show Act.put _ (some 18) _ = _
    simp only [Act.put, List.setIfInBounds_toArray, List.set_cons_zero, List.set_cons_succ, i64_w, i32_w]
    rfl
  refine one_ (i := 17) (N := some 20) #[true, true, true, true, true, true, true, true, true, true, true, true, true, true, true, true, true, true, true, false, true, false, true, false, true, false, false, false] rfl rfl (one_of HT_.out (by kernel_rfl)) (by decide) (fun K hK => ?_)
  refine goes_ Tryd.func24 (by kernel_rfl) rfl #[.iface 71 (.pointer (some (E 9)))] (by rfl) rfl rfl (by (try simp only [List.map_toArray, List.map_cons, List.map_nil]); first | done | rfl | (simp only [List.length_drop, List.length_take]; rfl)) ?_
  with_reducible refine (CA9 _ ?side1).mono ?_
  (case side1 => exact (Glob.below HG.out (by repeat (first | (with_reducible first | exact HB.out | apply below_alloc | apply pw_below_drewN | apply below_drew1) | exact HB.out))))
  rintro e w' ⟨rfl, hnd_⟩
  have n0_ := Aside0.mk (show Below w.heap.size w w' by obtain ⟨nd, rfl⟩ := hnd_; exact pw_below_drewN HB.out nd)
  clear HB hnd_
  have HB := n0_
  clear n0_
  refine ⟨_, rfl, ?_⟩
  have CA10 := fun (W : World) (hG_ : Glob E W) => copsekit_Num.calls E (some 10) t113 W hG_ A10.out
  try simp only [errW_none, errW_some] at CA10
  refine hK.out _ _ ⟨((HB.out.cell (World.block_lt_of_cell? w _ hx15)).trans hx15), ((HB.out.cell (World.block_lt_of_cell? w _ hx16)).trans hx16), ((HB.out.cell (World.block_lt_of_cell? w _ hx17)).trans hx17), ((HB.out.cell (World.block_lt_of_cell? w _ hx18)).trans hx18), ((HB.out.cell (World.block_lt_of_cell? w _ hx19)).trans hx19), ((HB.out.cell (World.block_lt_of_cell? w _ hx20)).trans hx20), ((HB.out.cell (World.block_lt_of_cell? w _ hx21)).trans hx21), ((HB.out.cell (World.block_lt_of_cell? w _ hx22)).trans hx22), ((HB.out.cell (World.block_lt_of_cell? w _ hx23)).trans hx23), ((HB.out.cell (World.block_lt_of_cell? w _ hx24)).trans hx24), ((HB.out.cell (World.block_lt_of_cell? w _ hx25)).trans hx25), ((HB.out.cell (World.block_lt_of_cell? w _ hx26)).trans hx26), ((HB.out.cell (World.block_lt_of_cell? w _ hx27)).trans hx27)⟩ (fun hHeld => ?_)
  clear hK K
  refine norm_ (a' := ?_) ?_ ?_
  rotate_left
  · show Act.put _ (some 20) _ = _
    simp only [Act.put, List.setIfInBounds_toArray, List.set_cons_zero, List.set_cons_succ, i64_w, i32_w]
    rfl
  refine one_ (i := 19) (N := some 22) #[true, true, true, true, true, true, true, true, true, true, true, true, true, true, true, true, true, true, true, true, true, false, true, false, true, false, false, false] rfl rfl (one_of HT_.out (by kernel_rfl)) (by decide) (fun K hK => ?_)
  refine goes_ Tryd.func24 (by kernel_rfl) rfl #[.iface 71 (.pointer (some (E 10)))] (by rfl) rfl rfl (by (try simp only [List.map_toArray, List.map_cons, List.map_nil]); first | done | rfl | (simp only [List.length_drop, List.length_take]; rfl)) ?_
  with_reducible refine (CA10 _ ?side1).mono ?_
  (case side1 => exact (Glob.below HG.out (by repeat (first | (with_reducible first | exact HB.out | apply below_alloc | apply pw_below_drewN | apply below_drew1) | exact HB.out))))
  rintro e w' ⟨rfl, hnd_⟩
  have n0_ := Aside0.mk (show Below w.heap.size w w' by obtain ⟨nd, rfl⟩ := hnd_; exact pw_below_drewN HB.out nd)
  clear HB hnd_
  have HB := n0_
  clear n0_
  refine ⟨_, rfl, ?_⟩
  have CA11 := fun (W : World) (hG_ : Glob E W) => copsekit_Num.calls E (some 11) t114 W hG_ A11.out
  try simp only [errW_none, errW_some] at CA11
  refine hK.out _ _ ⟨((HB.out.cell (World.block_lt_of_cell? w _ hx15)).trans hx15), ((HB.out.cell (World.block_lt_of_cell? w _ hx16)).trans hx16), ((HB.out.cell (World.block_lt_of_cell? w _ hx17)).trans hx17), ((HB.out.cell (World.block_lt_of_cell? w _ hx18)).trans hx18), ((HB.out.cell (World.block_lt_of_cell? w _ hx19)).trans hx19), ((HB.out.cell (World.block_lt_of_cell? w _ hx20)).trans hx20), ((HB.out.cell (World.block_lt_of_cell? w _ hx21)).trans hx21), ((HB.out.cell (World.block_lt_of_cell? w _ hx22)).trans hx22), ((HB.out.cell (World.block_lt_of_cell? w _ hx23)).trans hx23), ((HB.out.cell (World.block_lt_of_cell? w _ hx24)).trans hx24), ((HB.out.cell (World.block_lt_of_cell? w _ hx25)).trans hx25), ((HB.out.cell (World.block_lt_of_cell? w _ hx26)).trans hx26), ((HB.out.cell (World.block_lt_of_cell? w _ hx27)).trans hx27)⟩ (fun hHeld => ?_)
  clear hK K
  refine norm_ (a' := ?_) ?_ ?_
  rotate_left
  · show Act.put _ (some 22) _ = _
    simp only [Act.put, List.setIfInBounds_toArray, List.set_cons_zero, List.set_cons_succ, i64_w, i32_w]
    rfl
  refine one_ (i := 21) (N := some 24) #[true, true, true, true, true, true, true, true, true, true, true, true, true, true, true, true, true, true, true, true, true, true, true, false, true, false, false, false] rfl rfl (one_of HT_.out (by kernel_rfl)) (by decide) (fun K hK => ?_)
  refine goes_ Tryd.func24 (by kernel_rfl) rfl #[.iface 71 (.pointer (some (E 11)))] (by rfl) rfl rfl (by (try simp only [List.map_toArray, List.map_cons, List.map_nil]); first | done | rfl | (simp only [List.length_drop, List.length_take]; rfl)) ?_
  with_reducible refine (CA11 _ ?side1).mono ?_
  (case side1 => exact (Glob.below HG.out (by repeat (first | (with_reducible first | exact HB.out | apply below_alloc | apply pw_below_drewN | apply below_drew1) | exact HB.out))))
  rintro e w' ⟨rfl, hnd_⟩
  have n0_ := Aside0.mk (show Below w.heap.size w w' by obtain ⟨nd, rfl⟩ := hnd_; exact pw_below_drewN HB.out nd)
  clear HB hnd_
  have HB := n0_
  clear n0_
  refine ⟨_, rfl, ?_⟩
  have CA12 := fun (W : World) (hG_ : Glob E W) => copsekit_Num.calls E (some 12) t115 W hG_ A12.out
  try simp only [errW_none, errW_some] at CA12
  refine hK.out _ _ ⟨((HB.out.cell (World.block_lt_of_cell? w _ hx15)).trans hx15), ((HB.out.cell (World.block_lt_of_cell? w _ hx16)).trans hx16), ((HB.out.cell (World.block_lt_of_cell? w _ hx17)).trans hx17), ((HB.out.cell (World.block_lt_of_cell? w _ hx18)).trans hx18), ((HB.out.cell (World.block_lt_of_cell? w _ hx19)).trans hx19), ((HB.out.cell (World.block_lt_of_cell? w _ hx20)).trans hx20), ((HB.out.cell (World.block_lt_of_cell? w _ hx21)).trans hx21), ((HB.out.cell (World.block_lt_of_cell? w _ hx22)).trans hx22), ((HB.out.cell (World.block_lt_of_cell? w _ hx23)).trans hx23), ((HB.out.cell (World.block_lt_of_cell? w _ hx24)).trans hx24), ((HB.out.cell (World.block_lt_of_cell? w _ hx25)).trans hx25), ((HB.out.cell (World.block_lt_of_cell? w _ hx26)).trans hx26), ((HB.out.cell (World.block_lt_of_cell? w _ hx27)).trans hx27)⟩ (fun hHeld => ?_)
  clear hK K
  refine norm_ (a' := ?_) ?_ ?_
  rotate_left
  · show Act.put _ (some 24) _ = _
    simp only [Act.put, List.setIfInBounds_toArray, List.set_cons_zero, List.set_cons_succ, i64_w, i32_w]
    rfl
  refine one_ (i := 23) (N := some 26) #[true, true, true, true, true, true, true, true, true, true, true, true, true, true, true, true, true, true, true, true, true, true, true, true, true, false, false, false] rfl rfl (one_of HT_.out (by kernel_rfl)) (by decide) (fun K hK => ?_)
  refine goes_ Tryd.func24 (by kernel_rfl) rfl #[.iface 71 (.pointer (some (E 12)))] (by rfl) rfl rfl (by (try simp only [List.map_toArray, List.map_cons, List.map_nil]); first | done | rfl | (simp only [List.length_drop, List.length_take]; rfl)) ?_
  with_reducible refine (CA12 _ ?side1).mono ?_
  (case side1 => exact (Glob.below HG.out (by repeat (first | (with_reducible first | exact HB.out | apply below_alloc | apply pw_below_drewN | apply below_drew1) | exact HB.out))))
  rintro e w' ⟨rfl, hnd_⟩
  have n0_ := Aside0.mk (show Below w.heap.size w w' by obtain ⟨nd, rfl⟩ := hnd_; exact pw_below_drewN HB.out nd)
  clear HB hnd_
  have HB := n0_
  clear n0_
  refine ⟨_, rfl, ?_⟩
  have CA13 := fun (W : World) (hG_ : Glob E W) => copsekit_Num.calls E (some 13) t116 W hG_ A13.out
  try simp only [errW_none, errW_some] at CA13
  refine hK.out _ _ ⟨((HB.out.cell (World.block_lt_of_cell? w _ hx15)).trans hx15), ((HB.out.cell (World.block_lt_of_cell? w _ hx16)).trans hx16), ((HB.out.cell (World.block_lt_of_cell? w _ hx17)).trans hx17), ((HB.out.cell (World.block_lt_of_cell? w _ hx18)).trans hx18), ((HB.out.cell (World.block_lt_of_cell? w _ hx19)).trans hx19), ((HB.out.cell (World.block_lt_of_cell? w _ hx20)).trans hx20), ((HB.out.cell (World.block_lt_of_cell? w _ hx21)).trans hx21), ((HB.out.cell (World.block_lt_of_cell? w _ hx22)).trans hx22), ((HB.out.cell (World.block_lt_of_cell? w _ hx23)).trans hx23), ((HB.out.cell (World.block_lt_of_cell? w _ hx24)).trans hx24), ((HB.out.cell (World.block_lt_of_cell? w _ hx25)).trans hx25), ((HB.out.cell (World.block_lt_of_cell? w _ hx26)).trans hx26), ((HB.out.cell (World.block_lt_of_cell? w _ hx27)).trans hx27)⟩ (fun hHeld => ?_)
  clear hK K
  refine norm_ (a' := ?_) ?_ ?_
  rotate_left
  · show Act.put _ (some 26) _ = _
    simp only [Act.put, List.setIfInBounds_toArray, List.set_cons_zero, List.set_cons_succ, i64_w, i32_w]
    rfl
  refine one_ (i := 25) (N := some 28) #[true, true, true, true, true, true, true, true, true, true, true, true, true, true, true, true, true, true, true, true, true, true, true, true, true, true, false, false] rfl rfl (one_of HT_.out (by kernel_rfl)) (by decide) (fun K hK => ?_)
  refine goes_ Tryd.func24 (by kernel_rfl) rfl #[.iface 71 (.pointer (some (E 13)))] (by rfl) rfl rfl (by (try simp only [List.map_toArray, List.map_cons, List.map_nil]); first | done | rfl | (simp only [List.length_drop, List.length_take]; rfl)) ?_
  with_reducible refine (CA13 _ ?side1).mono ?_
  (case side1 => exact (Glob.below HG.out (by repeat (first | (with_reducible first | exact HB.out | apply below_alloc | apply pw_below_drewN | apply below_drew1) | exact HB.out))))
  rintro e w' ⟨rfl, hnd_⟩
  have n0_ := Aside0.mk (show Below w.heap.size w w' by obtain ⟨nd, rfl⟩ := hnd_; exact pw_below_drewN HB.out nd)
  clear HB hnd_
  have HB := n0_
  clear n0_
  refine ⟨_, rfl, ?_⟩
  refine hK.out _ _ ⟨((HB.out.cell (World.block_lt_of_cell? w _ hx15)).trans hx15), ((HB.out.cell (World.block_lt_of_cell? w _ hx16)).trans hx16), ((HB.out.cell (World.block_lt_of_cell? w _ hx17)).trans hx17), ((HB.out.cell (World.block_lt_of_cell? w _ hx18)).trans hx18), ((HB.out.cell (World.block_lt_of_cell? w _ hx19)).trans hx19), ((HB.out.cell (World.block_lt_of_cell? w _ hx20)).trans hx20), ((HB.out.cell (World.block_lt_of_cell? w _ hx21)).trans hx21), ((HB.out.cell (World.block_lt_of_cell? w _ hx22)).trans hx22), ((HB.out.cell (World.block_lt_of_cell? w _ hx23)).trans hx23), ((HB.out.cell (World.block_lt_of_cell? w _ hx24)).trans hx24), ((HB.out.cell (World.block_lt_of_cell? w _ hx25)).trans hx25), ((HB.out.cell (World.block_lt_of_cell? w _ hx26)).trans hx26), ((HB.out.cell (World.block_lt_of_cell? w _ hx27)).trans hx27)⟩ (fun hHeld => ?_)
  clear hK K
  refine norm_ (a' := ?_) ?_ ?_
  rotate_left
  · show Act.put _ (some 28) _ = _
    simp only [Act.put, List.setIfInBounds_toArray, List.set_cons_zero, List.set_cons_succ, i64_w, i32_w]
    rfl
  refine one_ (i := 26) (N := some 29) #[true, true, true, true, true, true, true, true, true, true, true, true, true, true, true, true, true, true, true, true, true, true, true, true, true, true, true, false] rfl rfl (one_of HT_.out (by kernel_rfl)) (by decide) (fun K hK => ?_)
  refine Kd.R_lit_step (Kd.int .i64) _ 3 ?hg (N := 29) ?hd (xs := ([t104, t105, t106, t107, t108, t109, t110, t111, t112, t113, t114, t115, t116] : List Int)) (inner := [.int .i64 t104, .int .i64 t105, .int .i64 t106, .int .i64 t107, .int .i64 t108, .int .i64 t109, .int .i64 t110, .int .i64 t111, .int .i64 t112, .int .i64 t113, .int .i64 t114, .int .i64 t115, .int .i64 t116]) (ok := fun _ => True) (okp := fun _ => True) ?hr ?hp (fun _ hk => hk) trivial (Below.refl _ _) (Nat.le_refl _) (by simp) ?_; (case hd => rfl); (case hg => rfl); (case hr => first | (go_simp; done) | (go_simp; rfl)); (case hp => exact (Reps.one (show Kd.M (Kd.int .i64) _ _ _ t104 [.int .i64 t104] from rfl) (Reps.one (show Kd.M (Kd.int .i64) _ _ _ t105 [.int .i64 t105] from rfl) (Reps.one (show Kd.M (Kd.int .i64) _ _ _ t106 [.int .i64 t106] from rfl) (Reps.one (show Kd.M (Kd.int .i64) _ _ _ t107 [.int .i64 t107] from rfl) (Reps.one (show Kd.M (Kd.int .i64) _ _ _ t108 [.int .i64 t108] from rfl) (Reps.one (show Kd.M (Kd.int .i64) _ _ _ t109 [.int .i64 t109] from rfl) (Reps.one (show Kd.M (Kd.int .i64) _ _ _ t110 [.int .i64 t110] from rfl) (Reps.one (show Kd.M (Kd.int .i64) _ _ _ t111 [.int .i64 t111] from rfl) (Reps.one (show Kd.M (Kd.int .i64) _ _ _ t112 [.int .i64 t112] from rfl) (Reps.one (show Kd.M (Kd.int .i64) _ _ _ t113 [.int .i64 t113] from rfl) (Reps.one (show Kd.M (Kd.int .i64) _ _ _ t114 [.int .i64 t114] from rfl) (Reps.one (show Kd.M (Kd.int .i64) _ _ _ t115 [.int .i64 t115] from rfl) (Reps.one (show Kd.M (Kd.int .i64) _ _ _ t116 [.int .i64 t116] from rfl) (Reps.none _ _)))))))))))))))
  intro v118 w28 ho29 hb hg_ hnew_
  clear hg_ hnew_
  (first | rw [← Ny117.out] at ho29 | (simp only [Int.reduceToNat] at ho29; rw [← Ny117.out] at ho29))
  have n0_ := Aside0.mk (Kd.R_lower ho29 (below_size (by repeat (first | (with_reducible first | exact HB.out | apply below_alloc | apply pw_below_drewN | apply below_drew1) | exact HB.out))))
  have n1_ := Aside0.mk (below_step (by repeat (first | (with_reducible first | exact HB.out | apply below_alloc | apply pw_below_drewN | apply below_drew1) | exact HB.out)) hb)
  clear HB
  have HO119 := n0_
  have HB := n1_
  clear n0_ n1_
  clear hb ho29
  refine hK.out _ _ ⟨((HB.out.cell (World.block_lt_of_cell? w _ hx15)).trans hx15), ((HB.out.cell (World.block_lt_of_cell? w _ hx16)).trans hx16), ((HB.out.cell (World.block_lt_of_cell? w _ hx17)).trans hx17), ((HB.out.cell (World.block_lt_of_cell? w _ hx18)).trans hx18), ((HB.out.cell (World.block_lt_of_cell? w _ hx19)).trans hx19), ((HB.out.cell (World.block_lt_of_cell? w _ hx20)).trans hx20), ((HB.out.cell (World.block_lt_of_cell? w _ hx21)).trans hx21), ((HB.out.cell (World.block_lt_of_cell? w _ hx22)).trans hx22), ((HB.out.cell (World.block_lt_of_cell? w _ hx23)).trans hx23), ((HB.out.cell (World.block_lt_of_cell? w _ hx24)).trans hx24), ((HB.out.cell (World.block_lt_of_cell? w _ hx25)).trans hx25), ((HB.out.cell (World.block_lt_of_cell? w _ hx26)).trans hx26), ((HB.out.cell (World.block_lt_of_cell? w _ hx27)).trans hx27)⟩ (fun hHeld => ?_)
  clear hK K
  refine norm_ (a' := ?_) ?_ ?_
  rotate_left
  · show Act.put _ (some 29) _ = _
    simp only [Act.put, List.setIfInBounds_toArray, List.set_cons_zero, List.set_cons_succ, i64_w, i32_w]
    rfl
  refine pure_ (i := 27) (N := some 1) (v := ?_) (a' := ?_) #[true, true, true, true, true, true, true, true, true, true, true, true, true, true, true, true, true, true, true, true, true, true, true, true, true, true, true, true] rfl rfl (any_of HT_.out (by kernel_rfl)) (fun _ _ _ h => h) (Or.inl ⟨by rfl, ?_⟩) ?_ ?_
  rotate_left
  · intro w'
    go_simp
    with_reducible rfl
  rotate_left
  · simp only [Act.put, List.setIfInBounds_toArray, List.set_cons_zero, List.set_cons_succ, i64_w, i32_w]
    rfl
  refine done_ (done_of HT_.out (by kernel_rfl)) ?_
  try go_wp2
  go_loopg [2] k (fun kq v2 w' => ∃ (x2_1 : Int), v2 = .int .i64 x2_1 ∧ Aside0 (copselaw0_refusals.l0 kq y117 x2_1 = some r) ∧ Aside0 (kq ≤ k) ∧ Aside0 (Kd.R (Kd.int .i64) 3 w' w.heap.size (fun _ => True) v118 y117) ∧ Aside0 (Below w.heap.size w w'))
  case atStart => exact ⟨(0), (by first | rfl | (simp; done) | (simp [*]; done)), H', ⟨Nat.le_refl _⟩, ⟨by (with_reducible repeat (first | apply Kd.R_alloc | apply Kd.R_drewN | apply Kd.R_drew)); exact HO119.out⟩, ⟨by repeat (first | (with_reducible first | exact HB.out | apply below_alloc | apply pw_below_drewN | apply below_drew1) | exact HB.out)⟩⟩
  case round =>
    clear H'
    try clear c1
    try clear hx1
    try clear c2
    try clear p2
    try clear hx2
    try clear c4
    try clear c5
    try clear c6
    try clear c7
    try clear c8
    try clear c9
    try clear c10
    try clear c11
    try clear c12
    try clear c13
    try clear c14
    try clear c15
    try clear hx15
    try clear c16
    try clear hx16
    try clear hx17
    try clear hx18
    try clear hx19
    try clear hx20
    try clear hx21
    try clear hx22
    try clear hx23
    try clear c24
    try clear hx24
    try clear hx25
    try clear hx26
    try clear hx27
    obtain ⟨x2_1, rfl, HA, HK1, HO_1, HB⟩ := hrel
    cases gk with
    | zero => exact absurd HA.out (by simp [copselaw0_refusals.l0])
    | succ k1 =>
      have H := HA.out
      clear HA
      simp only [copselaw0_refusals.l0] at H
      by_cases c30 : x2_1 < (y117.length : Int)
      · rw [if_pos c30] at H
        have c30b0 : decide (x2_1 < (y117.length : Int)) = true := decide_eq_true c30
        clear c30
        by_cases c31 : 0 ≤ x2_1
        · rw [if_pos c31] at H
          have c31b0 : decide (0 ≤ x2_1) = true := decide_eq_true c31
          clear c31
          by_cases c32 : (rd y117 x2_1) = (wrap64 (x2_1 + 1))
          · rw [if_pos c32] at H
            have c32b0 : ((rd y117 x2_1) == (wrap64 (x2_1 + 1))) = true := beq_iff_eq.mpr c32
            have c32b1 : ((rd y117 x2_1) != (wrap64 (x2_1 + 1))) = false := bne_eq_false_iff_eq.mpr c32
            clear c32
            have H' := Aside0.mk H
            clear H
            obtain ⟨Ao33, co33, eo33⟩ := Kd.R_slice HO_1.out
            subst eo33
            have p120 : 0 ≤ (x2_1 : Int) := of_decide_eq_true (by first | (with_reducible assumption) | assumption)
            have q120 : x2_1 < (y117.length : Int) := of_decide_eq_true (by first | (with_reducible assumption) | assumption)
            obtain ⟨ad120, e120, hx120_0⟩ := Kd.at_int (Kd.R_reads' HO_1.out).2.2 x2_1 p120 q120
            cases e120
            replace p120 := eq_true p120
            replace q120 := eq_true q120
            go_wp2
            go_roundg k1
            case measure => have := HK1.out; omega
            case rel => exact ⟨(wrap64 (x2_1 + 1)), (by first | rfl | (simp; done) | (simp [*]; done)), H', ⟨by have := HK1.out; omega⟩, ⟨by (with_reducible repeat (first | apply Kd.R_alloc | apply Kd.R_drewN | apply Kd.R_drew)); exact HO_1.out⟩, ⟨by repeat (first | (with_reducible first | exact HB.out | apply below_alloc | apply pw_below_drewN | apply below_drew1) | exact HB.out)⟩⟩
          · rw [if_neg c32] at H
            have c32b0 : ((rd y117 x2_1) == (wrap64 (x2_1 + 1))) = false := beq_eq_false_iff_ne.mpr c32
            have c32b1 : ((rd y117 x2_1) != (wrap64 (x2_1 + 1))) = true := bne_iff_ne.mpr c32
            obtain rfl := Option.some.inj H
            obtain ⟨Ao34, co34, eo34⟩ := Kd.R_slice HO_1.out
            subst eo34
            have p120 : 0 ≤ (x2_1 : Int) := of_decide_eq_true (by first | (with_reducible assumption) | assumption)
            have q120 : x2_1 < (y117.length : Int) := of_decide_eq_true (by first | (with_reducible assumption) | assumption)
            obtain ⟨ad120, e120, hx120_0⟩ := Kd.at_int (Kd.R_reads' HO_1.out).2.2 x2_1 p120 q120
            cases e120
            replace p120 := eq_true p120
            replace q120 := eq_true q120
            go_wp2
            go_ret
            exact ⟨by first | rfl | (simp [errW_none, errW_some] <;> rfl) | (simp [*, errW_none, errW_some] <;> rfl), by repeat (first | (with_reducible first | exact HB.out | apply below_alloc | apply pw_below_drewN | apply below_drew1) | exact HB.out)⟩
        · rw [if_neg c31] at H
          exact absurd H (by simp)
      · rw [if_neg c30] at H
        have c30b0 : decide (x2_1 < (y117.length : Int)) = false := decide_eq_false c30
        clear c30
        replace H := Option.bind_eq_some_iff.mp H
        obtain ⟨t121, A350, H⟩ := H
        replace H : (some (t121 == 0)) = some r := H
        have A35 := Aside0.mk A350
        clear A350
        obtain rfl := Option.some.inj H
        obtain ⟨Ao36, co36, eo36⟩ := Kd.R_slice HO_1.out
        subst eo36
        have CA35 := fun (W : World) (hG_ : Glob E W) => copsekit_Num.calls E none t121 W hG_ A35.out
        try simp only [errW_none, errW_some] at CA35
        go_wp2_with (first | (go_at_call 24; (with_reducible refine (CA35 _ ?side1).mono ?_); (case side1 => exact (Glob.below HG.out (by repeat (first | (with_reducible first | exact HB.out | apply below_alloc | apply pw_below_drewN | apply below_drew1) | exact HB.out)))); rintro e w' ⟨rfl, ⟨nd, rfl⟩⟩))
        go_ret
        exact ⟨by first | rfl | (simp [errW_none, errW_some] <;> rfl) | (simp [*, errW_none, errW_some] <;> rfl), by repeat (first | (with_reducible first | exact HB.out | apply below_alloc | apply pw_below_drewN | apply below_drew1) | exact HB.out)⟩

/-! ### copselaw0_Names: function 3 -/
mutual
def copselaw0_Names.l0 : Nat → Int → Option (Bool)
  | 0, _ => none
  | k + 1, x2 => if x2 < 27 then (if 0 ≤ x2 then (if (rd tab0 x2) = (rd tab1 x2) then (copselaw0_Names.l0 k (wrap64 (x2 + 1))) else (some false)) else (none)) else (copselaw0_Names.l1 k 0)
def copselaw0_Names.l1 : Nat → Int → Option (Bool)
  | 0, _ => none
  | k + 1, x3 => if x3 < 45 then (if 0 ≤ x3 then (if (rd tab2 x3) = (rd tab3 x3) then (copselaw0_Names.l1 k (wrap64 (x3 + 1))) else (some false)) else (none)) else (some true)
end
def copselaw0_Names.f (k : Nat)  : Option (Bool) := (copselaw0_refusals.f k).bind fun t122 => (if t122 = true then (copselaw0_Names.l0 k 0) else (some false))
theorem copselaw0_Names.mono_l : ∀ k, (∀ y0, LeO (copselaw0_Names.l0 k y0) (copselaw0_Names.l0 (k + 1) y0)) ∧ (∀ y0, LeO (copselaw0_Names.l1 k y0) (copselaw0_Names.l1 (k + 1) y0))
  | 0 => ⟨fun _ r h => by simp [copselaw0_Names.l0] at h, fun _ r h => by simp [copselaw0_Names.l1] at h⟩
  | k + 1 => by
    obtain ⟨ih0, ih1⟩ := copselaw0_Names.mono_l k
    refine ⟨?_, ?_⟩
    · intro y0
      unfold copselaw0_Names.l0
      repeat' first
      | (with_reducible exact ih0 _)
      | (with_reducible exact ih1 _)
      | (with_reducible exact copselaw0_refusals.mono _)
      | (with_reducible exact LeO.refl _)
      | (with_reducible exact LeO.none _)
      | (with_reducible refine LeO.ite ?_ ?_)
      | (with_reducible refine LeO.bind ?_ (fun _ => ?_))
      | exact ih0 _
      | exact ih1 _
      | exact copselaw0_refusals.mono _
      | exact LeO.none _
      | refine LeO.ite ?_ ?_
      | refine LeO.bind ?_ (fun _ => ?_)
    · intro y0
      unfold copselaw0_Names.l1
      repeat' first
      | (with_reducible exact ih0 _)
      | (with_reducible exact ih1 _)
      | (with_reducible exact copselaw0_refusals.mono _)
      | (with_reducible exact LeO.refl _)
      | (with_reducible exact LeO.none _)
      | (with_reducible refine LeO.ite ?_ ?_)
      | (with_reducible refine LeO.bind ?_ (fun _ => ?_))
      | exact ih0 _
      | exact ih1 _
      | exact copselaw0_refusals.mono _
      | exact LeO.none _
      | refine LeO.ite ?_ ?_
      | refine LeO.bind ?_ (fun _ => ?_)
theorem copselaw0_Names.mono : ∀ k, LeO (copselaw0_Names.f k ) (copselaw0_Names.f (k + 1) ) := by
  intro  k
  obtain ⟨ih0, ih1⟩ := copselaw0_Names.mono_l k
  unfold copselaw0_Names.f
  repeat' first
      | (with_reducible exact ih0 _)
      | (with_reducible exact ih1 _)
      | (with_reducible exact copselaw0_refusals.mono _)
      | (with_reducible exact LeO.refl _)
      | (with_reducible exact LeO.none _)
      | (with_reducible refine LeO.ite ?_ ?_)
      | (with_reducible refine LeO.bind ?_ (fun _ => ?_))
      | exact ih0 _
      | exact ih1 _
      | exact copselaw0_refusals.mono _
      | exact LeO.none _
      | refine LeO.ite ?_ ?_
      | refine LeO.bind ?_ (fun _ => ?_)
set_option maxHeartbeats 8000000 in
set_option maxRecDepth 100000 in
theorem copselaw0_Names.calls (k : Nat) (E : Int → Addr)  (r : Bool) (w : World) (hG : Glob E w) (h : copselaw0_Names.f k  = some r) :
    Calls Tryd.prog 3 #[] w fun e w' => e = .returned (.bool r) ∧ Below w.heap.size w w' := by
  have HB := Aside0.mk (Below.refl w.heap.size w)
  have HG := Aside0.mk hG
  clear hG
  have H : ((copselaw0_refusals.f k).bind fun t122 => (if t122 = true then (copselaw0_Names.l0 k 0) else (some false))) = some r := h
  clear h
  replace H := Option.bind_eq_some_iff.mp H
  obtain ⟨t122, A10, H⟩ := H
  replace H : (if t122 = true then (copselaw0_Names.l0 k 0) else (some false)) = some r := H
  have A1 := Aside0.mk A10
  clear A10
  by_cases c2 : t122 = true
  · subst c2
    have H1 : (copselaw0_Names.l0 k 0) = some r := by rw [if_pos rfl] at H; exact H
    clear H
    have H := H1
    clear H1
    have H' := Aside0.mk H
    clear H
    go_enter Tryd.func3, Tryd.ntmps3
    go_wp2_with (first | (go_at_call 12; (with_reducible refine (copselaw0_refusals.calls k E  true _ ?side1 A1.out).mono ?_); (case side1 => exact (Glob.below HG.out (by repeat (first | (with_reducible first | exact HB.out | apply below_alloc | apply pw_below_drewN | apply below_drew1) | exact HB.out)))); rintro e w3 ⟨rfl, hb⟩; have n0_ := Aside0.mk (below_step (by repeat (first | (with_reducible first | exact HB.out | apply below_alloc | apply pw_below_drewN | apply below_drew1) | exact HB.out)) hb); clear HB; have HB := n0_; clear n0_; (try clear hb); (try clear hb2); (try clear hk); (try clear hi)))
    go_loopg [2] k (fun kq v2 w' => ∃ (x2_1 : Int), v2 = .int .i64 x2_1 ∧ Aside0 (copselaw0_Names.l0 kq x2_1 = some r) ∧ Aside0 (kq ≤ k) ∧ Aside0 (Below w.heap.size w w'))
    case atStart => exact ⟨(0), (by first | rfl | (simp; done) | (simp [*]; done)), H', ⟨Nat.le_refl _⟩, ⟨by repeat (first | (with_reducible first | exact HB.out | apply below_alloc | apply pw_below_drewN | apply below_drew1) | exact HB.out)⟩⟩
    case round =>
      clear H'
      try clear c2
      try clear p2
      try clear c3
      obtain ⟨x2_1, rfl, HA, HK1, HB⟩ := hrel
      cases gk with
      | zero => exact absurd HA.out (by simp [copselaw0_Names.l0])
      | succ k1 =>
        have H := HA.out
        clear HA
        simp only [copselaw0_Names.l0] at H
        by_cases c4 : x2_1 < 27
        · rw [if_pos c4] at H
          have c4b0 : decide (x2_1 < 27) = true := decide_eq_true c4
          clear c4
          by_cases c5 : 0 ≤ x2_1
          · rw [if_pos c5] at H
            have c5b0 : decide (0 ≤ x2_1) = true := decide_eq_true c5
            clear c5
            by_cases c6 : (rd tab0 x2_1) = (rd tab1 x2_1)
            · rw [if_pos c6] at H
              have c6b0 : ((rd tab0 x2_1) == (rd tab1 x2_1)) = true := beq_iff_eq.mpr c6
              have c6b1 : ((rd tab0 x2_1) != (rd tab1 x2_1)) = false := bne_eq_false_iff_eq.mpr c6
              clear c6
              have H' := Aside0.mk H
              clear H
              have p8 : 0 ≤ (x2_1 : Int) := of_decide_eq_true (by first | (with_reducible assumption) | assumption)
              have q9 : (x2_1 : Int) < 27 := of_decide_eq_true (by first | (with_reducible assumption) | assumption)
              have hx7 : wr.cell? ⟨0, (x2_1 : Int).toNat, none⟩ = some (.int .i64 (rd tab0 x2_1)) := Glob.t0 (Glob.below HG.out (by repeat (first | (with_reducible first | exact HB.out | apply below_alloc | apply pw_below_drewN | apply below_drew1) | exact HB.out))) _ (by omega)
              replace p8 := eq_true p8
              replace q9 := eq_true q9
              have p11 : 0 ≤ (x2_1 : Int) := of_decide_eq_true (by first | (with_reducible assumption) | assumption)
              have q12 : (x2_1 : Int) < 27 := of_decide_eq_true (by first | (with_reducible assumption) | assumption)
              have hx10 : wr.cell? ⟨1, (x2_1 : Int).toNat, none⟩ = some (.int .i64 (rd tab1 x2_1)) := Glob.t1 (Glob.below HG.out (by repeat (first | (with_reducible first | exact HB.out | apply below_alloc | apply pw_below_drewN | apply below_drew1) | exact HB.out))) _ (by omega)
              replace p11 := eq_true p11
              replace q12 := eq_true q12
              go_wp2
              repeat (go_quiet (fail); try go_wp2)
              go_roundg k1
              case measure => have := HK1.out; omega
              case rel => exact ⟨(wrap64 (x2_1 + 1)), (by first | rfl | (simp; done) | (simp [*]; done)), H', ⟨by have := HK1.out; omega⟩, ⟨by repeat (first | (with_reducible first | exact HB.out | apply below_alloc | apply pw_below_drewN | apply below_drew1) | exact HB.out)⟩⟩
            · rw [if_neg c6] at H
              have c6b0 : ((rd tab0 x2_1) == (rd tab1 x2_1)) = false := beq_eq_false_iff_ne.mpr c6
              have c6b1 : ((rd tab0 x2_1) != (rd tab1 x2_1)) = true := bne_iff_ne.mpr c6
              obtain rfl := Option.some.inj H
              have p14 : 0 ≤ (x2_1 : Int) := of_decide_eq_true (by first | (with_reducible assumption) | assumption)
              have q15 : (x2_1 : Int) < 27 := of_decide_eq_true (by first | (with_reducible assumption) | assumption)
              have hx13 : wr.cell? ⟨0, (x2_1 : Int).toNat, none⟩ = some (.int .i64 (rd tab0 x2_1)) := Glob.t0 (Glob.below HG.out (by repeat (first | (with_reducible first | exact HB.out | apply below_alloc | apply pw_below_drewN | apply below_drew1) | exact HB.out))) _ (by omega)
              replace p14 := eq_true p14
              replace q15 := eq_true q15
              have p17 : 0 ≤ (x2_1 : Int) := of_decide_eq_true (by first | (with_reducible assumption) | assumption)
              have q18 : (x2_1 : Int) < 27 := of_decide_eq_true (by first | (with_reducible assumption) | assumption)
              have hx16 : wr.cell? ⟨1, (x2_1 : Int).toNat, none⟩ = some (.int .i64 (rd tab1 x2_1)) := Glob.t1 (Glob.below HG.out (by repeat (first | (with_reducible first | exact HB.out | apply below_alloc | apply pw_below_drewN | apply below_drew1) | exact HB.out))) _ (by omega)
              replace p17 := eq_true p17
              replace q18 := eq_true q18
              go_wp2
              repeat (go_quiet (fail); try go_wp2)
              go_ret
              exact ⟨by first | rfl | (simp [errW_none, errW_some] <;> rfl) | (simp [*, errW_none, errW_some] <;> rfl), by repeat (first | (with_reducible first | exact HB.out | apply below_alloc | apply pw_below_drewN | apply below_drew1) | exact HB.out)⟩
          · rw [if_neg c5] at H
            exact absurd H (by simp)
        · rw [if_neg c4] at H
          have c4b0 : decide (x2_1 < 27) = false := decide_eq_false c4
          clear c4
          have H' := Aside0.mk H
          clear H
          go_wp2
          repeat (go_quiet (fail); try go_wp2)
          go_loopg [3] k1 (fun kq v3 w' => ∃ (x3_2 : Int), v3 = .int .i64 x3_2 ∧ Aside0 (copselaw0_Names.l1 kq x3_2 = some r) ∧ Aside0 (kq ≤ k1) ∧ Aside0 (Below w.heap.size w w'))
          case atStart => exact ⟨(0), (by first | rfl | (simp; done) | (simp [*]; done)), H', ⟨Nat.le_refl _⟩, ⟨by repeat (first | (with_reducible first | exact HB.out | apply below_alloc | apply pw_below_drewN | apply below_drew1) | exact HB.out)⟩⟩
          case round =>
            clear H'
            try clear p1
            try clear q1
            try clear hx1
            try clear c2
            try clear p2
            try clear c3
            try clear c4
            try clear c4b0
            try clear c5
            try clear c5b0
            try clear c6
            try clear c6b0
            try clear c6b1
            try clear p6
            try clear hx7
            try clear p8
            try clear q9
            try clear hx10
            try clear p11
            try clear q12
            try clear hx13
            try clear p14
            try clear q15
            try clear hx16
            try clear p17
            try clear q18
            try clear p11
            try clear p14
            try clear p17
            try clear p2
            try clear p8
            try clear q12
            try clear q15
            try clear q18
            try clear q9
            obtain ⟨x3_2, rfl, HA, HK2, HB⟩ := hrel
            cases gk with
            | zero => exact absurd HA.out (by simp [copselaw0_Names.l1])
            | succ k2 =>
              have H := HA.out
              clear HA
              simp only [copselaw0_Names.l1] at H
              by_cases c19 : x3_2 < 45
              · rw [if_pos c19] at H
                have c19b0 : decide (x3_2 < 45) = true := decide_eq_true c19
                clear c19
                by_cases c20 : 0 ≤ x3_2
                · rw [if_pos c20] at H
                  have c20b0 : decide (0 ≤ x3_2) = true := decide_eq_true c20
                  clear c20
                  by_cases c21 : (rd tab2 x3_2) = (rd tab3 x3_2)
                  · rw [if_pos c21] at H
                    have c21b0 : ((rd tab2 x3_2) == (rd tab3 x3_2)) = true := beq_iff_eq.mpr c21
                    have c21b1 : ((rd tab2 x3_2) != (rd tab3 x3_2)) = false := bne_eq_false_iff_eq.mpr c21
                    clear c21
                    have H' := Aside0.mk H
                    clear H
                    have p23 : 0 ≤ (x3_2 : Int) := of_decide_eq_true (by first | (with_reducible assumption) | assumption)
                    have q24 : (x3_2 : Int) < 45 := of_decide_eq_true (by first | (with_reducible assumption) | assumption)
                    have hx22 : wr.cell? ⟨2, (x3_2 : Int).toNat, none⟩ = some (.int .i64 (rd tab2 x3_2)) := Glob.t2 (Glob.below HG.out (by repeat (first | (with_reducible first | exact HB.out | apply below_alloc | apply pw_below_drewN | apply below_drew1) | exact HB.out))) _ (by omega)
                    replace p23 := eq_true p23
                    replace q24 := eq_true q24
                    have p26 : 0 ≤ (x3_2 : Int) := of_decide_eq_true (by first | (with_reducible assumption) | assumption)
                    have q27 : (x3_2 : Int) < 45 := of_decide_eq_true (by first | (with_reducible assumption) | assumption)
                    have hx25 : wr.cell? ⟨3, (x3_2 : Int).toNat, none⟩ = some (.int .i64 (rd tab3 x3_2)) := Glob.t3 (Glob.below HG.out (by repeat (first | (with_reducible first | exact HB.out | apply below_alloc | apply pw_below_drewN | apply below_drew1) | exact HB.out))) _ (by omega)
                    replace p26 := eq_true p26
                    replace q27 := eq_true q27
                    go_wp2
                    repeat (go_quiet (fail); try go_wp2)
                    go_roundg k2
                    case measure => have := HK1.out; have := HK2.out; omega
                    case rel => exact ⟨(wrap64 (x3_2 + 1)), (by first | rfl | (simp; done) | (simp [*]; done)), H', ⟨by have := HK1.out; have := HK2.out; omega⟩, ⟨by repeat (first | (with_reducible first | exact HB.out | apply below_alloc | apply pw_below_drewN | apply below_drew1) | exact HB.out)⟩⟩
                  · rw [if_neg c21] at H
                    have c21b0 : ((rd tab2 x3_2) == (rd tab3 x3_2)) = false := beq_eq_false_iff_ne.mpr c21
                    have c21b1 : ((rd tab2 x3_2) != (rd tab3 x3_2)) = true := bne_iff_ne.mpr c21
                    obtain rfl := Option.some.inj H
                    have p29 : 0 ≤ (x3_2 : Int) := of_decide_eq_true (by first | (with_reducible assumption) | assumption)
                    have q30 : (x3_2 : Int) < 45 := of_decide_eq_true (by first | (with_reducible assumption) | assumption)
                    have hx28 : wr.cell? ⟨2, (x3_2 : Int).toNat, none⟩ = some (.int .i64 (rd tab2 x3_2)) := Glob.t2 (Glob.below HG.out (by repeat (first | (with_reducible first | exact HB.out | apply below_alloc | apply pw_below_drewN | apply below_drew1) | exact HB.out))) _ (by omega)
                    replace p29 := eq_true p29
                    replace q30 := eq_true q30
                    have p32 : 0 ≤ (x3_2 : Int) := of_decide_eq_true (by first | (with_reducible assumption) | assumption)
                    have q33 : (x3_2 : Int) < 45 := of_decide_eq_true (by first | (with_reducible assumption) | assumption)
                    have hx31 : wr.cell? ⟨3, (x3_2 : Int).toNat, none⟩ = some (.int .i64 (rd tab3 x3_2)) := Glob.t3 (Glob.below HG.out (by repeat (first | (with_reducible first | exact HB.out | apply below_alloc | apply pw_below_drewN | apply below_drew1) | exact HB.out))) _ (by omega)
                    replace p32 := eq_true p32
                    replace q33 := eq_true q33
                    go_wp2
                    repeat (go_quiet (fail); try go_wp2)
                    go_ret
                    exact ⟨by first | rfl | (simp [errW_none, errW_some] <;> rfl) | (simp [*, errW_none, errW_some] <;> rfl), by repeat (first | (with_reducible first | exact HB.out | apply below_alloc | apply pw_below_drewN | apply below_drew1) | exact HB.out)⟩
                · rw [if_neg c20] at H
                  exact absurd H (by simp)
              · rw [if_neg c19] at H
                have c19b0 : decide (x3_2 < 45) = false := decide_eq_false c19
                clear c19
                obtain rfl := Option.some.inj H
                go_wp2
                repeat (go_quiet (fail); try go_wp2)
                go_ret
                exact ⟨by first | rfl | (simp [errW_none, errW_some] <;> rfl) | (simp [*, errW_none, errW_some] <;> rfl), by repeat (first | (with_reducible first | exact HB.out | apply below_alloc | apply pw_below_drewN | apply below_drew1) | exact HB.out)⟩
  · replace c2 := Bool.eq_false_iff.mpr c2
    subst c2
    have H1 : (some false) = some r := by rw [if_neg (show ¬ (false = true) by decide)] at H; exact H
    clear H
    have H := H1
    clear H1
    obtain rfl := Option.some.inj H
    go_enter Tryd.func3, Tryd.ntmps3
    go_wp2_with (first | (go_at_call 12; (with_reducible refine (copselaw0_refusals.calls k E  false _ ?side1 A1.out).mono ?_); (case side1 => exact (Glob.below HG.out (by repeat (first | (with_reducible first | exact HB.out | apply below_alloc | apply pw_below_drewN | apply below_drew1) | exact HB.out)))); rintro e w34 ⟨rfl, hb⟩; have n0_ := Aside0.mk (below_step (by repeat (first | (with_reducible first | exact HB.out | apply below_alloc | apply pw_below_drewN | apply below_drew1) | exact HB.out)) hb); clear HB; have HB := n0_; clear n0_; (try clear hb); (try clear hb2); (try clear hk); (try clear hi)))
    go_ret
    exact ⟨by first | rfl | (simp [errW_none, errW_some] <;> rfl) | (simp [*, errW_none, errW_some] <;> rfl), by repeat (first | (with_reducible first | exact HB.out | apply below_alloc | apply pw_below_drewN | apply below_drew1) | exact HB.out)⟩

end Go.Proofs.YtcjfmlgljfggpaaDoor.XNames
