-- Printed for this claim by a program (wip/printx) that builds on the kit's print. Not trusted: Lean checks it.
import Derived.Test.YtdailhlghlledaaDoorXLeafHalvesx0
import Derived.Test.YtdailhlghlledaaDoorXLeafHalvesx1
import Derived.Test.YtdailhlghlledaaDoorXLeafHalvesx2
namespace Go.Proofs.YtdailhlghlledaaDoor.XLeafHalves
open Go.RowKit Go.Proofs.YtdailhlghlledaaDoorW.PrintWords Go.Proofs.YtdailhlghlledaaDoorW.PrintLast Go.Proofs.YtdailhlghlledaaDoorW.PrintMore
attribute [local go_sem] max2_int min2_int max_two min_two max_three min_three max_four min_four   -- for this text's walks alone
set_option linter.unusedVariables false
set_option linter.unusedSimpArgs false

attribute [local go_sem high] eqA58
/-! ### cells_Cut: function 36 -/
def cells_nearest.abs (w : Int) : Int := if w < 0 then wrap64 (-w) else w
def cells_nearest.l (g : Int → Int → Int) : Nat → List Int → Int → Int → Int → Int → Int → Option Int
  | 0, _, _, _, _, _, _ => none
  | k + 1, xs, last, best, least, ahead, i => if i ≤ last then (if 0 ≤ i ∧ i < (xs.length : Int) then
      (if best = 0 ∨ cells_nearest.abs (g ahead (rd xs i)) < least then cells_nearest.l g k xs last i (cells_nearest.abs (g ahead (rd xs i))) (wrap64 (ahead + rd xs i)) (wrap64 (i + 1))
       else cells_nearest.l g k xs last best least (wrap64 (ahead + rd xs i)) (wrap64 (i + 1))) else none) else some best
def cells_nearest.f (g : Int → Int → Int) (k : Nat) (xs : List Int) (last : Int) : Option Int := if 0 < (xs.length : Int) then cells_nearest.l g k xs last 0 0 (rd xs 0) 1 else none
theorem cells_nearest.mono_l (g : Int → Int → Int) : ∀ k y0 y1 y2 y3 y4 y5, LeO (cells_nearest.l g k y0 y1 y2 y3 y4 y5) (cells_nearest.l g (k + 1) y0 y1 y2 y3 y4 y5)
  | 0 => fun _ _ _ _ _ _ r h => by simp [cells_nearest.l] at h
  | k + 1 => by
    have ih := cells_nearest.mono_l g k
    intro y0 y1 y2 y3 y4 y5
    unfold cells_nearest.l
    repeat' first
      | (with_reducible exact ih _ _ _ _ _ _)
      | (with_reducible exact LeO.refl _)
      | (with_reducible exact LeO.none _)
      | (with_reducible refine LeO.ite ?_ ?_)
theorem cells_nearest.mono (g : Int → Int → Int) (a0 a1) (k : Nat) : LeO (cells_nearest.f g k a0 a1) (cells_nearest.f g (k + 1) a0 a1) := by
  unfold cells_nearest.f
  exact LeO.ite (cells_nearest.mono_l g k _ _ _ _ _ _) (LeO.refl _)
theorem cell_new_ (w : World) (v : Value) (t : Nat) : (w.alloc (.cells #[v] t)).cell? ⟨w.heap.size, 0, none⟩ = some v := by
  have h := heap_alloc_new w (.cells #[v] t)
  unfold World.cell?
  simp only [h]
  rfl
theorem cells_Cut.clo (all ah ow : Int) (b : Nat) (w : World) (hv : w.cell? ⟨b, 0, none⟩ = some (.int .i64 all)) :
    Calls Tryd.prog 55 #[.int .i64 ah, .int .i64 ow, .pointer (some ⟨b, 0, none⟩)] w fun e w' => e = .returned (.int .i64 (wrap64 (wrap64 (2 * ah) - all))) ∧ w' = w := by
  go_enter Tryd.func55, Tryd.ntmps55
  go_wp2
  go_ret
  exact ⟨by simp, rfl⟩
set_option maxHeartbeats 8000000 in
set_option maxRecDepth 100000 in
theorem cells_Cut.near (all : Int) (b : Nat) (k : Nat) (A0 : Option Addr) (c0 : Nat) (l0 : List Int) (a1 : Int) (r : Int) (w : World) (hv : w.cell? ⟨b, 0, none⟩ = some (.int .i64 all)) (hr0 : Kd.C (Kd.int .i64) w A0 l0.length l0)
    (h : cells_nearest.f (fun ah ow => wrap64 (wrap64 (2 * ah) - all)) k l0 a1 = some r) :
    Calls Tryd.prog 54 #[.slice A0 l0.length c0, .int .i64 a1, .func (.func 55) #[] #[.pointer (some ⟨b, 0, none⟩)]] w fun e w' => e = .returned (.int .i64 r) ∧ w' = w := by
  have HR0 := Aside0.mk hr0
  have HV := Aside0.mk hv
  clear hr0 hv
  unfold cells_nearest.f at h
  by_cases c1 : 0 < (l0.length : Int)
  · rw [if_pos c1] at h
    have H' := Aside0.mk h
    clear h
    obtain ⟨ad, e, hx⟩ := Kd.at_int HR0.out 0 (by omega) c1
    cases e
    rw [show ad.add (Int.toNat 0) = ad from by unfold Addr.add; simp] at hx
    have c1b : decide (0 < (l0.length : Int)) = true := decide_eq_true c1
    go_enter Tryd.func54, Tryd.ntmps54
    go_wp2
    go_loopg [7, 8, 9, 10] k (fun kq v7 v8 v9 v10 w' => ∃ (x7 x8 x9 x10 : Int), v7 = .int .i64 x7 ∧ v8 = .int .i64 x8 ∧ v9 = .int .i64 x9 ∧ v10 = .int .i64 x10 ∧ Aside0 (cells_nearest.l (fun ah ow => wrap64 (wrap64 (2 * ah) - all)) kq l0 a1 x7 x8 x9 x10 = some r) ∧ w' = w)
    case atStart => exact ⟨_, _, _, _, rfl, rfl, rfl, rfl, H', rfl⟩
    case round =>
      clear H'
      obtain ⟨x7, x8, x9, x10, rfl, rfl, rfl, rfl, HA, rfl⟩ := hrel
      cases gk with
      | zero => exact absurd HA.out (by simp [cells_nearest.l])
      | succ k1 =>
        have H := HA.out
        clear HA
        simp only [cells_nearest.l] at H
        by_cases c2 : x10 ≤ a1
        · rw [if_pos c2] at H
          have c2b : decide (x10 ≤ a1) = true := decide_eq_true c2
          by_cases c3 : 0 ≤ x10 ∧ x10 < (l0.length : Int)
          · rw [if_pos c3] at H
            obtain ⟨c3, c4⟩ := c3
            have c3b : decide (0 ≤ x10) = true := decide_eq_true c3
            have c4b : decide (x10 < (l0.length : Int)) = true := decide_eq_true c4
            obtain ⟨ad2, e2, hx2⟩ := Kd.at_int HR0.out x10 c3 c4
            cases e2
            have hv := HV.out
            obtain ⟨gv, hgv⟩ : ∃ gv, wrap64 (wrap64 (2 * x9) - all) = gv := ⟨_, rfl⟩
            rw [hgv] at H
            by_cases c5 : gv < 0
            · have c5b : decide (gv < 0) = true := decide_eq_true c5
              rw [show cells_nearest.abs gv = wrap64 (-gv) from if_pos c5] at H
              by_cases c6 : x7 = 0
              · have c6b : (x7 == 0) = true := beq_iff_eq.mpr c6
                rw [if_pos (.inl c6)] at H
                have H' := Aside0.mk H
                clear H
                go_wp2_with (first | (go_at_call 55; refine (cells_Cut.clo all _ _ b _ hv).mono ?_; rintro e w1 ⟨rfl, rfl⟩))
                go_roundg k1
                case measure => omega
                case rel => exact ⟨_, _, _, _, rfl, rfl, rfl, rfl, H', rfl⟩
              · have c6b : (x7 == 0) = false := beq_eq_false_iff_ne.mpr c6
                by_cases c7 : wrap64 (-gv) < x8
                · have c7b : decide (wrap64 (-gv) < x8) = true := decide_eq_true c7
                  rw [if_pos (.inr c7)] at H
                  have H' := Aside0.mk H
                  clear H
                  go_wp2_with (first | (go_at_call 55; refine (cells_Cut.clo all _ _ b _ hv).mono ?_; rintro e w1 ⟨rfl, rfl⟩))
                  go_roundg k1
                  case measure => omega
                  case rel => exact ⟨_, _, _, _, rfl, rfl, rfl, rfl, H', rfl⟩
                · have c7b : decide (wrap64 (-gv) < x8) = false := decide_eq_false c7
                  rw [if_neg (fun h => h.elim c6 c7)] at H
                  have H' := Aside0.mk H
                  clear H
                  go_wp2_with (first | (go_at_call 55; refine (cells_Cut.clo all _ _ b _ hv).mono ?_; rintro e w1 ⟨rfl, rfl⟩))
                  go_roundg k1
                  case measure => omega
                  case rel => exact ⟨_, _, _, _, rfl, rfl, rfl, rfl, H', rfl⟩
            · have c5b : decide (gv < 0) = false := decide_eq_false c5
              rw [show cells_nearest.abs gv = gv from if_neg c5] at H
              by_cases c6 : x7 = 0
              · have c6b : (x7 == 0) = true := beq_iff_eq.mpr c6
                rw [if_pos (.inl c6)] at H
                have H' := Aside0.mk H
                clear H
                go_wp2_with (first | (go_at_call 55; refine (cells_Cut.clo all _ _ b _ hv).mono ?_; rintro e w1 ⟨rfl, rfl⟩))
                go_roundg k1
                case measure => omega
                case rel => exact ⟨_, _, _, _, rfl, rfl, rfl, rfl, H', rfl⟩
              · have c6b : (x7 == 0) = false := beq_eq_false_iff_ne.mpr c6
                by_cases c7 : gv < x8
                · have c7b : decide (gv < x8) = true := decide_eq_true c7
                  rw [if_pos (.inr c7)] at H
                  have H' := Aside0.mk H
                  clear H
                  go_wp2_with (first | (go_at_call 55; refine (cells_Cut.clo all _ _ b _ hv).mono ?_; rintro e w1 ⟨rfl, rfl⟩))
                  go_roundg k1
                  case measure => omega
                  case rel => exact ⟨_, _, _, _, rfl, rfl, rfl, rfl, H', rfl⟩
                · have c7b : decide (gv < x8) = false := decide_eq_false c7
                  rw [if_neg (fun h => h.elim c6 c7)] at H
                  have H' := Aside0.mk H
                  clear H
                  go_wp2_with (first | (go_at_call 55; refine (cells_Cut.clo all _ _ b _ hv).mono ?_; rintro e w1 ⟨rfl, rfl⟩))
                  go_roundg k1
                  case measure => omega
                  case rel => exact ⟨_, _, _, _, rfl, rfl, rfl, rfl, H', rfl⟩
          · rw [if_neg c3] at H
            exact absurd H (by simp)
        · rw [if_neg c2] at H
          have c2b : decide (x10 ≤ a1) = false := decide_eq_false c2
          obtain rfl := Option.some.inj H
          go_wp2
          go_ret
          exact ⟨rfl, rfl⟩
  · rw [if_neg c1] at h
    exact absurd h (by simp)
def cells_Cut.f (k : Nat) (l0 : List Int) : Option (Int × Option Int) := (cells_check.f k l0 2).bind fun t => if t.2.isNone = true then (cells_nearest.f (fun ah ow => wrap64 (wrap64 (2 * ah) - t.1)) k l0 (wrap64 ((l0.length : Int) - 1))).bind fun n => some (n, none) else some (0, t.2)
theorem cells_Cut.mono : ∀ a0 k, LeO (cells_Cut.f k a0) (cells_Cut.f (k + 1) a0) := by
  intro a0 k
  unfold cells_Cut.f
  exact LeO.bind (cells_check.mono _ _ _) (fun _ => LeO.ite (LeO.bind (cells_nearest.mono _ _ _ _) (fun _ => LeO.refl _)) (LeO.refl _))
set_option maxHeartbeats 8000000 in
set_option maxRecDepth 100000 in
theorem cells_Cut.calls (k : Nat) (E : Int → Addr) (A0 : Option Addr) (c0 : Nat) (l0 : List Int) (r1 : Int) (r2 : Option Int) (w : World) (hG : Glob E w) (hr0 : Kd.C (Kd.int .i64) w A0 l0.length l0) (hc0 : l0.length ≤ c0) (h : cells_Cut.f k l0 = some (r1, r2)) :
    Calls Tryd.prog 36 #[.slice A0 l0.length c0] w fun e w' => e = .returned (.tuple #[.int .i64 r1, errW E r2]) ∧ Below w.heap.size w w' := by
  have hu28 := Tryd.underlying28
  have HB := Aside0.mk (Below.refl w.heap.size w)
  unfold cells_Cut.f at h
  obtain ⟨⟨all, e2⟩, hA, h⟩ := Option.bind_eq_some_iff.mp h
  have hmf : ∀ (fn : Fn) (first cap : Array Value) (w : World), (Instr.makeFunc fn first cap).run Tryd.prog w = .ok (.func fn first cap) w := fun _ _ _ _ => rfl
  have HR0 := Aside0.mk hr0
  have HG := Aside0.mk hG
  have HC0 := Aside0.mk hc0
  have HA := Aside0.mk hA
  clear hr0 hG hc0 hA
  rcases e2 with _ | q
  · simp only [Option.isNone_none, ↓reduceIte] at h
    obtain ⟨n, hN, h⟩ := Option.bind_eq_some_iff.mp h
    simp only [Option.some.injEq, Prod.mk.injEq] at h
    obtain ⟨rfl, rfl⟩ := h
    have HN := Aside0.mk hN
    clear hN
    go_enter Tryd.func36, Tryd.ntmps36
    go_wp2_with (first | (go_at_call 53; refine (cells_check.calls k E _ _ l0 2 all none _ HG.out HR0.out HC0.out HA.out).mono ?_; rintro e w1 ⟨rfl, hd⟩; have HD := Aside0.mk hd; clear hd; simp only [errW_none]) | (go_at_call 54; refine (cells_Cut.near all w1.heap.size k _ c0 l0 _ n _ ?hv ?hr HN.out).mono ?_; (case hv => exact cell_new_ _ _ _); (case hr => exact Kd.C_below HR0.out (below_alloc HD.out.below _)); rintro e w2 ⟨rfl, rfl⟩))
    go_ret2
    exact ⟨rfl, below_alloc HD.out.below _⟩
  · simp only [Option.isNone_some, Bool.false_eq_true, ↓reduceIte] at h
    simp only [Option.some.injEq, Prod.mk.injEq] at h
    obtain ⟨rfl, rfl⟩ := h
    go_enter Tryd.func36, Tryd.ntmps36
    go_wp2_with (first | (go_at_call 53; refine (cells_check.calls k E _ _ l0 2 all (some q) _ HG.out HR0.out HC0.out HA.out).mono ?_; rintro e w1 ⟨rfl, hd⟩; have HD := Aside0.mk hd; clear hd; simp only [errW_some]))
    go_ret2
    exact ⟨rfl, below_alloc HD.out.below _⟩

/-! ### leaf_Cut: function 18 -/
def leaf_Cut.l0 : Nat → List (S58) → List Int → List (S58) → Int → Int → Option ((List (S58)) × (List (S58)) × Option Int)
  | 0, _, _, _, _, _ => none
  | k + 1, x0, x5, x10, x11, x12 => if x12 < x11 then (if 0 ≤ x12 then (if x12 < (x10.length : Int) then ((leaf_cost.f ((rd_T58 x10 x12).f0) ((rd_T58 x10 x12).f1)).bind fun t113 => (if x5.length < 17592186044416 then (leaf_Cut.l0 k x0 (x5 ++ [t113]) x10 x11 (wrap64 (x12 + 1))) else (none))) else (none)) else (none)) else ((cells_Cut.f k x5).bind fun bt117 => (if bt117.2.isNone = true then (if 0 ≤ bt117.1 then (if bt117.1 ≤ (x0.length : Int) then ((some (x0.take (bt117.1 : Int).toNat : List (S58))).bind fun y120 => (if ([] : List (S58)).length + y120.length < 4398046511104 then ((some (x0.drop (bt117.1 : Int).toNat : List (S58))).bind fun y127 => (if ([] : List (S58)).length + y127.length < 4398046511104 then (some ((([] : List (S58)) ++ y120), (([] : List (S58)) ++ y127), none)) else (none))) else (none))) else (none)) else (none)) else (some (([] : List (S58)), ([] : List (S58)), some (bt117.2.getD 0)))))
def leaf_Cut.f (k : Nat) (l0 : List (S58)) : Option ((List (S58)) × (List (S58)) × Option Int) := leaf_Cut.l0 k l0 ([] : List Int) l0 (l0.length : Int) 0
theorem leaf_Cut.mono_l : ∀ k, (∀ y0 y1 y2 y3 y4, LeO (leaf_Cut.l0 k y0 y1 y2 y3 y4) (leaf_Cut.l0 (k + 1) y0 y1 y2 y3 y4))
  | 0 => fun _ _ _ _ _ r h => by simp [leaf_Cut.l0] at h
  | k + 1 => by
    have ih0 := leaf_Cut.mono_l k
    · intro y0 y1 y2 y3 y4
      unfold leaf_Cut.l0
      repeat' first
      | (with_reducible exact ih0 _ _ _ _ _)
      | (with_reducible exact cells_Cut.mono _ _)
      | (with_reducible exact LeO.refl _)
      | (with_reducible exact LeO.none _)
      | (with_reducible refine LeO.ite ?_ ?_)
      | (with_reducible refine LeO.bind ?_ (fun _ => ?_))
      | exact ih0 _ _ _ _ _
      | exact cells_Cut.mono _ _
      | exact LeO.none _
      | refine LeO.ite ?_ ?_
      | refine LeO.bind ?_ (fun _ => ?_)
theorem leaf_Cut.mono : ∀ a0 k, LeO (leaf_Cut.f k a0) (leaf_Cut.f (k + 1) a0) := by
  intro a0 k
  have ih0 := leaf_Cut.mono_l k
  unfold leaf_Cut.f
  repeat' first
      | (with_reducible exact ih0 _ _ _ _ _)
      | (with_reducible exact cells_Cut.mono _ _)
      | (with_reducible exact LeO.refl _)
      | (with_reducible exact LeO.none _)
      | (with_reducible refine LeO.ite ?_ ?_)
      | (with_reducible refine LeO.bind ?_ (fun _ => ?_))
      | exact ih0 _ _ _ _ _
      | exact cells_Cut.mono _ _
      | exact LeO.none _
      | refine LeO.ite ?_ ?_
      | refine LeO.bind ?_ (fun _ => ?_)
def leaf_Cut.T10 : Bool × List (List Nat × List Nat) := (true, [([], []), ([], []), ([0, 1], [0, 1]), ([2], [2]), ([], []), ([], []), ([4, 5], [4, 5]), ([6, 3], [6]), ([3, 7, 0, 1, 2, 3], [3]), ([7, 8, 0, 1, 2, 3, 4, 5, 6, 7, 8], [7]), ([9, 0, 1, 2, 3, 4, 5, 6, 7, 8, 9], [])])
def leaf_Cut.B10 : List Nat := [0, 0, 3, 7, 0, 0, 48, 127, 255, 511, 1023]
theorem leaf_Cut.tab10 : rtab .any (opsOf Tryd.f18 10) = leaf_Cut.T10 := by kernel_rfl
theorem leaf_Cut.bits10 : waitsOk leaf_Cut.T10.2 leaf_Cut.B10 = true := by kernel_rfl
set_option maxHeartbeats 8000000 in
set_option maxRecDepth 100000 in
theorem leaf_Cut.calls (k : Nat) (E : Int → Addr) (A0 : Option Addr) (c0 : Nat) (l0 : List (S58)) (r1 : List (S58)) (r2 : List (S58)) (r3 : Option Int) (w : World) (hG : Glob E w) (hr0 : Kd.C k58 w A0 l0.length l0) (hc0 : l0.length ≤ c0) (h : leaf_Cut.f k l0 = some (r1, r2, r3)) :
    Calls Tryd.prog 18 #[.slice A0 l0.length c0] w fun e w' => ∃ v0_ v1_ : Value, e = .returned (.tuple #[v0_, v1_, errW E r3]) ∧ Kd.R k58 58 w' w.heap.size (fun k_ => some k_ ≠ (v1_ : Value).ownBlock) v0_ r1 ∧ Kd.R k58 58 w' w.heap.size (fun k_ => some k_ ≠ (v0_ : Value).ownBlock) v1_ r2 ∧ Below w.heap.size w w' := by
  have hu58 := Tryd.underlying58
  have hu28 := Tryd.underlying28
  have hu100 := Tryd.underlying100
  have HR0 := Aside0.mk hr0
  have HC0 := Aside0.mk hc0
  clear hr0 hc0
  have HB := Aside0.mk (Below.refl w.heap.size w)
  have HG := Aside0.mk hG
  clear hG
  have H : (leaf_Cut.l0 k l0 ([] : List Int) l0 (l0.length : Int) 0) = some (r1, r2, r3) := h
  clear h
  have H' := Aside0.mk H
  clear H
  go_enter Tryd.func18, Tryd.ntmps18
  go_wp2
  go_loopg [5, 12] k (fun kq v5 v12 w' => ∃ (x5_1 : List Int) (x12_1 : Int), v12 = .int .i64 x12_1 ∧ Aside0 (leaf_Cut.l0 kq l0 x5_1 l0 (l0.length : Int) x12_1 = some (r1, r2, r3)) ∧ Aside0 (kq ≤ k) ∧ Aside0 (Kd.R (Kd.int .i64) 3 w' w.heap.size (fun _ => True) v5 x5_1) ∧ Aside0 (Below w.heap.size w w'))
  case atStart => exact ⟨(([] : List Int)), (0), (by first | rfl | (simp; done) | (simp [*]; done)), H', ⟨Nat.le_refl _⟩, ⟨by first | exact Kd.R_nil _ _ _ _ _ | exact Kd.N_nil _ _ _ _ _ | exact Kd.V_nil _ _ _ _ _ | exact Kd.Q_nil _ _ _ _ _ | exact Kd.S_nil _ _ _ _ _⟩, ⟨by repeat (first | (with_reducible first | exact HB.out | apply below_alloc | apply pw_below_drewN | apply below_drew1) | exact HB.out)⟩⟩
  case round =>
    clear H'
    try clear c1
    obtain ⟨x5_1, x12_1, rfl, HA, HK1, HO_5, HB⟩ := hrel
    cases gk with
    | zero => exact absurd HA.out (by simp [leaf_Cut.l0])
    | succ k1 =>
      have H := HA.out
      clear HA
      simp only [leaf_Cut.l0] at H
      by_cases c2 : x12_1 < (l0.length : Int)
      · rw [if_pos c2] at H
        have c2b0 : decide (x12_1 < (l0.length : Int)) = true := decide_eq_true c2
        clear c2
        by_cases c3 : 0 ≤ x12_1
        · rw [if_pos c3] at H
          have c3b0 : decide (0 ≤ x12_1) = true := decide_eq_true c3
          clear c3
          by_cases c4 : x12_1 < (l0.length : Int)
          · rw [if_pos c4] at H
            have c4b0 : decide (x12_1 < (l0.length : Int)) = true := decide_eq_true c4
            clear c4
            replace H := Option.bind_eq_some_iff.mp H
            obtain ⟨t113, A50, H⟩ := H
            replace H : (if x5_1.length < 17592186044416 then (leaf_Cut.l0 k1 l0 (x5_1 ++ [t113]) l0 (l0.length : Int) (wrap64 (x12_1 + 1))) else (none)) = some (r1, r2, r3) := H
            have A5 := Aside0.mk A50
            clear A50
            by_cases c6 : x5_1.length < 17592186044416
            · rw [if_pos c6] at H
              have LMc6 := Aside0.mk c6
              clear c6
              obtain ⟨y114, hy114⟩ : ∃ y_ : List Int, y_ = (x5_1 ++ [t113]) := ⟨_, rfl⟩
              replace H : (leaf_Cut.l0 k1 l0 y114 l0 (l0.length : Int) (wrap64 (x12_1 + 1))) = some (r1, r2, r3) := by first | (rw [hy114]; with_reducible exact H) | (have H2_ := (Option.bind_some _ _).symm.trans H; rw [hy114]; with_reducible exact H2_) | (have H2_ := (Option.bind_some _ _).symm.trans H; with_reducible exact H2_) | with_reducible exact H | (rw [hy114]; exact H) | exact H
              have Ny114 := Aside0.mk hy114
              clear hy114
              have H' := Aside0.mk H
              clear H
              have p111 : 0 ≤ (x12_1 : Int) := of_decide_eq_true (by first | (with_reducible assumption) | assumption)
              have q111 : x12_1 < (l0.length : Int) := of_decide_eq_true (by first | (with_reducible assumption) | assumption)
              obtain ⟨ad111, e111, hx111_0, hx111_1⟩ := at_T58 HR0.out x12_1 p111 q111
              cases e111
              replace hx111_0 := (HB.out.cell (World.block_lt_of_cell? w _ hx111_0)).trans hx111_0
              replace hx111_1 := (HB.out.cell (World.block_lt_of_cell? w _ hx111_1)).trans hx111_1
              replace p111 := eq_true p111
              replace q111 := eq_true q111
              go_wp2_with (first | ((with_reducible refine gate_dst (N := 7) rfl ?_); refine box_event ?hg (N := 7) ?hd (cs := #[.string (⟨#[]⟩ : ByteArray), .string (⟨#[]⟩ : ByteArray)]) (t := 58) ?hr ?_; (case hd => rfl); (case hg => rfl); (case hr => first | (go_simp; done) | (go_simp; rfl)); intro gb112 hg w7 hbox hb; have n0_ := Aside0.mk (Kd.R_below (by (with_reducible repeat (first | apply Kd.R_alloc | apply Kd.R_drewN | apply Kd.R_drew)); exact HO_5.out) hb); have n1_ := Aside0.mk (below_step (by repeat (first | (with_reducible first | exact HB.out | apply below_alloc | apply pw_below_drewN | apply below_drew1) | exact HB.out)) hb); have n2_ := Aside0.mk (hbox); have n3_ := Aside0.mk ((by rw [hg]; exact (below_size (by repeat (first | (with_reducible first | exact HB.out | apply below_alloc | apply pw_below_drewN | apply below_drew1) | exact HB.out))) : w.heap.size ≤ gb112)); have n4_ := Aside0.mk ((by rw [hg]; exact (below_size (by repeat (first | (with_reducible first | exact HB.out | apply below_alloc | apply pw_below_drewN | apply below_drew1) | exact HB.out))) : w.heap.size ≤ gb112)); clear HO_5; clear HB; have HO_5 := n0_; have HB := n1_; have BK112 := n2_; have GW112 := n3_; have GE112 := n4_; clear n0_ n1_ n2_ n3_ n4_; clear hb hbox hg; have hcz8_0 : w7.cell? ⟨gb112, 0, none⟩ = some (.string (⟨#[]⟩ : ByteArray)) := (blk_cell BK112.out 0).trans rfl; have hcz8_1 : w7.cell? ⟨gb112, 1, none⟩ = some (.string (⟨#[]⟩ : ByteArray)) := (blk_cell BK112.out 1).trans rfl; have hfz8_0 := blk_frozen BK112.out 0; have hfz8_1 := blk_frozen BK112.out 1) | ((with_reducible refine gate_callee (f := 33) rfl ?_); refine goesL_ (some 18) rfl rfl Tryd.func33 (by kernel_rfl) rfl #[.agg #[.string ((rd_T58 l0 x12_1).f0), .string ((rd_T58 l0 x12_1).f1)]] rfl (by (try simp only [List.map_toArray, List.map_cons, List.map_nil]); first | done | rfl | (simp only [List.length_drop, List.length_take]; rfl)) ?_; (with_reducible refine (leaf_cost.calls ((rd_T58 l0 x12_1).f0) ((rd_T58 l0 x12_1).f1) t113 _ A5.out).mono ?_); rintro e w9 ⟨rfl, hb⟩; refine ⟨_, rfl, ?_⟩; have n0_ := Aside0.mk (Kd.R_below (by (with_reducible repeat (first | apply Kd.R_alloc | apply Kd.R_drewN | apply Kd.R_drew)); exact (Kd.R_mono (Kd.R_far (p := ⟨gb112, 1, none⟩) (Kd.R_far (p := ⟨gb112, 0, none⟩) (Kd.R_types HO_5.out BK112.out (by decide)) (fun _ hk => hk.2) (.string ((rd_T58 l0 x12_1).f0))) (fun _ hk => hk.2) (.string ((rd_T58 l0 x12_1).f1))) (fun _ h_ => h_.1))) hb); have n1_ := Aside0.mk (blk_below (g := gb112) (o := .cells #[.string ((rd_T58 l0 x12_1).f0), .string ((rd_T58 l0 x12_1).f1)] 58 (0, 0)) (by (with_reducible repeat (first | refine blk_drewN ?_ _ | refine blk_drew ?_ | refine blk_alloc ?_ _)); refine blk_put (cs := #[.string ((rd_T58 l0 x12_1).f0), .string (⟨#[]⟩ : ByteArray)]) ?_ 1 _ rfl; (with_reducible repeat (first | refine blk_drewN ?_ _ | refine blk_drew ?_ | refine blk_alloc ?_ _)); refine blk_put (cs := #[.string (⟨#[]⟩ : ByteArray), .string (⟨#[]⟩ : ByteArray)]) ?_ 0 _ rfl; (with_reducible repeat (first | refine blk_drewN ?_ _ | refine blk_drew ?_ | refine blk_alloc ?_ _)); exact BK112.out) hb); have n2_ := Aside0.mk (below_step (by repeat (first | (with_reducible first | exact HB.out | apply below_alloc | apply pw_below_drewN | apply below_drew1 | refine below_set ?_ GE112.out) | exact HB.out)) hb); clear HO_5; clear BK112; clear HB; have HO_5 := n0_; have BK112 := n1_; have HB := n2_; clear n0_ n1_ n2_; (try clear hb); (try clear hb2); (try clear hk); (try clear hi)) | ((with_reducible refine gate_builtin (b := .append) (xs := #[.tmp 16, .tmp 19]) rfl ?_); at_builtin; refine Kd.R_append (Kd.int .i64) (w0 := w) w.heap.size rfl (.tmp 16) (.tmp 19) 65 3 (.int .i64 0) 8 rfl Tryd.underlying65 info3 rfl (by decide) (by omega) u5 x5_1 t113 [.int .i64 t113] (fun _ => True) (fun _ => False) rfl rfl ?aP (fun _ hk => hk.elim) ?aF ?aO ?aB ?aS ?aL ?_; (case aP => exact rfl); (case aB => exact (by repeat (first | (with_reducible first | exact HB.out | apply below_alloc | apply pw_below_drewN | apply below_drew1 | refine below_set ?_ GE112.out) | exact HB.out))); (case aF => exact (fun _ _ => trivial)); (case aO => exact (by (with_reducible repeat (first | apply Kd.R_alloc | apply Kd.R_drewN | apply Kd.R_drew)); exact HO_5.out)); (case aS => exact (below_size (by repeat (first | (with_reducible first | exact HB.out | apply below_alloc | apply pw_below_drewN | apply below_drew1 | refine below_set ?_ GE112.out) | exact HB.out)))); (case aL => have := LMc6.out; omega); intro v115 w10 ho hb hg hat; rw [← Ny114.out] at ho; have n0_ := Aside0.mk (blk_grown (g := gb112) (o := .cells #[.string ((rd_T58 l0 x12_1).f0), .string ((rd_T58 l0 x12_1).f1)] 58 (0, 0)) (by (with_reducible repeat (first | refine blk_drewN ?_ _ | refine blk_drew ?_ | refine blk_alloc ?_ _)); exact BK112.out) hg (Kd.R_ne HO_5.out BK112.out (by decide))); have n1_ := Aside0.mk (hb); have n2_ := Aside0.mk (ho); clear BK112; clear HB; clear HO_5; have BK112 := n0_; have HB := n1_; have HO116 := n2_; clear n0_ n1_ n2_; clear ho hb hg hat))
              go_roundg k1
              case measure => have := HK1.out; omega
              case rel => exact ⟨(y114), (wrap64 (x12_1 + 1)), (by first | rfl | (simp; done) | (simp [*]; done)), H', ⟨by have := HK1.out; omega⟩, ⟨by (with_reducible repeat (first | apply Kd.R_alloc | apply Kd.R_drewN | apply Kd.R_drew)); exact HO116.out⟩, ⟨by repeat (first | (with_reducible first | exact HB.out | apply below_alloc | apply pw_below_drewN | apply below_drew1 | refine below_set ?_ GE112.out) | exact HB.out)⟩⟩
            · rw [if_neg c6] at H
              exact absurd H (by simp)
          · rw [if_neg c4] at H
            exact absurd H (by simp)
        · rw [if_neg c3] at H
          exact absurd H (by simp)
      · rw [if_neg c2] at H
        have c2b0 : decide (x12_1 < (l0.length : Int)) = false := decide_eq_false c2
        clear c2
        replace H := Option.bind_eq_some_iff.mp H
        obtain ⟨⟨t117, t118⟩, A110, H⟩ := H
        replace H : (if t118.isNone = true then (if 0 ≤ t117 then (if t117 ≤ (l0.length : Int) then ((some (l0.take (t117 : Int).toNat : List (S58))).bind fun y120 => (if ([] : List (S58)).length + y120.length < 4398046511104 then ((some (l0.drop (t117 : Int).toNat : List (S58))).bind fun y127 => (if ([] : List (S58)).length + y127.length < 4398046511104 then (some ((([] : List (S58)) ++ y120), (([] : List (S58)) ++ y127), none)) else (none))) else (none))) else (none)) else (none)) else (some (([] : List (S58)), ([] : List (S58)), some (t118.getD 0)))) = some (r1, r2, r3) := H
        have A11 := Aside0.mk A110
        clear A110
        rcases t118 with _ | q119
        · have H1 : (if 0 ≤ t117 then (if t117 ≤ (l0.length : Int) then ((some (l0.take (t117 : Int).toNat : List (S58))).bind fun y120 => (if ([] : List (S58)).length + y120.length < 4398046511104 then ((some (l0.drop (t117 : Int).toNat : List (S58))).bind fun y127 => (if ([] : List (S58)).length + y127.length < 4398046511104 then (some ((([] : List (S58)) ++ y120), (([] : List (S58)) ++ y127), none)) else (none))) else (none))) else (none)) else (none)) = some (r1, r2, r3) := by rw [if_pos (show (none : Option Int).isNone = true by rfl)] at H; exact H
          clear H
          have H := H1
          clear H1
          try simp only [errW_none, errW_some]
          by_cases c12 : 0 ≤ t117
          · rw [if_pos c12] at H
            have c12b0 := eq_true c12
            have c12b1 : decide (0 ≤ t117) = true := decide_eq_true c12
            clear c12
            by_cases c13 : t117 ≤ (l0.length : Int)
            · rw [if_pos c13] at H
              have c13b0 := eq_true c13
              have c13b1 : decide (t117 ≤ (l0.length : Int)) = true := decide_eq_true c13
              clear c13
              obtain ⟨y120, hy120⟩ : ∃ y_ : List (S58), y_ = (l0.take (t117 : Int).toNat) := ⟨_, rfl⟩
              replace H : (if ([] : List (S58)).length + y120.length < 4398046511104 then ((some (l0.drop (t117 : Int).toNat : List (S58))).bind fun y127 => (if ([] : List (S58)).length + y127.length < 4398046511104 then (some ((([] : List (S58)) ++ y120), (([] : List (S58)) ++ y127), none)) else (none))) else (none)) = some (r1, r2, r3) := by first | (rw [hy120]; with_reducible exact H) | (have H2_ := (Option.bind_some _ _).symm.trans H; rw [hy120]; with_reducible exact H2_) | (have H2_ := (Option.bind_some _ _).symm.trans H; with_reducible exact H2_) | with_reducible exact H | (rw [hy120]; exact H) | exact H
              have Ny120 := Aside0.mk hy120
              clear hy120
              by_cases c14 : ([] : List (S58)).length + y120.length < 4398046511104
              · rw [if_pos c14] at H
                have LMc14 := Aside0.mk c14
                clear c14
                obtain ⟨y124, hy124⟩ : ∃ y_ : List (S58), y_ = (([] : List (S58)) ++ y120) := ⟨_, rfl⟩
                replace H : ((some (l0.drop (t117 : Int).toNat : List (S58))).bind fun y127 => (if ([] : List (S58)).length + y127.length < 4398046511104 then (some (y124, (([] : List (S58)) ++ y127), none)) else (none))) = some (r1, r2, r3) := by first | (rw [hy124]; with_reducible exact H) | (have H2_ := (Option.bind_some _ _).symm.trans H; rw [hy124]; with_reducible exact H2_) | (have H2_ := (Option.bind_some _ _).symm.trans H; with_reducible exact H2_) | with_reducible exact H | (rw [hy124]; exact H) | exact H
                have Ny124 := Aside0.mk hy124
                clear hy124
                have c15b0 := eq_true (of_decide_eq_true (by first | (with_reducible assumption) | assumption) : 0 ≤ t117)
                have c16b0 := eq_true (of_decide_eq_true (by first | (with_reducible assumption) | assumption) : t117 ≤ (l0.length : Int))
                obtain ⟨y127, hy127⟩ : ∃ y_ : List (S58), y_ = (l0.drop (t117 : Int).toNat) := ⟨_, rfl⟩
                replace H : (if ([] : List (S58)).length + y127.length < 4398046511104 then (some (y124, (([] : List (S58)) ++ y127), none)) else (none)) = some (r1, r2, r3) := by first | (rw [hy127]; with_reducible exact H) | (have H2_ := (Option.bind_some _ _).symm.trans H; rw [hy127]; with_reducible exact H2_) | (have H2_ := (Option.bind_some _ _).symm.trans H; with_reducible exact H2_) | with_reducible exact H | (rw [hy127]; exact H) | exact H
                have Ny127 := Aside0.mk hy127
                clear hy127
                by_cases c17 : ([] : List (S58)).length + y127.length < 4398046511104
                · rw [if_pos c17] at H
                  have LMc17 := Aside0.mk c17
                  clear c17
                  obtain ⟨y131, hy131⟩ : ∃ y_ : List (S58), y_ = (([] : List (S58)) ++ y127) := ⟨_, rfl⟩
                  replace H : (some (y124, y131, none)) = some (r1, r2, r3) := by first | (rw [hy131]; with_reducible exact H) | (have H2_ := (Option.bind_some _ _).symm.trans H; rw [hy131]; with_reducible exact H2_) | (have H2_ := (Option.bind_some _ _).symm.trans H; with_reducible exact H2_) | with_reducible exact H | (rw [hy131]; exact H) | exact H
                  have Ny131 := Aside0.mk hy131
                  clear hy131
                  simp only [Option.some.injEq, Prod.mk.injEq] at H
                  obtain ⟨rfl, rfl, rfl⟩ := H
                  obtain ⟨Ao18, co18, eo18⟩ := Kd.R_slice HO_5.out
                  subst eo18
                  try go_wp2_with (first | ((with_reducible refine gate_callee (f := 36) rfl ?_); refine goesL_ (some 24) rfl rfl Tryd.func36 (by kernel_rfl) rfl #[.slice Ao18 x5_1.length co18] rfl (by (try simp only [List.map_toArray, List.map_cons, List.map_nil]); first | done | rfl | (simp only [List.length_drop, List.length_take]; rfl)) ?_; (with_reducible refine (cells_Cut.calls k1 E _ _ x5_1 t117 none _ ?side1 ?side2 ?side3 A11.out).mono ?_); (case side1 => exact (Glob.below HG.out (by repeat (first | (with_reducible first | exact HB.out | apply below_alloc | apply pw_below_drewN | apply below_drew1) | exact HB.out)))); (case side2 => repeat (first | exact (Kd.R_reads' HO_5.out).2.2 | (with_reducible refine Kd.C_alloc ?_ _) | (with_reducible refine Kd.C_drewN ?_ _) | (with_reducible refine Kd.C_drew ?_))); (case side3 => exact (Kd.R_reads' HO_5.out).2.1); rintro e w19 ⟨rfl, hb⟩; refine ⟨_, rfl, ?_⟩; have n0_ := Aside0.mk (Kd.R_below (by (with_reducible repeat (first | apply Kd.R_alloc | apply Kd.R_drewN | apply Kd.R_drew)); exact HO_5.out) hb); have n1_ := Aside0.mk (below_step (by repeat (first | (with_reducible first | exact HB.out | apply below_alloc | apply pw_below_drewN | apply below_drew1) | exact HB.out)) hb); clear HO_5; clear HB; have HO_5 := n0_; have HB := n1_; clear n0_ n1_; (try clear hb); (try clear hb2); (try clear hk); (try clear hi); (try simp only [errW_none, errW_some])))
                  have n0_ := Aside0.mk (Kd.R_drew HO_5.out)
                  have n1_ := Aside0.mk (below_drew1 HB.out)
                  clear HO_5
                  clear HB
                  have HO_5 := n0_
                  have HB := n1_
                  clear n0_ n1_
                  have q21 : (t117 : Int) ≤ ((l0.length : Int) : Int) := of_decide_eq_true (by first | (with_reducible assumption) | assumption)
                  obtain ⟨i021, hi021, _, hsz21, _⟩ := info_parts info58
                  have hroom21 : l0.length ≤ c0 := HC0.out
                  have hC21 : Kd.C k58 _ A0 l0.length l0 := HR0.out
                  have hcut21 := cut_to (P := Tryd.prog) 22 58 .i64 Tryd.underlying22 hi021 A0 l0.length c0 t117 (of_decide_eq_true (by first | (with_reducible assumption) | assumption)) q21 hroom21
                  have hr21 := Kd.C_take (m := (t117 : Int).toNat) hC21 (by omega)
                  have hy21 : y120.length = (t117 : Int).toNat := (by rw [Ny120.out, List.length_take]; omega)
                  rw [← Ny120.out] at hr21
                  rw [← hy21] at hcut21
                  have HR123 := Aside0.mk hr21
                  have HC123 := Aside0.mk (show y120.length ≤ c0 from by omega)
                  clear hr21 hC21 hroom21 hi021 hsz21
                  have KY21 := Aside0.mk hy21
                  clear hy21
                  replace q21 := eq_true q21
                  have q22 : (t117 : Int) ≤ ((l0.length : Int) : Int) := of_decide_eq_true (by first | (with_reducible assumption) | assumption)
                  obtain ⟨i022, hi022, _, hsz22, _⟩ := info_parts info58
                  have hroom22 : l0.length ≤ c0 := HC0.out
                  have hC22 : Kd.C k58 _ A0 l0.length l0 := HR0.out
                  have q022 : (0 : Int) ≤ (t117 : Int) := of_decide_eq_true (by first | (with_reducible assumption) | assumption)
                  have hcut22 := cut_from (P := Tryd.prog) 22 58 .i64 Tryd.underlying22 hi022 2 hsz22 A0 l0.length c0 t117 q022 q22
                  have hr22 := Kd.C_drop (m := (t117 : Int).toNat) (c := c0) hC22 (by omega) hroom22
                  obtain ⟨A22, hA22⟩ : ∃ A1, A1 = (if c0 = (t117 : Int).toNat then A0 else (A0 : Option Addr).map (·.add ((t117 : Int).toNat * 2))) := ⟨_, rfl⟩
                  obtain ⟨c22, hc22⟩ : ∃ c1, c1 = c0 - (t117 : Int).toNat := ⟨_, rfl⟩
                  have hy22 : y127.length = l0.length - (t117 : Int).toNat := (by rw [Ny127.out, List.length_drop] <;> omega)
                  rw [show (l0).drop (t117 : Int).toNat = y127 from Ny127.out.symm] at hr22
                  replace hr22 : Kd.C k58 _ A22 y127.length y127 := (by rw [hA22]; exact hr22)
                  rw [← hy22, ← hA22, ← hc22] at hcut22
                  have HR130 := Aside0.mk hr22
                  have HC130 := Aside0.mk (show y127.length ≤ c22 from by rw [hy22, hc22]; exact Nat.sub_le_sub_right hroom22 _)
                  clear hr22 hC22 hroom22 hi022 hsz22 hc22
                  have KY22 := Aside0.mk hy22
                  have KA22 := Aside0.mk hA22
                  clear hy22 hA22
                  replace q22 := eq_true q22
                  refine start_ (n := 11) (S := fun w' => True) (ds := []) #[false, false, false, false, false, false, false, false, false, false, false] (by kernel_rfl) rfl rfl trivial (fun hHeld => ?_); refine with_tabW leaf_Cut.tab10 leaf_Cut.bits10 (fun HT_ HW_ => ?_)
                  generalize w19.drew = w20 at HO_5 HB HR123 HR130 hHeld ⊢
                  refine pure_ (i := 0) (N := some 30) (v := ?_) (a' := ?_) #[true, false, false, false, false, false, false, false, false, false, false] rfl rfl (any_of HT_.out (by kernel_rfl)) (fun _ _ _ h => h) (Or.inl ⟨by rfl, ?_⟩) ?_ ?_
                  rotate_left
                  · intro w'
                    go_simp
                    with_reducible rfl
                  rotate_left
                  · simp only [Act.put, List.setIfInBounds_toArray, List.set_cons_zero, List.set_cons_succ, i64_w, i32_w]
                    rfl
                  refine pure_ (i := 1) (N := some 31) (v := ?_) (a' := ?_) #[true, true, false, false, false, false, false, false, false, false, false] rfl rfl (any_of HT_.out (by kernel_rfl)) (fun _ _ _ h => h) (Or.inl ⟨by rfl, ?_⟩) ?_ ?_
                  rotate_left
                  · intro w'
                    go_simp
                    with_reducible rfl
                  rotate_left
                  · simp only [Act.put, List.setIfInBounds_toArray, List.set_cons_zero, List.set_cons_succ, i64_w, i32_w]
                    rfl
                  refine pure_ (i := 2) (N := some 32) (v := ?_) (a' := ?_) #[true, true, true, false, false, false, false, false, false, false, false] rfl rfl (any_of HT_.out (by kernel_rfl)) (fun _ _ _ h => h) (Or.inl ⟨by rfl, ?_⟩) ?_ ?_
                  rotate_left
                  · intro w'
                    go_simp
                    with_reducible rfl
                  rotate_left
                  · simp only [Act.put, List.setIfInBounds_toArray, List.set_cons_zero, List.set_cons_succ, i64_w, i32_w]
                    rfl
                  refine pure_ (i := 4) (N := some 34) (v := ?_) (a' := ?_) #[true, true, true, false, true, false, false, false, false, false, false] rfl rfl (any_of HT_.out (by kernel_rfl)) (fun _ _ _ h => h) (Or.inl ⟨by rfl, ?_⟩) ?_ ?_
                  rotate_left
                  · intro w'
                    go_simp
                    with_reducible rfl
                  rotate_left
                  · simp only [Act.put, List.setIfInBounds_toArray, List.set_cons_zero, List.set_cons_succ, i64_w, i32_w]
                    rfl
                  refine pure_ (i := 5) (N := some 35) (v := ?_) (a' := ?_) #[true, true, true, false, true, true, false, false, false, false, false] rfl rfl (any_of HT_.out (by kernel_rfl)) (fun _ _ _ h => h) (Or.inl ⟨by rfl, ?_⟩) ?_ ?_
                  rotate_left
                  · intro w'
                    go_simp
                    with_reducible rfl
                  rotate_left
                  · simp only [Act.put, List.setIfInBounds_toArray, List.set_cons_zero, List.set_cons_succ, i64_w, i32_w]
                    rfl
                  refine pure_ (i := 6) (N := some 36) (v := ?_) (a' := ?_) #[true, true, true, false, true, true, true, false, false, false, false] rfl rfl (any_of HT_.out (by kernel_rfl)) (fun _ _ _ h => h) (Or.inl ⟨by rfl, ?_⟩) ?_ ?_
                  rotate_left
                  · intro w'
                    go_simp
                    with_reducible rfl
                  rotate_left
                  · simp only [Act.put, List.setIfInBounds_toArray, List.set_cons_zero, List.set_cons_succ, i64_w, i32_w]
                    rfl
                  refine one_ (i := 3) (N := some 33) #[true, true, true, true, true, true, true, false, false, false, false] rfl rfl (one_of HT_.out (by kernel_rfl)) (by decide) (fun K hK => ?_)
                  refine Kd.R_append_rows_step k58 (w0 := w) w.heap.size (by rfl) (.const (.slice none 0 0)) (.tmp 32) 22 58 (.agg #[(.string ⟨#[]⟩), (.string ⟨#[]⟩)]) 32 rfl Tryd.underlying22 info58 rfl (by decide) (by omega) (.slice none 0 0) ([] : List (S58)) y120 _ _ _ (fun _ => True) (fun _ => False) rfl rfl ?aO ?aR (fun _ _ h => h) (fun _ h => h.elim) ?aF ?aB ?aS ?aL ?_
                  (case aR => repeat (first | exact (Kd.C_below HR123.out HB.out) | (with_reducible refine Kd.C_alloc ?_ _) | (with_reducible refine Kd.C_drewN ?_ _) | (with_reducible refine Kd.C_drew ?_)))
                  (case aB => exact (by repeat (first | (with_reducible first | exact HB.out | apply below_alloc | apply pw_below_drewN | apply below_drew1) | exact HB.out)))
                  (case aF => exact (fun _ _ => trivial))
                  (case aO => exact ((Kd.R_nil _ _ _ _ (fun _ => True))))
                  (case aS => exact (below_size (by repeat (first | (with_reducible first | exact HB.out | apply below_alloc | apply pw_below_drewN | apply below_drew1) | exact HB.out))))
                  (case aL => have := LMc14.out; omega)
                  intro v125 w23 ho hb hg hat
                  rw [← Ny124.out] at ho
                  have n0_ := Aside0.mk (Kd.R_grown (by (with_reducible repeat (first | apply Kd.R_alloc | apply Kd.R_drewN | apply Kd.R_drew)); exact HO_5.out) hg (fun _ _ => by simp [Value.ownBlock]))
                  have n1_ := Aside0.mk (hb)
                  have n2_ := Aside0.mk (ho)
                  clear HO_5
                  clear HB
                  have HO_5 := n0_
                  have HB := n1_
                  have HO126 := n2_
                  clear n0_ n1_ n2_
                  clear ho hb hg hat
                  refine hK.out _ _ trivial (fun hHeld => ?_)
                  clear hK K
                  refine norm_ (a' := ?_) ?_ ?_
                  rotate_left
                  · show Act.put _ (some 33) _ = _
                    simp only [Act.put, List.setIfInBounds_toArray, List.set_cons_zero, List.set_cons_succ, i64_w, i32_w]
                    rfl
                  refine one_ (i := 7) (N := some 37) #[true, true, true, true, true, true, true, true, false, false, false] rfl rfl (one_of HT_.out (by kernel_rfl)) (by decide) (fun K hK => ?_)
                  refine Kd.R_append_rows_step k58 (w0 := w) w.heap.size (by rfl) (.const (.slice none 0 0)) (.tmp 36) 22 58 (.agg #[(.string ⟨#[]⟩), (.string ⟨#[]⟩)]) 32 rfl Tryd.underlying22 info58 rfl (by decide) (by omega) (.slice none 0 0) ([] : List (S58)) y127 _ _ _ (fun k_ => some k_ ≠ (v125 : Value).ownBlock) (fun _ => False) rfl rfl ?aO ?aR (fun _ _ h => h) (fun _ h => h.elim) ?aF ?aB ?aS ?aL ?_
                  (case aR => repeat (first | exact (Kd.C_below HR130.out HB.out) | (with_reducible refine Kd.C_alloc ?_ _) | (with_reducible refine Kd.C_drewN ?_ _) | (with_reducible refine Kd.C_drew ?_)))
                  (case aB => exact (by repeat (first | (with_reducible first | exact HB.out | apply below_alloc | apply pw_below_drewN | apply below_drew1) | exact HB.out)))
                  (case aF => exact (fun k_ hk => Kd.fresh' (Kd.R_lt (by (with_reducible repeat (first | apply Kd.R_alloc | apply Kd.R_drewN | apply Kd.R_drew)); exact HO126.out)) k_ hk))
                  (case aO => exact ((Kd.R_nil _ _ _ _ (fun k_ => some k_ ≠ (v125 : Value).ownBlock))))
                  (case aS => exact (below_size (by repeat (first | (with_reducible first | exact HB.out | apply below_alloc | apply pw_below_drewN | apply below_drew1) | exact HB.out))))
                  (case aL => have := LMc17.out; omega)
                  intro v132 w24 ho hb hg hat
                  rw [← Ny131.out] at ho
                  have n0_ := Aside0.mk (Kd.R_grown (by (with_reducible repeat (first | apply Kd.R_alloc | apply Kd.R_drewN | apply Kd.R_drew)); exact HO_5.out) hg (fun _ _ => by simp [Value.ownBlock]))
                  have n1_ := Aside0.mk (Kd.R_after (Kd.R_apart_nil (by (with_reducible repeat (first | apply Kd.R_alloc | apply Kd.R_drewN | apply Kd.R_drew)); exact HO126.out)) hg hat)
                  have n2_ := Aside0.mk (hb)
                  have n3_ := Aside0.mk (ho)
                  clear HO_5
                  clear HO126
                  clear HB
                  have HO_5 := n0_
                  have HO126 := n1_
                  have HB := n2_
                  have HO133 := n3_
                  clear n0_ n1_ n2_ n3_
                  clear ho hb hg hat
                  refine hK.out _ _ trivial (fun hHeld => ?_)
                  clear hK K
                  refine norm_ (a' := ?_) ?_ ?_
                  rotate_left
                  · show Act.put _ (some 37) _ = _
                    simp only [Act.put, List.setIfInBounds_toArray, List.set_cons_zero, List.set_cons_succ, i64_w, i32_w]
                    rfl
                  refine pure_ (i := 8) (N := some 2) (v := ?_) (a' := ?_) #[true, true, true, true, true, true, true, true, true, false, false] rfl rfl (any_of HT_.out (by kernel_rfl)) (fun _ _ _ h => h) (Or.inl ⟨by rfl, ?_⟩) ?_ ?_
                  rotate_left
                  · intro w'
                    go_simp
                    with_reducible rfl
                  rotate_left
                  · simp only [Act.put, List.setIfInBounds_toArray, List.set_cons_zero, List.set_cons_succ, i64_w, i32_w]
                    rfl
                  refine pure_ (i := 9) (N := some 3) (v := ?_) (a' := ?_) #[true, true, true, true, true, true, true, true, true, true, false] rfl rfl (any_of HT_.out (by kernel_rfl)) (fun _ _ _ h => h) (Or.inl ⟨by rfl, ?_⟩) ?_ ?_
                  rotate_left
                  · intro w'
                    go_simp
                    with_reducible rfl
                  rotate_left
                  · simp only [Act.put, List.setIfInBounds_toArray, List.set_cons_zero, List.set_cons_succ, i64_w, i32_w]
                    rfl
                  refine pure_ (i := 10) (N := some 4) (v := ?_) (a' := ?_) #[true, true, true, true, true, true, true, true, true, true, true] rfl rfl (any_of HT_.out (by kernel_rfl)) (fun _ _ _ h => h) (Or.inl ⟨by rfl, ?_⟩) ?_ ?_
                  rotate_left
                  · intro w'
                    go_simp
                    with_reducible rfl
                  rotate_left
                  · simp only [Act.put, List.setIfInBounds_toArray, List.set_cons_zero, List.set_cons_succ, i64_w, i32_w]
                    rfl
                  refine done_ (done_of HT_.out (by kernel_rfl)) ?_
                  try go_wp2
                  go_ret3
                  exact ⟨_, _, by first | rfl | (simp [errW_none, errW_some] <;> rfl) | (simp [*, errW_none, errW_some] <;> rfl), by (with_reducible repeat (first | apply Kd.R_alloc | apply Kd.R_drewN | apply Kd.R_drew)); exact Kd.R_mono HO126.out (fun _ hk => hk.2), by (with_reducible repeat (first | apply Kd.R_alloc | apply Kd.R_drewN | apply Kd.R_drew)); exact HO133.out, by repeat (first | (with_reducible first | exact HB.out | apply below_alloc | apply pw_below_drewN | apply below_drew1) | exact HB.out)⟩
                · rw [if_neg c17] at H
                  exact absurd H (by simp)
              · rw [if_neg c14] at H
                exact absurd H (by simp)
            · rw [if_neg c13] at H
              exact absurd H (by simp)
          · rw [if_neg c12] at H
            exact absurd H (by simp)
        · have H1 : (some (([] : List (S58)), ([] : List (S58)), some q119)) = some (r1, r2, r3) := by rw [if_neg (show ¬ (some q119).isNone = true by simp)] at H; exact H
          clear H
          have H := H1
          clear H1
          try simp only [errW_none, errW_some]
          simp only [Option.some.injEq, Prod.mk.injEq] at H
          obtain ⟨rfl, rfl, rfl⟩ := H
          obtain ⟨Ao25, co25, eo25⟩ := Kd.R_slice HO_5.out
          subst eo25
          go_wp2_with (first | ((with_reducible refine gate_callee (f := 36) rfl ?_); refine goesL_ (some 24) rfl rfl Tryd.func36 (by kernel_rfl) rfl #[.slice Ao25 x5_1.length co25] rfl (by (try simp only [List.map_toArray, List.map_cons, List.map_nil]); first | done | rfl | (simp only [List.length_drop, List.length_take]; rfl)) ?_; (with_reducible refine (cells_Cut.calls k1 E _ _ x5_1 t117 (some q119) _ ?side1 ?side2 ?side3 A11.out).mono ?_); (case side1 => exact (Glob.below HG.out (by repeat (first | (with_reducible first | exact HB.out | apply below_alloc | apply pw_below_drewN | apply below_drew1) | exact HB.out)))); (case side2 => repeat (first | exact (Kd.R_reads' HO_5.out).2.2 | (with_reducible refine Kd.C_alloc ?_ _) | (with_reducible refine Kd.C_drewN ?_ _) | (with_reducible refine Kd.C_drew ?_))); (case side3 => exact (Kd.R_reads' HO_5.out).2.1); rintro e w26 ⟨rfl, hb⟩; refine ⟨_, rfl, ?_⟩; have n0_ := Aside0.mk (Kd.R_below (by (with_reducible repeat (first | apply Kd.R_alloc | apply Kd.R_drewN | apply Kd.R_drew)); exact HO_5.out) hb); have n1_ := Aside0.mk (below_step (by repeat (first | (with_reducible first | exact HB.out | apply below_alloc | apply pw_below_drewN | apply below_drew1) | exact HB.out)) hb); clear HO_5; clear HB; have HO_5 := n0_; have HB := n1_; clear n0_ n1_; (try clear hb); (try clear hb2); (try clear hk); (try clear hi); (try simp only [errW_none, errW_some])))
          go_ret3
          exact ⟨_, _, by first | rfl | (simp [errW_none, errW_some] <;> rfl) | (simp [*, errW_none, errW_some] <;> rfl), by first | exact Kd.R_nil _ _ _ _ _ | exact Kd.N_nil _ _ _ _ _ | exact Kd.V_nil _ _ _ _ _ | exact Kd.Q_nil _ _ _ _ _ | exact Kd.S_nil _ _ _ _ _, by first | exact Kd.R_nil _ _ _ _ _ | exact Kd.N_nil _ _ _ _ _ | exact Kd.V_nil _ _ _ _ _ | exact Kd.Q_nil _ _ _ _ _ | exact Kd.S_nil _ _ _ _ _, by repeat (first | (with_reducible first | exact HB.out | apply below_alloc | apply pw_below_drewN | apply below_drew1) | exact HB.out)⟩

/-! ### copseref0_SamePairs: function 20 -/
def copseref0_SamePairs.l0 : Nat → List (S58) → List (S58) → Int → Option (Bool)
  | 0, _, _, _ => none
  | k + 1, x0, x1, x5 => if x5 < (x0.length : Int) then (if 0 ≤ x5 then (if x5 < (x1.length : Int) then (if (!((((rd_T58 x0 x5).f0).toList) == (((rd_T58 x1 x5).f0).toList)) || (!((((rd_T58 x0 x5).f1).toList) == (((rd_T58 x1 x5).f1).toList)))) = true then (some false) else (copseref0_SamePairs.l0 k x0 x1 (wrap64 (x5 + 1)))) else (none)) else (none)) else (some true)
def copseref0_SamePairs.f (k : Nat) (l0 : List (S58)) (l1 : List (S58)) : Option (Bool) := if (l0.length : Int) = (l1.length : Int) then (copseref0_SamePairs.l0 k l0 l1 0) else (some false)
theorem copseref0_SamePairs.mono_l : ∀ k, (∀ y0 y1 y2, LeO (copseref0_SamePairs.l0 k y0 y1 y2) (copseref0_SamePairs.l0 (k + 1) y0 y1 y2))
  | 0 => fun _ _ _ r h => by simp [copseref0_SamePairs.l0] at h
  | k + 1 => by
    have ih0 := copseref0_SamePairs.mono_l k
    · intro y0 y1 y2
      unfold copseref0_SamePairs.l0
      repeat' first
      | (with_reducible exact ih0 _ _ _)
      | (with_reducible exact LeO.refl _)
      | (with_reducible exact LeO.none _)
      | (with_reducible refine LeO.ite ?_ ?_)
      | (with_reducible refine LeO.bind ?_ (fun _ => ?_))
      | exact ih0 _ _ _
      | exact LeO.none _
      | refine LeO.ite ?_ ?_
      | refine LeO.bind ?_ (fun _ => ?_)
theorem copseref0_SamePairs.mono : ∀ a0 a1 k, LeO (copseref0_SamePairs.f k a0 a1) (copseref0_SamePairs.f (k + 1) a0 a1) := by
  intro a0 a1 k
  have ih0 := copseref0_SamePairs.mono_l k
  unfold copseref0_SamePairs.f
  repeat' first
      | (with_reducible exact ih0 _ _ _)
      | (with_reducible exact LeO.refl _)
      | (with_reducible exact LeO.none _)
      | (with_reducible refine LeO.ite ?_ ?_)
      | (with_reducible refine LeO.bind ?_ (fun _ => ?_))
      | exact ih0 _ _ _
      | exact LeO.none _
      | refine LeO.ite ?_ ?_
      | refine LeO.bind ?_ (fun _ => ?_)
set_option maxHeartbeats 8000000 in
set_option maxRecDepth 100000 in
theorem copseref0_SamePairs.calls (k : Nat) (A0 : Option Addr) (c0 : Nat) (l0 : List (S58)) (A1 : Option Addr) (c1 : Nat) (l1 : List (S58)) (r : Bool) (w : World) (hr0 : Kd.C k58 w A0 l0.length l0) (hc0 : l0.length ≤ c0) (hr1 : Kd.C k58 w A1 l1.length l1) (hc1 : l1.length ≤ c1) (h : copseref0_SamePairs.f k l0 l1 = some r) :
    Calls Tryd.prog 20 #[.slice A0 l0.length c0, .slice A1 l1.length c1] w fun e w' => e = .returned (.bool r) ∧ Drawn0 w w' := by
  have hu58 := Tryd.underlying58
  have HR0 := Aside0.mk hr0
  have HC0 := Aside0.mk hc0
  clear hr0 hc0
  have HR1 := Aside0.mk hr1
  have HC1 := Aside0.mk hc1
  clear hr1 hc1
  have H : (if (l0.length : Int) = (l1.length : Int) then (copseref0_SamePairs.l0 k l0 l1 0) else (some false)) = some r := h
  clear h
  by_cases c3 : (l0.length : Int) = (l1.length : Int)
  · rw [if_pos c3] at H
    have c3b0 : ((l0.length : Int) == (l1.length : Int)) = true := beq_iff_eq.mpr c3
    have c3b1 : ((l0.length : Int) != (l1.length : Int)) = false := bne_eq_false_iff_eq.mpr c3
    have c3b2 : (l0.length == l1.length) = true := by first | simpa using c3 | (simp at c3 ⊢; omega)
    clear c3
    have H' := Aside0.mk H
    clear H
    go_enter Tryd.func20, Tryd.ntmps20
    go_wp2
    repeat (go_quiet (fail); try go_wp2)
    go_loopg [5] k (fun kq v5 w' => ∃ (x5_1 : Int), v5 = .int .i64 x5_1 ∧ Aside0 (copseref0_SamePairs.l0 kq l0 l1 x5_1 = some r) ∧ Aside0 (kq ≤ k) ∧ Drawn0 w w')
    case atStart => exact ⟨(0), (by first | rfl | (simp; done) | (simp [*]; done)), H', ⟨Nat.le_refl _⟩, by repeat (first | exact Drawn0.refl _ | apply Drawn0.step)⟩
    case round =>
      clear H'
      try clear c1
      try clear c2
      try clear p2
      try clear c3
      try clear c3b0
      try clear c3b1
      try clear c3b2
      obtain ⟨x5_1, rfl, HA, HK1, ⟨m1, rfl⟩⟩ := hrel
      cases gk with
      | zero => exact absurd HA.out (by simp [copseref0_SamePairs.l0])
      | succ k1 =>
        have H := HA.out
        clear HA
        simp only [copseref0_SamePairs.l0] at H
        by_cases c4 : x5_1 < (l0.length : Int)
        · rw [if_pos c4] at H
          have c4b0 : decide (x5_1 < (l0.length : Int)) = true := decide_eq_true c4
          clear c4
          by_cases c5 : 0 ≤ x5_1
          · rw [if_pos c5] at H
            have c5b0 : decide (0 ≤ x5_1) = true := decide_eq_true c5
            clear c5
            by_cases c6 : x5_1 < (l1.length : Int)
            · rw [if_pos c6] at H
              have c6b0 : decide (x5_1 < (l1.length : Int)) = true := decide_eq_true c6
              clear c6
              by_cases c7 : (!((((rd_T58 l0 x5_1).f0).toList) == (((rd_T58 l1 x5_1).f0).toList)) || (!((((rd_T58 l0 x5_1).f1).toList) == (((rd_T58 l1 x5_1).f1).toList)))) = true
              · rw [if_pos c7] at H
                have c7b0 : (!((((rd_T58 l0 x5_1).f0).toList) == (((rd_T58 l1 x5_1).f0).toList)) || (!((((rd_T58 l0 x5_1).f1).toList) == (((rd_T58 l1 x5_1).f1).toList)))) = true := c7
                clear c7
                obtain rfl := Option.some.inj H
                have p134 : 0 ≤ (x5_1 : Int) := of_decide_eq_true (by first | (with_reducible assumption) | assumption)
                have q134 : x5_1 < (l0.length : Int) := of_decide_eq_true (by first | (with_reducible assumption) | assumption)
                obtain ⟨ad134, e134, hx134_0, hx134_1⟩ := at_T58 HR0.out x5_1 p134 q134
                cases e134
                replace p134 := eq_true p134
                replace q134 := eq_true q134
                have p135 : 0 ≤ (x5_1 : Int) := of_decide_eq_true (by first | (with_reducible assumption) | assumption)
                have q135 : x5_1 < (l1.length : Int) := of_decide_eq_true (by first | (with_reducible assumption) | assumption)
                obtain ⟨ad135, e135, hx135_0, hx135_1⟩ := at_T58 HR1.out x5_1 p135 q135
                cases e135
                replace p135 := eq_true p135
                replace q135 := eq_true q135
                go_wp2
                repeat (go_quiet (fail); try go_wp2)
                go_ret
                exact ⟨by first | rfl | (simp; done) | (simp [*]; done), by repeat (first | exact Drawn0.refl _ | apply Drawn0.step)⟩
              · rw [if_neg c7] at H
                have c7b0 : (!((((rd_T58 l0 x5_1).f0).toList) == (((rd_T58 l1 x5_1).f0).toList)) || (!((((rd_T58 l0 x5_1).f1).toList) == (((rd_T58 l1 x5_1).f1).toList)))) = false := by simpa using c7
                clear c7
                have H' := Aside0.mk H
                clear H
                have p134 : 0 ≤ (x5_1 : Int) := of_decide_eq_true (by first | (with_reducible assumption) | assumption)
                have q134 : x5_1 < (l0.length : Int) := of_decide_eq_true (by first | (with_reducible assumption) | assumption)
                obtain ⟨ad134, e134, hx134_0, hx134_1⟩ := at_T58 HR0.out x5_1 p134 q134
                cases e134
                replace p134 := eq_true p134
                replace q134 := eq_true q134
                have p135 : 0 ≤ (x5_1 : Int) := of_decide_eq_true (by first | (with_reducible assumption) | assumption)
                have q135 : x5_1 < (l1.length : Int) := of_decide_eq_true (by first | (with_reducible assumption) | assumption)
                obtain ⟨ad135, e135, hx135_0, hx135_1⟩ := at_T58 HR1.out x5_1 p135 q135
                cases e135
                replace p135 := eq_true p135
                replace q135 := eq_true q135
                go_wp2
                repeat (go_quiet (fail); try go_wp2)
                go_roundg k1
                case measure => have := HK1.out; omega
                case rel => exact ⟨(wrap64 (x5_1 + 1)), (by first | rfl | (simp; done) | (simp [*]; done)), H', ⟨by have := HK1.out; omega⟩, by repeat (first | exact Drawn0.refl _ | apply Drawn0.step)⟩
            · rw [if_neg c6] at H
              exact absurd H (by simp)
          · rw [if_neg c5] at H
            exact absurd H (by simp)
        · rw [if_neg c4] at H
          have c4b0 : decide (x5_1 < (l0.length : Int)) = false := decide_eq_false c4
          clear c4
          obtain rfl := Option.some.inj H
          go_wp2
          repeat (go_quiet (fail); try go_wp2)
          go_ret
          exact ⟨by first | rfl | (simp; done) | (simp [*]; done), by repeat (first | exact Drawn0.refl _ | apply Drawn0.step)⟩
  · rw [if_neg c3] at H
    have c3b0 : ((l0.length : Int) == (l1.length : Int)) = false := beq_eq_false_iff_ne.mpr c3
    have c3b1 : ((l0.length : Int) != (l1.length : Int)) = true := bne_iff_ne.mpr c3
    have c3b2 : (l0.length == l1.length) = false := by first | simpa using c3 | (simp at c3 ⊢; omega)
    obtain rfl := Option.some.inj H
    go_enter Tryd.func20, Tryd.ntmps20
    go_wp2
    repeat (go_quiet (fail); try go_wp2)
    go_ret
    exact ⟨by first | rfl | (simp; done) | (simp [*]; done), by repeat (first | exact Drawn0.refl _ | apply Drawn0.step)⟩

end Go.Proofs.YtdailhlghlledaaDoor.XLeafHalves
