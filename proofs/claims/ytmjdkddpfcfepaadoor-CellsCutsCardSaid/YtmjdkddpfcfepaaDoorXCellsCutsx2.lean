-- Printed for this claim by a program (wip/printx) that builds on the kit's print. Not trusted: Lean checks it.
import Derived.Test.YtmjdkddpfcfepaaDoorXCellsCutsx0
import Derived.Test.YtmjdkddpfcfepaaDoorXCellsCutsx1
namespace Go.Proofs.YtmjdkddpfcfepaaDoor.XCellsCuts
open Go.RowKit Go.Proofs.YtmjdkddpfcfepaaDoorW.PrintWords Go.Proofs.YtmjdkddpfcfepaaDoorW.PrintLast Go.Proofs.YtmjdkddpfcfepaaDoorW.PrintMore
attribute [local go_sem] max2_int min2_int max_two min_two max_three min_three max_four min_four   -- for this text's walks alone
set_option linter.unusedVariables false
set_option linter.unusedSimpArgs false

/-! ### cells_Cut: function 21 -/
def cells_nearest.abs (w : Int) : Int := if w < 0 then wrap64 (-w) else w
def cells_nearest.l (g : Int → Int → Int) : Nat → List Int → Int → Int → Int → Int → Int → Option Int
  | 0, _, _, _, _, _, _ => none
  | k + 1, xs, last, best, least, ahead, i => if i ≤ last then (if 0 ≤ i ∧ i < (xs.length : Int) then
      (if best = 0 ∨ cells_nearest.abs (g ahead (rd xs i)) < least then cells_nearest.l g k xs last i (cells_nearest.abs (g ahead (rd xs i))) (wrap64 (ahead + rd xs i)) (wrap64 (i + 1))
       else cells_nearest.l g k xs last best least (wrap64 (ahead + rd xs i)) (wrap64 (i + 1))) else none) else some best
def cells_nearest.f (g : Int → Int → Int) (k : Nat) (xs : List Int) (last : Int) : Option Int := if 0 < (xs.length : Int) then cells_nearest.l g k xs last 0 0 (rd xs 0) 1 else none
theorem cells_nearest.mono_l (g : Int → Int → Int) : ∀ k y0 y1 y2 y3 y4 y5, LeO (cells_nearest.l g k y0 y1 y2 y3 y4 y5) (cells_nearest.l g (k + 1) y0 y1 y2 y3 y4 y5)
  | 0 => fun _ _ _ _ _ _ r h => by simp [cells_nearest.l] at h
  | k + 1 => by
    have ih := cells_nearest.mono_l g k
    intro y0 y1 y2 y3 y4 y5
    unfold cells_nearest.l
    repeat' first
      | (with_reducible exact ih _ _ _ _ _ _)
      | (with_reducible exact LeO.refl _)
      | (with_reducible exact LeO.none _)
      | (with_reducible refine LeO.ite ?_ ?_)
theorem cells_nearest.mono (g : Int → Int → Int) (a0 a1) (k : Nat) : LeO (cells_nearest.f g k a0 a1) (cells_nearest.f g (k + 1) a0 a1) := by
  unfold cells_nearest.f
  exact LeO.ite (cells_nearest.mono_l g k _ _ _ _ _ _) (LeO.refl _)
theorem cell_new_ (w : World) (v : Value) (t : Nat) : (w.alloc (.cells #[v] t)).cell? ⟨w.heap.size, 0, none⟩ = some v := by
  have h := heap_alloc_new w (.cells #[v] t)
  unfold World.cell?
  simp only [h]
  rfl
theorem cells_Cut.clo (all ah ow : Int) (b : Nat) (w : World) (hv : w.cell? ⟨b, 0, none⟩ = some (.int .i64 all)) :
    Calls Tryd.prog 34 #[.int .i64 ah, .int .i64 ow, .pointer (some ⟨b, 0, none⟩)] w fun e w' => e = .returned (.int .i64 (wrap64 (wrap64 (2 * ah) - all))) ∧ w' = w := by
  go_enter Tryd.func34, Tryd.ntmps34
  go_wp2
  go_ret
  exact ⟨by simp, rfl⟩
set_option maxHeartbeats 8000000 in
set_option maxRecDepth 100000 in
theorem cells_Cut.near (all : Int) (b : Nat) (k : Nat) (A0 : Option Addr) (c0 : Nat) (l0 : List Int) (a1 : Int) (r : Int) (w : World) (hv : w.cell? ⟨b, 0, none⟩ = some (.int .i64 all)) (hr0 : Kd.C (Kd.int .i64) w A0 l0.length l0)
    (h : cells_nearest.f (fun ah ow => wrap64 (wrap64 (2 * ah) - all)) k l0 a1 = some r) :
    Calls Tryd.prog 33 #[.slice A0 l0.length c0, .int .i64 a1, .func (.func 34) #[] #[.pointer (some ⟨b, 0, none⟩)]] w fun e w' => e = .returned (.int .i64 r) ∧ w' = w := by
  have HR0 := Aside0.mk hr0
  have HV := Aside0.mk hv
  clear hr0 hv
  unfold cells_nearest.f at h
  by_cases c1 : 0 < (l0.length : Int)
  · rw [if_pos c1] at h
    have H' := Aside0.mk h
    clear h
    obtain ⟨ad, e, hx⟩ := Kd.at_int HR0.out 0 (by omega) c1
    cases e
    rw [show ad.add (Int.toNat 0) = ad from by unfold Addr.add; simp] at hx
    have c1b : decide (0 < (l0.length : Int)) = true := decide_eq_true c1
    go_enter Tryd.func33, Tryd.ntmps33
    go_wp2
    go_loopg [7, 8, 9, 10] k (fun kq v7 v8 v9 v10 w' => ∃ (x7 x8 x9 x10 : Int), v7 = .int .i64 x7 ∧ v8 = .int .i64 x8 ∧ v9 = .int .i64 x9 ∧ v10 = .int .i64 x10 ∧ Aside0 (cells_nearest.l (fun ah ow => wrap64 (wrap64 (2 * ah) - all)) kq l0 a1 x7 x8 x9 x10 = some r) ∧ w' = w)
    case atStart => exact ⟨_, _, _, _, rfl, rfl, rfl, rfl, H', rfl⟩
    case round =>
      clear H'
      obtain ⟨x7, x8, x9, x10, rfl, rfl, rfl, rfl, HA, rfl⟩ := hrel
      cases gk with
      | zero => exact absurd HA.out (by simp [cells_nearest.l])
      | succ k1 =>
        have H := HA.out
        clear HA
        simp only [cells_nearest.l] at H
        by_cases c2 : x10 ≤ a1
        · rw [if_pos c2] at H
          have c2b : decide (x10 ≤ a1) = true := decide_eq_true c2
          by_cases c3 : 0 ≤ x10 ∧ x10 < (l0.length : Int)
          · rw [if_pos c3] at H
            obtain ⟨c3, c4⟩ := c3
            have c3b : decide (0 ≤ x10) = true := decide_eq_true c3
            have c4b : decide (x10 < (l0.length : Int)) = true := decide_eq_true c4
            obtain ⟨ad2, e2, hx2⟩ := Kd.at_int HR0.out x10 c3 c4
            cases e2
            have hv := HV.out
            obtain ⟨gv, hgv⟩ : ∃ gv, wrap64 (wrap64 (2 * x9) - all) = gv := ⟨_, rfl⟩
            rw [hgv] at H
            by_cases c5 : gv < 0
            · have c5b : decide (gv < 0) = true := decide_eq_true c5
              rw [show cells_nearest.abs gv = wrap64 (-gv) from if_pos c5] at H
              by_cases c6 : x7 = 0
              · have c6b : (x7 == 0) = true := beq_iff_eq.mpr c6
                rw [if_pos (.inl c6)] at H
                have H' := Aside0.mk H
                clear H
                go_wp2_with (first | (go_at_call 34; refine (cells_Cut.clo all _ _ b _ hv).mono ?_; rintro e w1 ⟨rfl, rfl⟩))
                go_roundg k1
                case measure => omega
                case rel => exact ⟨_, _, _, _, rfl, rfl, rfl, rfl, H', rfl⟩
              · have c6b : (x7 == 0) = false := beq_eq_false_iff_ne.mpr c6
                by_cases c7 : wrap64 (-gv) < x8
                · have c7b : decide (wrap64 (-gv) < x8) = true := decide_eq_true c7
                  rw [if_pos (.inr c7)] at H
                  have H' := Aside0.mk H
                  clear H
                  go_wp2_with (first | (go_at_call 34; refine (cells_Cut.clo all _ _ b _ hv).mono ?_; rintro e w1 ⟨rfl, rfl⟩))
                  go_roundg k1
                  case measure => omega
                  case rel => exact ⟨_, _, _, _, rfl, rfl, rfl, rfl, H', rfl⟩
                · have c7b : decide (wrap64 (-gv) < x8) = false := decide_eq_false c7
                  rw [if_neg (fun h => h.elim c6 c7)] at H
                  have H' := Aside0.mk H
                  clear H
                  go_wp2_with (first | (go_at_call 34; refine (cells_Cut.clo all _ _ b _ hv).mono ?_; rintro e w1 ⟨rfl, rfl⟩))
                  go_roundg k1
                  case measure => omega
                  case rel => exact ⟨_, _, _, _, rfl, rfl, rfl, rfl, H', rfl⟩
            · have c5b : decide (gv < 0) = false := decide_eq_false c5
              rw [show cells_nearest.abs gv = gv from if_neg c5] at H
              by_cases c6 : x7 = 0
              · have c6b : (x7 == 0) = true := beq_iff_eq.mpr c6
                rw [if_pos (.inl c6)] at H
                have H' := Aside0.mk H
                clear H
                go_wp2_with (first | (go_at_call 34; refine (cells_Cut.clo all _ _ b _ hv).mono ?_; rintro e w1 ⟨rfl, rfl⟩))
                go_roundg k1
                case measure => omega
                case rel => exact ⟨_, _, _, _, rfl, rfl, rfl, rfl, H', rfl⟩
              · have c6b : (x7 == 0) = false := beq_eq_false_iff_ne.mpr c6
                by_cases c7 : gv < x8
                · have c7b : decide (gv < x8) = true := decide_eq_true c7
                  rw [if_pos (.inr c7)] at H
                  have H' := Aside0.mk H
                  clear H
                  go_wp2_with (first | (go_at_call 34; refine (cells_Cut.clo all _ _ b _ hv).mono ?_; rintro e w1 ⟨rfl, rfl⟩))
                  go_roundg k1
                  case measure => omega
                  case rel => exact ⟨_, _, _, _, rfl, rfl, rfl, rfl, H', rfl⟩
                · have c7b : decide (gv < x8) = false := decide_eq_false c7
                  rw [if_neg (fun h => h.elim c6 c7)] at H
                  have H' := Aside0.mk H
                  clear H
                  go_wp2_with (first | (go_at_call 34; refine (cells_Cut.clo all _ _ b _ hv).mono ?_; rintro e w1 ⟨rfl, rfl⟩))
                  go_roundg k1
                  case measure => omega
                  case rel => exact ⟨_, _, _, _, rfl, rfl, rfl, rfl, H', rfl⟩
          · rw [if_neg c3] at H
            exact absurd H (by simp)
        · rw [if_neg c2] at H
          have c2b : decide (x10 ≤ a1) = false := decide_eq_false c2
          obtain rfl := Option.some.inj H
          go_wp2
          go_ret
          exact ⟨rfl, rfl⟩
  · rw [if_neg c1] at h
    exact absurd h (by simp)
def cells_Cut.f (k : Nat) (l0 : List Int) : Option (Int × Option Int) := (cells_check.f k l0 2).bind fun t => if t.2.isNone = true then (cells_nearest.f (fun ah ow => wrap64 (wrap64 (2 * ah) - t.1)) k l0 (wrap64 ((l0.length : Int) - 1))).bind fun n => some (n, none) else some (0, t.2)
theorem cells_Cut.mono : ∀ a0 k, LeO (cells_Cut.f k a0) (cells_Cut.f (k + 1) a0) := by
  intro a0 k
  unfold cells_Cut.f
  exact LeO.bind (cells_check.mono _ _ _) (fun _ => LeO.ite (LeO.bind (cells_nearest.mono _ _ _ _) (fun _ => LeO.refl _)) (LeO.refl _))
set_option maxHeartbeats 8000000 in
set_option maxRecDepth 100000 in
theorem cells_Cut.calls (k : Nat) (E : Int → Addr) (A0 : Option Addr) (c0 : Nat) (l0 : List Int) (r1 : Int) (r2 : Option Int) (w : World) (hG : Glob E w) (hr0 : Kd.C (Kd.int .i64) w A0 l0.length l0) (hc0 : l0.length ≤ c0) (h : cells_Cut.f k l0 = some (r1, r2)) :
    Calls Tryd.prog 21 #[.slice A0 l0.length c0] w fun e w' => e = .returned (.tuple #[.int .i64 r1, errW E r2]) ∧ Below w.heap.size w w' := by
  have hu26 := Tryd.underlying26
  have HB := Aside0.mk (Below.refl w.heap.size w)
  unfold cells_Cut.f at h
  obtain ⟨⟨all, e2⟩, hA, h⟩ := Option.bind_eq_some_iff.mp h
  have hmf : ∀ (fn : Fn) (first cap : Array Value) (w : World), (Instr.makeFunc fn first cap).run Tryd.prog w = .ok (.func fn first cap) w := fun _ _ _ _ => rfl
  have HR0 := Aside0.mk hr0
  have HG := Aside0.mk hG
  have HC0 := Aside0.mk hc0
  have HA := Aside0.mk hA
  clear hr0 hG hc0 hA
  rcases e2 with _ | q
  · simp only [Option.isNone_none, ↓reduceIte] at h
    obtain ⟨n, hN, h⟩ := Option.bind_eq_some_iff.mp h
    simp only [Option.some.injEq, Prod.mk.injEq] at h
    obtain ⟨rfl, rfl⟩ := h
    have HN := Aside0.mk hN
    clear hN
    go_enter Tryd.func21, Tryd.ntmps21
    go_wp2_with (first | (go_at_call 32; refine (cells_check.calls k E _ _ l0 2 all none _ HG.out HR0.out HC0.out HA.out).mono ?_; rintro e w1 ⟨rfl, hd⟩; have HD := Aside0.mk hd; clear hd; simp only [errW_none]) | (go_at_call 33; refine (cells_Cut.near all w1.heap.size k _ c0 l0 _ n _ ?hv ?hr HN.out).mono ?_; (case hv => exact cell_new_ _ _ _); (case hr => exact Kd.C_below HR0.out (below_alloc HD.out.below _)); rintro e w2 ⟨rfl, rfl⟩))
    go_ret2
    exact ⟨rfl, below_alloc HD.out.below _⟩
  · simp only [Option.isNone_some, Bool.false_eq_true, ↓reduceIte] at h
    simp only [Option.some.injEq, Prod.mk.injEq] at h
    obtain ⟨rfl, rfl⟩ := h
    go_enter Tryd.func21, Tryd.ntmps21
    go_wp2_with (first | (go_at_call 32; refine (cells_check.calls k E _ _ l0 2 all (some q) _ HG.out HR0.out HC0.out HA.out).mono ?_; rintro e w1 ⟨rfl, hd⟩; have HD := Aside0.mk hd; clear hd; simp only [errW_some]))
    go_ret2
    exact ⟨rfl, below_alloc HD.out.below _⟩

/-! ### cells_Pivot: function 22 -/
theorem cells_Pivot.clo (all ah ow : Int) (b : Nat) (w : World) (hv : w.cell? ⟨b, 0, none⟩ = some (.int .i64 all)) :
    Calls Tryd.prog 35 #[.int .i64 ah, .int .i64 ow, .pointer (some ⟨b, 0, none⟩)] w fun e w' => e = .returned (.int .i64 (wrap64 (wrap64 (wrap64 (2 * ah) + ow) - all))) ∧ w' = w := by
  go_enter Tryd.func35, Tryd.ntmps35
  go_wp2
  go_ret
  exact ⟨by simp, rfl⟩
set_option maxHeartbeats 8000000 in
set_option maxRecDepth 100000 in
theorem cells_Pivot.near (all : Int) (b : Nat) (k : Nat) (A0 : Option Addr) (c0 : Nat) (l0 : List Int) (a1 : Int) (r : Int) (w : World) (hv : w.cell? ⟨b, 0, none⟩ = some (.int .i64 all)) (hr0 : Kd.C (Kd.int .i64) w A0 l0.length l0)
    (h : cells_nearest.f (fun ah ow => wrap64 (wrap64 (wrap64 (2 * ah) + ow) - all)) k l0 a1 = some r) :
    Calls Tryd.prog 33 #[.slice A0 l0.length c0, .int .i64 a1, .func (.func 35) #[] #[.pointer (some ⟨b, 0, none⟩)]] w fun e w' => e = .returned (.int .i64 r) ∧ w' = w := by
  have HR0 := Aside0.mk hr0
  have HV := Aside0.mk hv
  clear hr0 hv
  unfold cells_nearest.f at h
  by_cases c1 : 0 < (l0.length : Int)
  · rw [if_pos c1] at h
    have H' := Aside0.mk h
    clear h
    obtain ⟨ad, e, hx⟩ := Kd.at_int HR0.out 0 (by omega) c1
    cases e
    rw [show ad.add (Int.toNat 0) = ad from by unfold Addr.add; simp] at hx
    have c1b : decide (0 < (l0.length : Int)) = true := decide_eq_true c1
    go_enter Tryd.func33, Tryd.ntmps33
    go_wp2
    go_loopg [7, 8, 9, 10] k (fun kq v7 v8 v9 v10 w' => ∃ (x7 x8 x9 x10 : Int), v7 = .int .i64 x7 ∧ v8 = .int .i64 x8 ∧ v9 = .int .i64 x9 ∧ v10 = .int .i64 x10 ∧ Aside0 (cells_nearest.l (fun ah ow => wrap64 (wrap64 (wrap64 (2 * ah) + ow) - all)) kq l0 a1 x7 x8 x9 x10 = some r) ∧ w' = w)
    case atStart => exact ⟨_, _, _, _, rfl, rfl, rfl, rfl, H', rfl⟩
    case round =>
      clear H'
      obtain ⟨x7, x8, x9, x10, rfl, rfl, rfl, rfl, HA, rfl⟩ := hrel
      cases gk with
      | zero => exact absurd HA.out (by simp [cells_nearest.l])
      | succ k1 =>
        have H := HA.out
        clear HA
        simp only [cells_nearest.l] at H
        by_cases c2 : x10 ≤ a1
        · rw [if_pos c2] at H
          have c2b : decide (x10 ≤ a1) = true := decide_eq_true c2
          by_cases c3 : 0 ≤ x10 ∧ x10 < (l0.length : Int)
          · rw [if_pos c3] at H
            obtain ⟨c3, c4⟩ := c3
            have c3b : decide (0 ≤ x10) = true := decide_eq_true c3
            have c4b : decide (x10 < (l0.length : Int)) = true := decide_eq_true c4
            obtain ⟨ad2, e2, hx2⟩ := Kd.at_int HR0.out x10 c3 c4
            cases e2
            have hv := HV.out
            obtain ⟨gv, hgv⟩ : ∃ gv, wrap64 (wrap64 (wrap64 (2 * x9) + rd l0 x10) - all) = gv := ⟨_, rfl⟩
            rw [hgv] at H
            by_cases c5 : gv < 0
            · have c5b : decide (gv < 0) = true := decide_eq_true c5
              rw [show cells_nearest.abs gv = wrap64 (-gv) from if_pos c5] at H
              by_cases c6 : x7 = 0
              · have c6b : (x7 == 0) = true := beq_iff_eq.mpr c6
                rw [if_pos (.inl c6)] at H
                have H' := Aside0.mk H
                clear H
                go_wp2_with (first | (go_at_call 35; refine (cells_Pivot.clo all _ _ b _ hv).mono ?_; rintro e w1 ⟨rfl, rfl⟩))
                go_roundg k1
                case measure => omega
                case rel => exact ⟨_, _, _, _, rfl, rfl, rfl, rfl, H', rfl⟩
              · have c6b : (x7 == 0) = false := beq_eq_false_iff_ne.mpr c6
                by_cases c7 : wrap64 (-gv) < x8
                · have c7b : decide (wrap64 (-gv) < x8) = true := decide_eq_true c7
                  rw [if_pos (.inr c7)] at H
                  have H' := Aside0.mk H
                  clear H
                  go_wp2_with (first | (go_at_call 35; refine (cells_Pivot.clo all _ _ b _ hv).mono ?_; rintro e w1 ⟨rfl, rfl⟩))
                  go_roundg k1
                  case measure => omega
                  case rel => exact ⟨_, _, _, _, rfl, rfl, rfl, rfl, H', rfl⟩
                · have c7b : decide (wrap64 (-gv) < x8) = false := decide_eq_false c7
                  rw [if_neg (fun h => h.elim c6 c7)] at H
                  have H' := Aside0.mk H
                  clear H
                  go_wp2_with (first | (go_at_call 35; refine (cells_Pivot.clo all _ _ b _ hv).mono ?_; rintro e w1 ⟨rfl, rfl⟩))
                  go_roundg k1
                  case measure => omega
                  case rel => exact ⟨_, _, _, _, rfl, rfl, rfl, rfl, H', rfl⟩
            · have c5b : decide (gv < 0) = false := decide_eq_false c5
              rw [show cells_nearest.abs gv = gv from if_neg c5] at H
              by_cases c6 : x7 = 0
              · have c6b : (x7 == 0) = true := beq_iff_eq.mpr c6
                rw [if_pos (.inl c6)] at H
                have H' := Aside0.mk H
                clear H
                go_wp2_with (first | (go_at_call 35; refine (cells_Pivot.clo all _ _ b _ hv).mono ?_; rintro e w1 ⟨rfl, rfl⟩))
                go_roundg k1
                case measure => omega
                case rel => exact ⟨_, _, _, _, rfl, rfl, rfl, rfl, H', rfl⟩
              · have c6b : (x7 == 0) = false := beq_eq_false_iff_ne.mpr c6
                by_cases c7 : gv < x8
                · have c7b : decide (gv < x8) = true := decide_eq_true c7
                  rw [if_pos (.inr c7)] at H
                  have H' := Aside0.mk H
                  clear H
                  go_wp2_with (first | (go_at_call 35; refine (cells_Pivot.clo all _ _ b _ hv).mono ?_; rintro e w1 ⟨rfl, rfl⟩))
                  go_roundg k1
                  case measure => omega
                  case rel => exact ⟨_, _, _, _, rfl, rfl, rfl, rfl, H', rfl⟩
                · have c7b : decide (gv < x8) = false := decide_eq_false c7
                  rw [if_neg (fun h => h.elim c6 c7)] at H
                  have H' := Aside0.mk H
                  clear H
                  go_wp2_with (first | (go_at_call 35; refine (cells_Pivot.clo all _ _ b _ hv).mono ?_; rintro e w1 ⟨rfl, rfl⟩))
                  go_roundg k1
                  case measure => omega
                  case rel => exact ⟨_, _, _, _, rfl, rfl, rfl, rfl, H', rfl⟩
          · rw [if_neg c3] at H
            exact absurd H (by simp)
        · rw [if_neg c2] at H
          have c2b : decide (x10 ≤ a1) = false := decide_eq_false c2
          obtain rfl := Option.some.inj H
          go_wp2
          go_ret
          exact ⟨rfl, rfl⟩
  · rw [if_neg c1] at h
    exact absurd h (by simp)
def cells_Pivot.f (k : Nat) (l0 : List Int) : Option (Int × Option Int) := (cells_check.f k l0 3).bind fun t => if t.2.isNone = true then (cells_nearest.f (fun ah ow => wrap64 (wrap64 (wrap64 (2 * ah) + ow) - t.1)) k l0 (wrap64 ((l0.length : Int) - 2))).bind fun n => some (n, none) else some (0, t.2)
theorem cells_Pivot.mono : ∀ a0 k, LeO (cells_Pivot.f k a0) (cells_Pivot.f (k + 1) a0) := by
  intro a0 k
  unfold cells_Pivot.f
  exact LeO.bind (cells_check.mono _ _ _) (fun _ => LeO.ite (LeO.bind (cells_nearest.mono _ _ _ _) (fun _ => LeO.refl _)) (LeO.refl _))
set_option maxHeartbeats 8000000 in
set_option maxRecDepth 100000 in
theorem cells_Pivot.calls (k : Nat) (E : Int → Addr) (A0 : Option Addr) (c0 : Nat) (l0 : List Int) (r1 : Int) (r2 : Option Int) (w : World) (hG : Glob E w) (hr0 : Kd.C (Kd.int .i64) w A0 l0.length l0) (hc0 : l0.length ≤ c0) (h : cells_Pivot.f k l0 = some (r1, r2)) :
    Calls Tryd.prog 22 #[.slice A0 l0.length c0] w fun e w' => e = .returned (.tuple #[.int .i64 r1, errW E r2]) ∧ Below w.heap.size w w' := by
  have hu26 := Tryd.underlying26
  have HB := Aside0.mk (Below.refl w.heap.size w)
  unfold cells_Pivot.f at h
  obtain ⟨⟨all, e2⟩, hA, h⟩ := Option.bind_eq_some_iff.mp h
  have hmf : ∀ (fn : Fn) (first cap : Array Value) (w : World), (Instr.makeFunc fn first cap).run Tryd.prog w = .ok (.func fn first cap) w := fun _ _ _ _ => rfl
  have HR0 := Aside0.mk hr0
  have HG := Aside0.mk hG
  have HC0 := Aside0.mk hc0
  have HA := Aside0.mk hA
  clear hr0 hG hc0 hA
  rcases e2 with _ | q
  · simp only [Option.isNone_none, ↓reduceIte] at h
    obtain ⟨n, hN, h⟩ := Option.bind_eq_some_iff.mp h
    simp only [Option.some.injEq, Prod.mk.injEq] at h
    obtain ⟨rfl, rfl⟩ := h
    have HN := Aside0.mk hN
    clear hN
    go_enter Tryd.func22, Tryd.ntmps22
    go_wp2_with (first | (go_at_call 32; refine (cells_check.calls k E _ _ l0 3 all none _ HG.out HR0.out HC0.out HA.out).mono ?_; rintro e w1 ⟨rfl, hd⟩; have HD := Aside0.mk hd; clear hd; simp only [errW_none]) | (go_at_call 33; refine (cells_Pivot.near all w1.heap.size k _ c0 l0 _ n _ ?hv ?hr HN.out).mono ?_; (case hv => exact cell_new_ _ _ _); (case hr => exact Kd.C_below HR0.out (below_alloc HD.out.below _)); rintro e w2 ⟨rfl, rfl⟩))
    go_ret2
    exact ⟨rfl, below_alloc HD.out.below _⟩
  · simp only [Option.isNone_some, Bool.false_eq_true, ↓reduceIte] at h
    simp only [Option.some.injEq, Prod.mk.injEq] at h
    obtain ⟨rfl, rfl⟩ := h
    go_enter Tryd.func22, Tryd.ntmps22
    go_wp2_with (first | (go_at_call 32; refine (cells_check.calls k E _ _ l0 3 all (some q) _ HG.out HR0.out HC0.out HA.out).mono ?_; rintro e w1 ⟨rfl, hd⟩; have HD := Aside0.mk hd; clear hd; simp only [errW_some]))
    go_ret2
    exact ⟨rfl, below_alloc HD.out.below _⟩

/-! ### copseref6_fine: function 36 -/
def copseref6_fine.l0 : Nat → List Int → Int → Option (Bool)
  | 0, _, _ => none
  | k + 1, x0, x3 => if x3 < (x0.length : Int) then (if 0 ≤ x3 then (if (rd x0 x3) < 1 then (some false) else (if (rd x0 x3) > 4072 then (some false) else (copseref6_fine.l0 k x0 (wrap64 (x3 + 1))))) else (none)) else (some true)
def copseref6_fine.f (k : Nat) (l0 : List Int) : Option (Bool) := copseref6_fine.l0 k l0 0
theorem copseref6_fine.mono_l : ∀ k, (∀ y0 y1, LeO (copseref6_fine.l0 k y0 y1) (copseref6_fine.l0 (k + 1) y0 y1))
  | 0 => fun _ _ r h => by simp [copseref6_fine.l0] at h
  | k + 1 => by
    have ih0 := copseref6_fine.mono_l k
    · intro y0 y1
      unfold copseref6_fine.l0
      repeat' first
      | (with_reducible exact ih0 _ _)
      | (with_reducible exact LeO.refl _)
      | (with_reducible exact LeO.none _)
      | (with_reducible refine LeO.ite ?_ ?_)
      | (with_reducible refine LeO.bind ?_ (fun _ => ?_))
      | exact ih0 _ _
      | exact LeO.none _
      | refine LeO.ite ?_ ?_
      | refine LeO.bind ?_ (fun _ => ?_)
theorem copseref6_fine.mono : ∀ a0 k, LeO (copseref6_fine.f k a0) (copseref6_fine.f (k + 1) a0) := by
  intro a0 k
  have ih0 := copseref6_fine.mono_l k
  unfold copseref6_fine.f
  repeat' first
      | (with_reducible exact ih0 _ _)
      | (with_reducible exact LeO.refl _)
      | (with_reducible exact LeO.none _)
      | (with_reducible refine LeO.ite ?_ ?_)
      | (with_reducible refine LeO.bind ?_ (fun _ => ?_))
      | exact ih0 _ _
      | exact LeO.none _
      | refine LeO.ite ?_ ?_
      | refine LeO.bind ?_ (fun _ => ?_)
set_option maxHeartbeats 8000000 in
set_option maxRecDepth 100000 in
theorem copseref6_fine.calls (k : Nat) (A0 : Option Addr) (c0 : Nat) (l0 : List Int) (r : Bool) (w : World) (hr0 : Kd.C (Kd.int .i64) w A0 l0.length l0) (hc0 : l0.length ≤ c0) (h : copseref6_fine.f k l0 = some r) :
    Calls Tryd.prog 36 #[.slice A0 l0.length c0] w fun e w' => e = .returned (.bool r) ∧ Drawn0 w w' := by
  have HR0 := Aside0.mk hr0
  have HC0 := Aside0.mk hc0
  clear hr0 hc0
  have H : (copseref6_fine.l0 k l0 0) = some r := h
  clear h
  have H' := Aside0.mk H
  clear H
  go_enter Tryd.func36, Tryd.ntmps36
  go_wp2
  go_loopg [3] k (fun kq v3 w' => ∃ (x3_1 : Int), v3 = .int .i64 x3_1 ∧ Aside0 (copseref6_fine.l0 kq l0 x3_1 = some r) ∧ Aside0 (kq ≤ k) ∧ Drawn0 w w')
  case atStart => exact ⟨(0), (by first | rfl | (simp; done) | (simp [*]; done)), H', ⟨Nat.le_refl _⟩, by repeat (first | exact Drawn0.refl _ | apply Drawn0.step)⟩
  case round =>
    clear H'
    obtain ⟨x3_1, rfl, HA, HK1, ⟨m1, rfl⟩⟩ := hrel
    cases gk with
    | zero => exact absurd HA.out (by simp [copseref6_fine.l0])
    | succ k1 =>
      have H := HA.out
      clear HA
      simp only [copseref6_fine.l0] at H
      by_cases c2 : x3_1 < (l0.length : Int)
      · rw [if_pos c2] at H
        have c2b0 : decide (x3_1 < (l0.length : Int)) = true := decide_eq_true c2
        clear c2
        by_cases c3 : 0 ≤ x3_1
        · rw [if_pos c3] at H
          have c3b0 : decide (0 ≤ x3_1) = true := decide_eq_true c3
          clear c3
          by_cases c4 : (rd l0 x3_1) < 1
          · rw [if_pos c4] at H
            have c4b0 : decide ((rd l0 x3_1) < 1) = true := decide_eq_true c4
            clear c4
            obtain rfl := Option.some.inj H
            have p105 : 0 ≤ (x3_1 : Int) := of_decide_eq_true (by first | (with_reducible assumption) | assumption)
            have q105 : x3_1 < (l0.length : Int) := of_decide_eq_true (by first | (with_reducible assumption) | assumption)
            obtain ⟨ad105, e105, hx105_0⟩ := Kd.at_int HR0.out x3_1 p105 q105
            cases e105
            replace p105 := eq_true p105
            replace q105 := eq_true q105
            go_wp2
            go_ret
            exact ⟨by first | rfl | (simp; done) | (simp [*]; done), by repeat (first | exact Drawn0.refl _ | apply Drawn0.step)⟩
          · rw [if_neg c4] at H
            have c4b0 : decide ((rd l0 x3_1) < 1) = false := decide_eq_false c4
            clear c4
            by_cases c5 : (rd l0 x3_1) > 4072
            · rw [if_pos c5] at H
              have c5b0 : decide (4072 < (rd l0 x3_1)) = true := decide_eq_true c5
              clear c5
              obtain rfl := Option.some.inj H
              have p105 : 0 ≤ (x3_1 : Int) := of_decide_eq_true (by first | (with_reducible assumption) | assumption)
              have q105 : x3_1 < (l0.length : Int) := of_decide_eq_true (by first | (with_reducible assumption) | assumption)
              obtain ⟨ad105, e105, hx105_0⟩ := Kd.at_int HR0.out x3_1 p105 q105
              cases e105
              replace p105 := eq_true p105
              replace q105 := eq_true q105
              have p106 : 0 ≤ (x3_1 : Int) := of_decide_eq_true (by first | (with_reducible assumption) | assumption)
              have q106 : x3_1 < (l0.length : Int) := of_decide_eq_true (by first | (with_reducible assumption) | assumption)
              obtain ⟨ad106, e106, hx106_0⟩ := Kd.at_int HR0.out x3_1 p106 q106
              obtain rfl : ad105 = ad106 := (by injection e106)
              replace p106 := eq_true p106
              replace q106 := eq_true q106
              go_wp2
              go_ret
              exact ⟨by first | rfl | (simp; done) | (simp [*]; done), by repeat (first | exact Drawn0.refl _ | apply Drawn0.step)⟩
            · rw [if_neg c5] at H
              have c5b0 : decide (4072 < (rd l0 x3_1)) = false := decide_eq_false c5
              clear c5
              have H' := Aside0.mk H
              clear H
              have p105 : 0 ≤ (x3_1 : Int) := of_decide_eq_true (by first | (with_reducible assumption) | assumption)
              have q105 : x3_1 < (l0.length : Int) := of_decide_eq_true (by first | (with_reducible assumption) | assumption)
              obtain ⟨ad105, e105, hx105_0⟩ := Kd.at_int HR0.out x3_1 p105 q105
              cases e105
              replace p105 := eq_true p105
              replace q105 := eq_true q105
              have p106 : 0 ≤ (x3_1 : Int) := of_decide_eq_true (by first | (with_reducible assumption) | assumption)
              have q106 : x3_1 < (l0.length : Int) := of_decide_eq_true (by first | (with_reducible assumption) | assumption)
              obtain ⟨ad106, e106, hx106_0⟩ := Kd.at_int HR0.out x3_1 p106 q106
              obtain rfl : ad105 = ad106 := (by injection e106)
              replace p106 := eq_true p106
              replace q106 := eq_true q106
              go_wp2
              go_roundg k1
              case measure => have := HK1.out; omega
              case rel => exact ⟨(wrap64 (x3_1 + 1)), (by first | rfl | (simp; done) | (simp [*]; done)), H', ⟨by have := HK1.out; omega⟩, by repeat (first | exact Drawn0.refl _ | apply Drawn0.step)⟩
        · rw [if_neg c3] at H
          exact absurd H (by simp)
      · rw [if_neg c2] at H
        have c2b0 : decide (x3_1 < (l0.length : Int)) = false := decide_eq_false c2
        clear c2
        obtain rfl := Option.some.inj H
        go_wp2
        go_ret
        exact ⟨by first | rfl | (simp; done) | (simp [*]; done), by repeat (first | exact Drawn0.refl _ | apply Drawn0.step)⟩

/-! ### copseref6_sum: function 38 -/
def copseref6_sum.l0 : Nat → List Int → Int → Int → Int → Option (Int)
  | 0, _, _, _, _ => none
  | k + 1, x0, x2, x7, x8 => if x8 < x2 then (if 0 ≤ x8 then (if x8 < (x0.length : Int) then (copseref6_sum.l0 k x0 x2 (wrap64 (x7 + (rd x0 x8))) (wrap64 (x8 + 1))) else (none)) else (none)) else (some x7)
def copseref6_sum.f (k : Nat) (l0 : List Int) (a1 : Int) (a2 : Int) : Option (Int) := copseref6_sum.l0 k l0 a2 0 a1
theorem copseref6_sum.mono_l : ∀ k, (∀ y0 y1 y2 y3, LeO (copseref6_sum.l0 k y0 y1 y2 y3) (copseref6_sum.l0 (k + 1) y0 y1 y2 y3))
  | 0 => fun _ _ _ _ r h => by simp [copseref6_sum.l0] at h
  | k + 1 => by
    have ih0 := copseref6_sum.mono_l k
    · intro y0 y1 y2 y3
      unfold copseref6_sum.l0
      repeat' first
      | (with_reducible exact ih0 _ _ _ _)
      | (with_reducible exact LeO.refl _)
      | (with_reducible exact LeO.none _)
      | (with_reducible refine LeO.ite ?_ ?_)
      | (with_reducible refine LeO.bind ?_ (fun _ => ?_))
      | exact ih0 _ _ _ _
      | exact LeO.none _
      | refine LeO.ite ?_ ?_
      | refine LeO.bind ?_ (fun _ => ?_)
theorem copseref6_sum.mono : ∀ a0 a1 a2 k, LeO (copseref6_sum.f k a0 a1 a2) (copseref6_sum.f (k + 1) a0 a1 a2) := by
  intro a0 a1 a2 k
  have ih0 := copseref6_sum.mono_l k
  unfold copseref6_sum.f
  repeat' first
      | (with_reducible exact ih0 _ _ _ _)
      | (with_reducible exact LeO.refl _)
      | (with_reducible exact LeO.none _)
      | (with_reducible refine LeO.ite ?_ ?_)
      | (with_reducible refine LeO.bind ?_ (fun _ => ?_))
      | exact ih0 _ _ _ _
      | exact LeO.none _
      | refine LeO.ite ?_ ?_
      | refine LeO.bind ?_ (fun _ => ?_)
set_option maxHeartbeats 8000000 in
set_option maxRecDepth 100000 in
theorem copseref6_sum.calls (k : Nat) (A0 : Option Addr) (c0 : Nat) (l0 : List Int) (a1 : Int) (a2 : Int) (r : Int) (w : World) (hr0 : Kd.C (Kd.int .i64) w A0 l0.length l0) (hc0 : l0.length ≤ c0) (h : copseref6_sum.f k l0 a1 a2 = some r) :
    Calls Tryd.prog 38 #[.slice A0 l0.length c0, .int .i64 a1, .int .i64 a2] w fun e w' => e = .returned (.int .i64 r) ∧ Drawn0 w w' := by
  have HR0 := Aside0.mk hr0
  have HC0 := Aside0.mk hc0
  clear hr0 hc0
  have H : (copseref6_sum.l0 k l0 a2 0 a1) = some r := h
  clear h
  have H' := Aside0.mk H
  clear H
  go_enter Tryd.func38, Tryd.ntmps38
  go_wp2
  go_loopg [7, 8] k (fun kq v7 v8 w' => ∃ (x7_1 : Int) (x8_1 : Int), v7 = .int .i64 x7_1 ∧ v8 = .int .i64 x8_1 ∧ Aside0 (copseref6_sum.l0 kq l0 a2 x7_1 x8_1 = some r) ∧ Aside0 (kq ≤ k) ∧ Drawn0 w w')
  case atStart => exact ⟨(0), (a1), (by first | rfl | (simp; done) | (simp [*]; done)), (by first | rfl | (simp; done) | (simp [*]; done)), H', ⟨Nat.le_refl _⟩, by repeat (first | exact Drawn0.refl _ | apply Drawn0.step)⟩
  case round =>
    clear H'
    try clear p2
    try clear c3
    obtain ⟨x7_1, x8_1, rfl, rfl, HA, HK1, ⟨m1, rfl⟩⟩ := hrel
    cases gk with
    | zero => exact absurd HA.out (by simp [copseref6_sum.l0])
    | succ k1 =>
      have H := HA.out
      clear HA
      simp only [copseref6_sum.l0] at H
      by_cases c4 : x8_1 < a2
      · rw [if_pos c4] at H
        have c4b0 : decide (x8_1 < a2) = true := decide_eq_true c4
        clear c4
        by_cases c5 : 0 ≤ x8_1
        · rw [if_pos c5] at H
          have c5b0 : decide (0 ≤ x8_1) = true := decide_eq_true c5
          clear c5
          by_cases c6 : x8_1 < (l0.length : Int)
          · rw [if_pos c6] at H
            have c6b0 : decide (x8_1 < (l0.length : Int)) = true := decide_eq_true c6
            clear c6
            have H' := Aside0.mk H
            clear H
            have p107 : 0 ≤ (x8_1 : Int) := of_decide_eq_true (by first | (with_reducible assumption) | assumption)
            have q107 : x8_1 < (l0.length : Int) := of_decide_eq_true (by first | (with_reducible assumption) | assumption)
            obtain ⟨ad107, e107, hx107_0⟩ := Kd.at_int HR0.out x8_1 p107 q107
            cases e107
            replace p107 := eq_true p107
            replace q107 := eq_true q107
            go_wp2
            go_roundg k1
            case measure => have := HK1.out; omega
            case rel => exact ⟨(wrap64 (x7_1 + (rd l0 x8_1))), (wrap64 (x8_1 + 1)), (by first | rfl | (simp; done) | (simp [*]; done)), (by first | rfl | (simp; done) | (simp [*]; done)), H', ⟨by have := HK1.out; omega⟩, by repeat (first | exact Drawn0.refl _ | apply Drawn0.step)⟩
          · rw [if_neg c6] at H
            exact absurd H (by simp)
        · rw [if_neg c5] at H
          exact absurd H (by simp)
      · rw [if_neg c4] at H
        have c4b0 : decide (x8_1 < a2) = false := decide_eq_false c4
        clear c4
        obtain rfl := Option.some.inj H
        go_wp2
        go_ret
        exact ⟨by first | rfl | (simp; done) | (simp [*]; done), by repeat (first | exact Drawn0.refl _ | apply Drawn0.step)⟩

/-! ### copseref6_apart: function 39 -/
def copseref6_apart.f (a0 : Int) (a1 : Int) : Option (Int) := if a0 < a1 then (some (wrap64 (a1 - a0))) else (some (wrap64 (a0 - a1)))
set_option maxHeartbeats 8000000 in
set_option maxRecDepth 100000 in
theorem copseref6_apart.calls (a0 : Int) (a1 : Int) (r : Int) (w : World) (h : copseref6_apart.f a0 a1 = some r) :
    Calls Tryd.prog 39 #[.int .i64 a0, .int .i64 a1] w fun e w' => e = .returned (.int .i64 r) ∧ Drawn0 w w' := by
  have H : (if a0 < a1 then (some (wrap64 (a1 - a0))) else (some (wrap64 (a0 - a1)))) = some r := h
  clear h
  by_cases c3 : a0 < a1
  · rw [if_pos c3] at H
    have c3b0 : decide (a0 < a1) = true := decide_eq_true c3
    clear c3
    obtain rfl := Option.some.inj H
    go_enter Tryd.func39, Tryd.ntmps39
    go_wp2
    go_ret
    exact ⟨by first | rfl | (simp; done) | (simp [*]; done), by repeat (first | exact Drawn0.refl _ | apply Drawn0.step)⟩
  · rw [if_neg c3] at H
    have c3b0 : decide (a0 < a1) = false := decide_eq_false c3
    clear c3
    obtain rfl := Option.some.inj H
    go_enter Tryd.func39, Tryd.ntmps39
    go_wp2
    go_ret
    exact ⟨by first | rfl | (simp; done) | (simp [*]; done), by repeat (first | exact Drawn0.refl _ | apply Drawn0.step)⟩

/-! ### copseref6_nearest: function 37 -/
def copseref6_nearest.l0 : Nat → List Int → Int → Int → Int → Int → Int → Int → Int → Option (Int)
  | 0, _, _, _, _, _, _, _, _ => none
  | k + 1, x0, x1, x2, x7, x8, x9, x10, x11 => if x11 ≤ x1 then (if 0 ≤ (wrap64 (x11 - 1)) then (if (wrap64 (x11 - 1)) < (x0.length : Int) then (if 0 ≤ (wrap64 ((wrap64 (x11 - 1)) + x2)) then (if (wrap64 ((wrap64 (x11 - 1)) + x2)) < (x0.length : Int) then ((copseref6_apart.f (wrap64 (x8 + (rd x0 (wrap64 (x11 - 1))))) (wrap64 (x9 - (rd x0 (wrap64 ((wrap64 (x11 - 1)) + x2)))))).bind fun t113 => (if t113 < x10 then (copseref6_nearest.l0 k x0 x1 x2 x11 (wrap64 (x8 + (rd x0 (wrap64 (x11 - 1))))) (wrap64 (x9 - (rd x0 (wrap64 ((wrap64 (x11 - 1)) + x2))))) t113 (wrap64 (x11 + 1))) else (copseref6_nearest.l0 k x0 x1 x2 x7 (wrap64 (x8 + (rd x0 (wrap64 (x11 - 1))))) (wrap64 (x9 - (rd x0 (wrap64 ((wrap64 (x11 - 1)) + x2))))) x10 (wrap64 (x11 + 1))))) else (none)) else (none)) else (none)) else (none)) else (some x7)
def copseref6_nearest.f (k : Nat) (l0 : List Int) (a1 : Int) (a2 : Int) : Option (Int) := (copseref6_sum.f k l0 0 1).bind fun t108 => ((copseref6_sum.f k l0 (wrap64 (1 + a2)) (l0.length : Int)).bind fun t109 => ((copseref6_apart.f t108 t109).bind fun t110 => (copseref6_nearest.l0 k l0 a1 a2 1 t108 t109 t110 2)))
theorem copseref6_nearest.mono_l : ∀ k, (∀ y0 y1 y2 y3 y4 y5 y6 y7, LeO (copseref6_nearest.l0 k y0 y1 y2 y3 y4 y5 y6 y7) (copseref6_nearest.l0 (k + 1) y0 y1 y2 y3 y4 y5 y6 y7))
  | 0 => fun _ _ _ _ _ _ _ _ r h => by simp [copseref6_nearest.l0] at h
  | k + 1 => by
    have ih0 := copseref6_nearest.mono_l k
    · intro y0 y1 y2 y3 y4 y5 y6 y7
      unfold copseref6_nearest.l0
      repeat' first
      | (with_reducible exact ih0 _ _ _ _ _ _ _ _)
      | (with_reducible exact copseref6_sum.mono _ _ _ _)
      | (with_reducible exact LeO.refl _)
      | (with_reducible exact LeO.none _)
      | (with_reducible refine LeO.ite ?_ ?_)
      | (with_reducible refine LeO.bind ?_ (fun _ => ?_))
      | exact ih0 _ _ _ _ _ _ _ _
      | exact copseref6_sum.mono _ _ _ _
      | exact LeO.none _
      | refine LeO.ite ?_ ?_
      | refine LeO.bind ?_ (fun _ => ?_)
theorem copseref6_nearest.mono : ∀ a0 a1 a2 k, LeO (copseref6_nearest.f k a0 a1 a2) (copseref6_nearest.f (k + 1) a0 a1 a2) := by
  intro a0 a1 a2 k
  have ih0 := copseref6_nearest.mono_l k
  unfold copseref6_nearest.f
  repeat' first
      | (with_reducible exact ih0 _ _ _ _ _ _ _ _)
      | (with_reducible exact copseref6_sum.mono _ _ _ _)
      | (with_reducible exact LeO.refl _)
      | (with_reducible exact LeO.none _)
      | (with_reducible refine LeO.ite ?_ ?_)
      | (with_reducible refine LeO.bind ?_ (fun _ => ?_))
      | exact ih0 _ _ _ _ _ _ _ _
      | exact copseref6_sum.mono _ _ _ _
      | exact LeO.none _
      | refine LeO.ite ?_ ?_
      | refine LeO.bind ?_ (fun _ => ?_)
set_option maxHeartbeats 8000000 in
set_option maxRecDepth 100000 in
theorem copseref6_nearest.calls (k : Nat) (A0 : Option Addr) (c0 : Nat) (l0 : List Int) (a1 : Int) (a2 : Int) (r : Int) (w : World) (hr0 : Kd.C (Kd.int .i64) w A0 l0.length l0) (hc0 : l0.length ≤ c0) (h : copseref6_nearest.f k l0 a1 a2 = some r) :
    Calls Tryd.prog 37 #[.slice A0 l0.length c0, .int .i64 a1, .int .i64 a2] w fun e w' => e = .returned (.int .i64 r) ∧ Drawn0 w w' := by
  have HR0 := Aside0.mk hr0
  have HC0 := Aside0.mk hc0
  clear hr0 hc0
  have H : ((copseref6_sum.f k l0 0 1).bind fun t108 => ((copseref6_sum.f k l0 (wrap64 (1 + a2)) (l0.length : Int)).bind fun t109 => ((copseref6_apart.f t108 t109).bind fun t110 => (copseref6_nearest.l0 k l0 a1 a2 1 t108 t109 t110 2)))) = some r := h
  clear h
  replace H := Option.bind_eq_some_iff.mp H
  obtain ⟨t108, A40, H⟩ := H
  replace H : ((copseref6_sum.f k l0 (wrap64 (1 + a2)) (l0.length : Int)).bind fun t109 => ((copseref6_apart.f t108 t109).bind fun t110 => (copseref6_nearest.l0 k l0 a1 a2 1 t108 t109 t110 2))) = some r := H
  have A4 := Aside0.mk A40
  clear A40
  replace H := Option.bind_eq_some_iff.mp H
  obtain ⟨t109, A50, H⟩ := H
  replace H : ((copseref6_apart.f t108 t109).bind fun t110 => (copseref6_nearest.l0 k l0 a1 a2 1 t108 t109 t110 2)) = some r := H
  have A5 := Aside0.mk A50
  clear A50
  replace H := Option.bind_eq_some_iff.mp H
  obtain ⟨t110, A60, H⟩ := H
  replace H : (copseref6_nearest.l0 k l0 a1 a2 1 t108 t109 t110 2) = some r := H
  have A6 := Aside0.mk A60
  clear A60
  have H' := Aside0.mk H
  clear H
  go_enter Tryd.func37, Tryd.ntmps37
  go_wp2_with (first | ((with_reducible refine gate_callee (f := 38) rfl ?_); refine goesL_ (some 14) rfl rfl Tryd.func38 (by kernel_rfl) rfl #[.slice A0 l0.length c0, .int .i64 0, .int .i64 1] rfl (by (try simp only [List.map_toArray, List.map_cons, List.map_nil]); first | done | rfl | (simp only [List.length_drop, List.length_take]; rfl)) ?_; (with_reducible refine (copseref6_sum.calls k _ _ l0 0 1 t108 _ ?side1 ?side2 A4.out).mono ?_); (case side1 => repeat (first | exact HR0.out | (with_reducible refine Kd.C_alloc ?_ _) | (with_reducible refine Kd.C_drewN ?_ _) | (with_reducible refine Kd.C_drew ?_))); (case side2 => exact HC0.out); rintro e w' ⟨rfl, ⟨nd, rfl⟩⟩; refine ⟨_, rfl, ?_⟩) | ((with_reducible refine gate_callee (f := 38) rfl ?_); refine goesL_ (some 20) rfl rfl Tryd.func38 (by kernel_rfl) rfl #[.slice A0 l0.length c0, .int .i64 (wrap64 (1 + a2)), .int .i64 (l0.length : Int)] rfl (by (try simp only [List.map_toArray, List.map_cons, List.map_nil]); first | done | rfl | (simp only [List.length_drop, List.length_take]; rfl)) ?_; (with_reducible refine (copseref6_sum.calls k _ _ l0 (wrap64 (1 + a2)) (l0.length : Int) t109 _ ?side1 ?side2 A5.out).mono ?_); (case side1 => repeat (first | exact HR0.out | (with_reducible refine Kd.C_alloc ?_ _) | (with_reducible refine Kd.C_drewN ?_ _) | (with_reducible refine Kd.C_drew ?_))); (case side2 => exact HC0.out); rintro e w' ⟨rfl, ⟨nd, rfl⟩⟩; refine ⟨_, rfl, ?_⟩) | ((with_reducible refine gate_callee (f := 39) rfl ?_); refine goesL_ (some 23) rfl rfl Tryd.func39 (by kernel_rfl) rfl #[.int .i64 t108, .int .i64 t109] rfl (by (try simp only [List.map_toArray, List.map_cons, List.map_nil]); first | done | rfl | (simp only [List.length_drop, List.length_take]; rfl)) ?_; (with_reducible refine (copseref6_apart.calls t108 t109 t110 _ A6.out).mono ?_); rintro e w' ⟨rfl, ⟨nd, rfl⟩⟩; refine ⟨_, rfl, ?_⟩))
  go_loopg [7, 8, 9, 10, 11] k (fun kq v7 v8 v9 v10 v11 w' => ∃ (x7_1 : Int) (x8_1 : Int) (x9_1 : Int) (x10_1 : Int) (x11_1 : Int), v7 = .int .i64 x7_1 ∧ v8 = .int .i64 x8_1 ∧ v9 = .int .i64 x9_1 ∧ v10 = .int .i64 x10_1 ∧ v11 = .int .i64 x11_1 ∧ Aside0 (copseref6_nearest.l0 kq l0 a1 a2 x7_1 x8_1 x9_1 x10_1 x11_1 = some r) ∧ Aside0 (kq ≤ k) ∧ Drawn0 w w')
  case atStart => exact ⟨(1), (t108), (t109), (t110), (2), (by first | rfl | (simp; done) | (simp [*]; done)), (by first | rfl | (simp; done) | (simp [*]; done)), (by first | rfl | (simp; done) | (simp [*]; done)), (by first | rfl | (simp; done) | (simp [*]; done)), (by first | rfl | (simp; done) | (simp [*]; done)), H', ⟨Nat.le_refl _⟩, by repeat (first | exact Drawn0.refl _ | apply Drawn0.step)⟩
  case round =>
    clear H'
    try clear p2
    try clear c3
    try clear p6
    obtain ⟨x7_1, x8_1, x9_1, x10_1, x11_1, rfl, rfl, rfl, rfl, rfl, HA, HK1, ⟨m1, rfl⟩⟩ := hrel
    cases gk with
    | zero => exact absurd HA.out (by simp [copseref6_nearest.l0])
    | succ k1 =>
      have H := HA.out
      clear HA
      simp only [copseref6_nearest.l0] at H
      by_cases c7 : x11_1 ≤ a1
      · rw [if_pos c7] at H
        have c7b0 : decide (x11_1 ≤ a1) = true := decide_eq_true c7
        clear c7
        obtain ⟨ji8, hji8⟩ : ∃ j_ : Int, (wrap64 (x11_1 - 1)) = j_ := ⟨_, rfl⟩
        replace H : (if 0 ≤ (ji8) then (if (ji8) < (l0.length : Int) then (if 0 ≤ (wrap64 ((ji8) + a2)) then (if (wrap64 ((ji8) + a2)) < (l0.length : Int) then ((copseref6_apart.f (wrap64 (x8_1 + (rd l0 (ji8)))) (wrap64 (x9_1 - (rd l0 (wrap64 ((ji8) + a2)))))).bind fun t113 => (if t113 < x10_1 then (copseref6_nearest.l0 k1 l0 a1 a2 x11_1 (wrap64 (x8_1 + (rd l0 (ji8)))) (wrap64 (x9_1 - (rd l0 (wrap64 ((ji8) + a2))))) t113 (wrap64 (x11_1 + 1))) else (copseref6_nearest.l0 k1 l0 a1 a2 x7_1 (wrap64 (x8_1 + (rd l0 (ji8)))) (wrap64 (x9_1 - (rd l0 (wrap64 ((ji8) + a2))))) x10_1 (wrap64 (x11_1 + 1))))) else (none)) else (none)) else (none)) else (none)) = some r := by first | (rw [hji8] at H; exact H) | (simp only [hji8] at H ⊢; exact H)
        have hji8w : (IntKind.i64.wrap (x11_1 - 1)) = ji8 := (i64_w _).trans hji8
        by_cases c9 : 0 ≤ (ji8)
        · rw [if_pos c9] at H
          have c9b0 : decide (0 ≤ (ji8)) = true := decide_eq_true c9
          clear c9
          by_cases c10 : (ji8) < (l0.length : Int)
          · rw [if_pos c10] at H
            have c10b0 : decide ((ji8) < (l0.length : Int)) = true := decide_eq_true c10
            clear c10
            obtain ⟨ji11, hji11⟩ : ∃ j_ : Int, (wrap64 ((ji8) + a2)) = j_ := ⟨_, rfl⟩
            replace H : (if 0 ≤ (ji11) then (if (ji11) < (l0.length : Int) then ((copseref6_apart.f (wrap64 (x8_1 + (rd l0 (ji8)))) (wrap64 (x9_1 - (rd l0 (ji11))))).bind fun t113 => (if t113 < x10_1 then (copseref6_nearest.l0 k1 l0 a1 a2 x11_1 (wrap64 (x8_1 + (rd l0 (ji8)))) (wrap64 (x9_1 - (rd l0 (ji11)))) t113 (wrap64 (x11_1 + 1))) else (copseref6_nearest.l0 k1 l0 a1 a2 x7_1 (wrap64 (x8_1 + (rd l0 (ji8)))) (wrap64 (x9_1 - (rd l0 (ji11)))) x10_1 (wrap64 (x11_1 + 1))))) else (none)) else (none)) = some r := by first | (rw [hji11] at H; exact H) | (simp only [hji11] at H ⊢; exact H)
            have hji11w : (IntKind.i64.wrap ((ji8) + a2)) = ji11 := (i64_w _).trans hji11
            by_cases c12 : 0 ≤ (ji11)
            · rw [if_pos c12] at H
              have c12b0 : decide (0 ≤ (ji11)) = true := decide_eq_true c12
              clear c12
              by_cases c13 : (ji11) < (l0.length : Int)
              · rw [if_pos c13] at H
                have c13b0 : decide ((ji11) < (l0.length : Int)) = true := decide_eq_true c13
                clear c13
                replace H := Option.bind_eq_some_iff.mp H
                obtain ⟨t113, A140, H⟩ := H
                replace H : (if t113 < x10_1 then (copseref6_nearest.l0 k1 l0 a1 a2 x11_1 (wrap64 (x8_1 + (rd l0 (ji8)))) (wrap64 (x9_1 - (rd l0 (ji11)))) t113 (wrap64 (x11_1 + 1))) else (copseref6_nearest.l0 k1 l0 a1 a2 x7_1 (wrap64 (x8_1 + (rd l0 (ji8)))) (wrap64 (x9_1 - (rd l0 (ji11)))) x10_1 (wrap64 (x11_1 + 1)))) = some r := H
                have A14 := Aside0.mk A140
                clear A140
                by_cases c15 : t113 < x10_1
                · rw [if_pos c15] at H
                  have c15b0 : decide (t113 < x10_1) = true := decide_eq_true c15
                  clear c15
                  have H' := Aside0.mk H
                  clear H
                  have p111 : 0 ≤ ((ji8) : Int) := of_decide_eq_true (by first | (with_reducible assumption) | assumption)
                  have q111 : (ji8) < (l0.length : Int) := of_decide_eq_true (by first | (with_reducible assumption) | assumption)
                  obtain ⟨ad111, e111, hx111_0⟩ := Kd.at_int HR0.out (ji8) p111 q111
                  cases e111
                  replace p111 := eq_true p111
                  replace q111 := eq_true q111
                  have p112 : 0 ≤ ((ji11) : Int) := of_decide_eq_true (by first | (with_reducible assumption) | assumption)
                  have q112 : (ji11) < (l0.length : Int) := of_decide_eq_true (by first | (with_reducible assumption) | assumption)
                  obtain ⟨ad112, e112, hx112_0⟩ := Kd.at_int HR0.out (ji11) p112 q112
                  obtain rfl : ad111 = ad112 := (by injection e112)
                  replace p112 := eq_true p112
                  replace q112 := eq_true q112
                  go_wp2_with (first | ((with_reducible refine gate_callee (f := 39) rfl ?_); refine goesL_ (some 47) rfl rfl Tryd.func39 (by kernel_rfl) rfl #[.int .i64 (wrap64 (x8_1 + (rd l0 (ji8)))), .int .i64 (wrap64 (x9_1 - (rd l0 (ji11))))] rfl (by (try simp only [List.map_toArray, List.map_cons, List.map_nil]); first | done | (simp only [hji11, hji8]; rfl) | rfl | (simp only [List.length_drop, List.length_take]; rfl)) ?_; (with_reducible refine (copseref6_apart.calls (wrap64 (x8_1 + (rd l0 (ji8)))) (wrap64 (x9_1 - (rd l0 (ji11)))) t113 _ A14.out).mono ?_); rintro e w' ⟨rfl, ⟨nd, rfl⟩⟩; refine ⟨_, rfl, ?_⟩))
                  go_roundg k1
                  case measure => have := HK1.out; omega
                  case rel => exact ⟨(x11_1), (wrap64 (x8_1 + (rd l0 (ji8)))), (wrap64 (x9_1 - (rd l0 (ji11)))), (t113), (wrap64 (x11_1 + 1)), (by first | rfl | (simp; done) | (simp [*]; done)), (by first | rfl | (simp; done) | (simp only [← hji8] <;> (first | rfl | simp)) | (simp [*]; done)), (by first | rfl | (simp; done) | (simp only [← hji11] <;> (first | rfl | simp)) | (simp [*]; done)), (by first | rfl | (simp; done) | (simp [*]; done)), (by first | rfl | (simp; done) | (simp [*]; done)), H', ⟨by have := HK1.out; omega⟩, by repeat (first | exact Drawn0.refl _ | apply Drawn0.step)⟩
                · rw [if_neg c15] at H
                  have c15b0 : decide (t113 < x10_1) = false := decide_eq_false c15
                  clear c15
                  have H' := Aside0.mk H
                  clear H
                  have p111 : 0 ≤ ((ji8) : Int) := of_decide_eq_true (by first | (with_reducible assumption) | assumption)
                  have q111 : (ji8) < (l0.length : Int) := of_decide_eq_true (by first | (with_reducible assumption) | assumption)
                  obtain ⟨ad111, e111, hx111_0⟩ := Kd.at_int HR0.out (ji8) p111 q111
                  cases e111
                  replace p111 := eq_true p111
                  replace q111 := eq_true q111
                  have p112 : 0 ≤ ((ji11) : Int) := of_decide_eq_true (by first | (with_reducible assumption) | assumption)
                  have q112 : (ji11) < (l0.length : Int) := of_decide_eq_true (by first | (with_reducible assumption) | assumption)
                  obtain ⟨ad112, e112, hx112_0⟩ := Kd.at_int HR0.out (ji11) p112 q112
                  obtain rfl : ad111 = ad112 := (by injection e112)
                  replace p112 := eq_true p112
                  replace q112 := eq_true q112
                  go_wp2_with (first | ((with_reducible refine gate_callee (f := 39) rfl ?_); refine goesL_ (some 47) rfl rfl Tryd.func39 (by kernel_rfl) rfl #[.int .i64 (wrap64 (x8_1 + (rd l0 (ji8)))), .int .i64 (wrap64 (x9_1 - (rd l0 (ji11))))] rfl (by (try simp only [List.map_toArray, List.map_cons, List.map_nil]); first | done | (simp only [hji11, hji8]; rfl) | rfl | (simp only [List.length_drop, List.length_take]; rfl)) ?_; (with_reducible refine (copseref6_apart.calls (wrap64 (x8_1 + (rd l0 (ji8)))) (wrap64 (x9_1 - (rd l0 (ji11)))) t113 _ A14.out).mono ?_); rintro e w' ⟨rfl, ⟨nd, rfl⟩⟩; refine ⟨_, rfl, ?_⟩))
                  go_roundg k1
                  case measure => have := HK1.out; omega
                  case rel => exact ⟨(x7_1), (wrap64 (x8_1 + (rd l0 (ji8)))), (wrap64 (x9_1 - (rd l0 (ji11)))), (x10_1), (wrap64 (x11_1 + 1)), (by first | rfl | (simp; done) | (simp [*]; done)), (by first | rfl | (simp; done) | (simp only [← hji8] <;> (first | rfl | simp)) | (simp [*]; done)), (by first | rfl | (simp; done) | (simp only [← hji11] <;> (first | rfl | simp)) | (simp [*]; done)), (by first | rfl | (simp; done) | (simp [*]; done)), (by first | rfl | (simp; done) | (simp [*]; done)), H', ⟨by have := HK1.out; omega⟩, by repeat (first | exact Drawn0.refl _ | apply Drawn0.step)⟩
              · rw [if_neg c13] at H
                exact absurd H (by simp)
            · rw [if_neg c12] at H
              exact absurd H (by simp)
          · rw [if_neg c10] at H
            exact absurd H (by simp)
        · rw [if_neg c9] at H
          exact absurd H (by simp)
      · rw [if_neg c7] at H
        have c7b0 : decide (x11_1 ≤ a1) = false := decide_eq_false c7
        clear c7
        obtain rfl := Option.some.inj H
        go_wp2
        go_ret
        exact ⟨by first | rfl | (simp; done) | (simp [*]; done), by repeat (first | exact Drawn0.refl _ | apply Drawn0.step)⟩

/-! ### copseref6_Cut: function 23 -/
def copseref6_Cut.f (k : Nat) (l0 : List Int) : Option (Int × Int) := if (l0.length : Int) < 2 then (some (0, 4)) else ((copseref6_fine.f k l0).bind fun t114 => (if t114 = true then ((copseref6_nearest.f k l0 (wrap64 ((l0.length : Int) - 1)) 0).bind fun t115 => (some (t115, 0))) else (some (0, 1))))
theorem copseref6_Cut.mono : ∀ a0 k, LeO (copseref6_Cut.f k a0) (copseref6_Cut.f (k + 1) a0) := by
  intro a0 k
  unfold copseref6_Cut.f
  repeat' first
      | (with_reducible exact copseref6_fine.mono _ _)
      | (with_reducible exact copseref6_nearest.mono _ _ _ _)
      | (with_reducible exact LeO.refl _)
      | (with_reducible exact LeO.none _)
      | (with_reducible refine LeO.ite ?_ ?_)
      | (with_reducible refine LeO.bind ?_ (fun _ => ?_))
      | exact copseref6_fine.mono _ _
      | exact copseref6_nearest.mono _ _ _ _
      | exact LeO.none _
      | refine LeO.ite ?_ ?_
      | refine LeO.bind ?_ (fun _ => ?_)
set_option maxHeartbeats 8000000 in
set_option maxRecDepth 100000 in
theorem copseref6_Cut.calls (k : Nat) (A0 : Option Addr) (c0 : Nat) (l0 : List Int) (r1 : Int) (r2 : Int) (w : World) (hr0 : Kd.C (Kd.int .i64) w A0 l0.length l0) (hc0 : l0.length ≤ c0) (h : copseref6_Cut.f k l0 = some (r1, r2)) :
    Calls Tryd.prog 23 #[.slice A0 l0.length c0] w fun e w' => e = .returned (.tuple #[.int .i64 r1, .int .i64 r2]) ∧ Drawn0 w w' := by
  have HR0 := Aside0.mk hr0
  have HC0 := Aside0.mk hc0
  clear hr0 hc0
  have H : (if (l0.length : Int) < 2 then (some (0, 4)) else ((copseref6_fine.f k l0).bind fun t114 => (if t114 = true then ((copseref6_nearest.f k l0 (wrap64 ((l0.length : Int) - 1)) 0).bind fun t115 => (some (t115, 0))) else (some (0, 1))))) = some (r1, r2) := h
  clear h
  by_cases c2 : (l0.length : Int) < 2
  · rw [if_pos c2] at H
    have c2b0 : decide ((l0.length : Int) < 2) = true := decide_eq_true c2
    have c2b1 : decide (l0.length < 2) = true := decide_eq_true (by omega)
    clear c2
    simp only [Option.some.injEq, Prod.mk.injEq] at H
    obtain ⟨rfl, rfl⟩ := H
    go_enter Tryd.func23, Tryd.ntmps23
    go_wp2
    go_ret2
    exact ⟨by first | rfl | (simp; done) | (simp [*]; done), by repeat (first | exact Drawn0.refl _ | apply Drawn0.step)⟩
  · rw [if_neg c2] at H
    have c2b0 : decide ((l0.length : Int) < 2) = false := decide_eq_false c2
    have c2b1 : decide (l0.length < 2) = false := decide_eq_false (by omega)
    clear c2
    replace H := Option.bind_eq_some_iff.mp H
    obtain ⟨t114, A30, H⟩ := H
    replace H : (if t114 = true then ((copseref6_nearest.f k l0 (wrap64 ((l0.length : Int) - 1)) 0).bind fun t115 => (some (t115, 0))) else (some (0, 1))) = some (r1, r2) := H
    have A3 := Aside0.mk A30
    clear A30
    by_cases c4 : t114 = true
    · subst c4
      have H1 : ((copseref6_nearest.f k l0 (wrap64 ((l0.length : Int) - 1)) 0).bind fun t115 => (some (t115, 0))) = some (r1, r2) := by rw [if_pos rfl] at H; exact H
      clear H
      have H := H1
      clear H1
      replace H := Option.bind_eq_some_iff.mp H
      obtain ⟨t115, A50, H⟩ := H
      replace H : (some (t115, 0)) = some (r1, r2) := H
      have A5 := Aside0.mk A50
      clear A50
      simp only [Option.some.injEq, Prod.mk.injEq] at H
      obtain ⟨rfl, rfl⟩ := H
      go_enter Tryd.func23, Tryd.ntmps23
      go_wp2_with (first | ((with_reducible refine gate_callee (f := 36) rfl ?_); refine goesL_ (some 9) rfl rfl Tryd.func36 (by kernel_rfl) rfl #[.slice A0 l0.length c0] rfl (by (try simp only [List.map_toArray, List.map_cons, List.map_nil]); first | done | rfl | (simp only [List.length_drop, List.length_take]; rfl)) ?_; (with_reducible refine (copseref6_fine.calls k _ _ l0 true _ ?side1 ?side2 A3.out).mono ?_); (case side1 => repeat (first | exact HR0.out | (with_reducible refine Kd.C_alloc ?_ _) | (with_reducible refine Kd.C_drewN ?_ _) | (with_reducible refine Kd.C_drew ?_))); (case side2 => exact HC0.out); rintro e w' ⟨rfl, ⟨nd, rfl⟩⟩; refine ⟨_, rfl, ?_⟩) | ((with_reducible refine gate_callee (f := 37) rfl ?_); refine goesL_ (some 16) rfl rfl Tryd.func37 (by kernel_rfl) rfl #[.slice A0 l0.length c0, .int .i64 (wrap64 ((l0.length : Int) - 1)), .int .i64 0] rfl (by (try simp only [List.map_toArray, List.map_cons, List.map_nil]); first | done | rfl | (simp only [List.length_drop, List.length_take]; rfl)) ?_; (with_reducible refine (copseref6_nearest.calls k _ _ l0 (wrap64 ((l0.length : Int) - 1)) 0 t115 _ ?side1 ?side2 A5.out).mono ?_); (case side1 => repeat (first | exact HR0.out | (with_reducible refine Kd.C_alloc ?_ _) | (with_reducible refine Kd.C_drewN ?_ _) | (with_reducible refine Kd.C_drew ?_))); (case side2 => exact HC0.out); rintro e w' ⟨rfl, ⟨nd, rfl⟩⟩; refine ⟨_, rfl, ?_⟩))
      go_ret2
      exact ⟨by first | rfl | (simp; done) | (simp [*]; done), by repeat (first | exact Drawn0.refl _ | apply Drawn0.step)⟩
    · replace c4 := Bool.eq_false_iff.mpr c4
      subst c4
      have H1 : (some (0, 1)) = some (r1, r2) := by rw [if_neg (show ¬ (false = true) by decide)] at H; exact H
      clear H
      have H := H1
      clear H1
      simp only [Option.some.injEq, Prod.mk.injEq] at H
      obtain ⟨rfl, rfl⟩ := H
      go_enter Tryd.func23, Tryd.ntmps23
      go_wp2_with (first | ((with_reducible refine gate_callee (f := 36) rfl ?_); refine goesL_ (some 9) rfl rfl Tryd.func36 (by kernel_rfl) rfl #[.slice A0 l0.length c0] rfl (by (try simp only [List.map_toArray, List.map_cons, List.map_nil]); first | done | rfl | (simp only [List.length_drop, List.length_take]; rfl)) ?_; (with_reducible refine (copseref6_fine.calls k _ _ l0 false _ ?side1 ?side2 A3.out).mono ?_); (case side1 => repeat (first | exact HR0.out | (with_reducible refine Kd.C_alloc ?_ _) | (with_reducible refine Kd.C_drewN ?_ _) | (with_reducible refine Kd.C_drew ?_))); (case side2 => exact HC0.out); rintro e w' ⟨rfl, ⟨nd, rfl⟩⟩; refine ⟨_, rfl, ?_⟩))
      go_ret2
      exact ⟨by first | rfl | (simp; done) | (simp [*]; done), by repeat (first | exact Drawn0.refl _ | apply Drawn0.step)⟩

end Go.Proofs.YtmjdkddpfcfepaaDoor.XCellsCuts
