/- The pure side of CellsCuts. -/
import Derived.Test.YtmjdkddpfcfepaaDoorXCellsCutsx
set_option linter.unusedVariables false
set_option linter.unusedSimpArgs false
namespace Go.Proofs.YtmjdkddpfcfepaaDoor.XCellsCuts
open Go.RowKit Go.Proofs.YtmjdkddpfcfepaaDoorW.PrintWords Go.Proofs.YtmjdkddpfcfepaaDoorW.PrintLast
theorem w64 {n : Int} (h0 : -9223372036854775808 ≤ n) (h1 : n < 9223372036854775808) : wrap64 n = n := by unfold wrap64; omega
theorem Ev.loop {α : Type} {σ : Nat → Nat → Option α} {r : α} {n : Nat} (h : ∀ i, i < n → ∀ k, σ i (k + 1) = σ (i + 1) k) (he : Ev (σ n) r) : ∀ i, i ≤ n → Ev (σ i) r := by
  have : ∀ d i, i + d = n → Ev (σ i) r := by
    intro d
    induction d with
    | zero => intro i hi; obtain rfl : i = n := by omega
              exact he
    | succ d ih => intro i hi; exact Ev.step (h i (by omega)) (ih (i + 1) (by omega))
  intro i hi
  exact this (n - i) i (by omega)
theorem Ev.loop' {α : Type} {σ : Nat → Nat → Option α} {r : α} {n : Nat} (h : ∀ i, i < n → Ev (σ (i + 1)) r → Ev (σ i) r) (he : Ev (σ n) r) : ∀ i, i ≤ n → Ev (σ i) r := by
  have : ∀ d i, i + d = n → Ev (σ i) r := by
    intro d
    induction d with
    | zero => intro i hi; obtain rfl : i = n := by omega
              exact he
    | succ d ih => intro i hi; exact h i (by omega) (ih (i + 1) (by omega))
  intro i hi
  exact this (n - i) i (by omega)
theorem Ev.done {α : Type} {g : Nat → Option α} {r : α} (h : ∀ k, g (k + 1) = some r) : Ev g r := Ev.step h (Ev.now r)
theorem Ev.const {α : Type} {g : Nat → Option α} {r : α} (h : ∀ k, g k = some r) : Ev g r := ⟨0, fun k _ => h k⟩
theorem Ev.bindc {α β : Type} {o : Option α} {f : Nat → α → Option β} {a : α} {r : β} (h : o = some a) (k : Ev (fun n => f n a) r) : Ev (fun n => o.bind (f n)) r := by subst h; exact k
theorem bt_nat (s : ByteArray) (i : Nat) (h : i < s.size) : bt s (i : Int) = (bytesOf s)[i]'(by rw [bytesOf_length]; exact h) := by
  unfold bt bytesOf
  rw [dif_pos (by simpa using h)]
  simp only [Int.toNat_natCast, List.getElem_map, Array.getElem_toList]
  rfl
theorem rd_nat (l : List Int) (i : Nat) (h : i < l.length) : rd l (i : Int) = l[i] := by
  unfold rd
  rw [Int.toNat_natCast, List.getD_eq_getElem?_getD, List.getElem?_eq_getElem h]
  rfl
theorem bytesOf_range (s : ByteArray) : ∀ z ∈ bytesOf s, 0 ≤ z ∧ z < 256 := by
  intro z hz
  unfold bytesOf at hz
  obtain ⟨b, _, rfl⟩ := List.mem_map.1 hz
  have := b.toNat_lt
  omega
theorem take_snoc {α : Type} (l : List α) (i : Nat) (h : i < l.length) : l.take i ++ [l[i]] = l.take (i + 1) := by
  rw [List.take_succ_eq_append_getElem h]
theorem rd_getD (l : List Int) (i : Nat) : rd l (i : Int) = l.getD i 0 := by unfold rd; rw [Int.toNat_natCast]
theorem rd_left (l m : List Int) (i : Nat) (h : i < l.length) : rd (l ++ m) (i : Int) = rd l (i : Int) := by
  rw [rd_getD, rd_getD, List.getD_eq_getElem?_getD, List.getD_eq_getElem?_getD, List.getElem?_append_left h]
theorem rd_right (l m : List Int) (i : Nat) (h : l.length ≤ i) : rd (l ++ m) (i : Int) = rd m ((i - l.length : Nat) : Int) := by
  rw [rd_getD, rd_getD, List.getD_eq_getElem?_getD, List.getD_eq_getElem?_getD, List.getElem?_append_right h]
theorem rd_drop0 (l : List Int) (i : Nat) (h : i < l.length) : rd (l.drop i) ((0 : Nat) : Int) = l[i] := by
  rw [List.drop_eq_getElem_cons h]; rfl

/-! cuts and pivots of sizes -/
def fineS (l : List Int) : Prop := ∀ z ∈ l, 1 ≤ z ∧ z ≤ 4072
instance (l : List Int) : Decidable (fineS l) := by unfold fineS; exact inferInstance
/-- The sum of the first i. -/
def S (l : List Int) (i : Nat) : Int := (l.take i).sum
theorem S_zero (l : List Int) : S l 0 = 0 := by simp [S]
theorem S_succ (l : List Int) (i : Nat) (h : i < l.length) : S l (i + 1) = S l i + l[i] := by
  unfold S
  rw [← take_snoc l i h, List.sum_append, List.sum_cons, List.sum_nil]
  omega
theorem S_all (l : List Int) (i : Nat) (h : l.length ≤ i) : S l i = l.sum := by
  unfold S
  rw [List.take_of_length_le h]
theorem S_bd (l : List Int) (hf : fineS l) : ∀ i : Nat, 0 ≤ S l i ∧ S l i ≤ 4072 * (i : Int)
  | 0 => by rw [S_zero]; omega
  | i + 1 => by
    have ih := S_bd l hf i
    by_cases h : i < l.length
    · have := hf _ (List.getElem_mem h)
      rw [S_succ l i h]
      omega
    · rw [S_all l (i + 1) (by omega), ← S_all l i (by omega)]
      omega
theorem S_mono (l : List Int) (hf : fineS l) (i : Nat) : ∀ d : Nat, S l i ≤ S l (i + d)
  | 0 => Int.le_refl _
  | d + 1 => by
    have ih := S_mono l hf i d
    by_cases h : i + d < l.length
    · have := hf _ (List.getElem_mem h)
      rw [show i + (d + 1) = i + d + 1 by omega, S_succ l (i + d) h]
      omega
    · rw [S_all l (i + (d + 1)) (by omega), ← S_all l (i + d) (by omega)]
      exact ih
theorem S_le (l : List Int) (hf : fineS l) (i : Nat) (h : i ≤ l.length) : S l i ≤ l.sum := by
  have := S_mono l hf i (l.length - i)
  rwa [show i + (l.length - i) = l.length by omega, S_all l l.length (Nat.le_refl _)] at this
theorem sum_bd (l : List Int) (hf : fineS l) : 0 ≤ l.sum ∧ l.sum ≤ 4072 * (l.length : Int) := by
  have := S_bd l hf l.length
  rwa [S_all l l.length (Nat.le_refl _)] at this
/-- How far apart the two sums are, at place i; s: 0 for a cut, 1 for a pivot. -/
def dist (l : List Int) (s i : Nat) : Int := ((S l i + S l (i + s) - l.sum).natAbs : Int)
/-- The best place so far, and its distance. -/
def bl (l : List Int) (s : Nat) : Nat → Nat × Int
  | 0 => (0, 0)
  | j + 1 => if (bl l s j).1 = 0 ∨ dist l s (j + 1) < (bl l s j).2 then (j + 1, dist l s (j + 1)) else bl l s j
theorem bl_succ (l : List Int) (s j : Nat) : bl l s (j + 1) = if (bl l s j).1 = 0 ∨ dist l s (j + 1) < (bl l s j).2 then (j + 1, dist l s (j + 1)) else bl l s j := rfl
theorem bl_pos (l : List Int) (s : Nat) : ∀ j, (bl l s (j + 1)).1 ≠ 0
  | 0 => by simp [bl]
  | j + 1 => by
    have ih := bl_pos l s j
    rw [bl]
    split
    · simp
    · exact ih
theorem bl_le (l : List Int) (s : Nat) : ∀ j, (bl l s j).1 ≤ j
  | 0 => by simp [bl]
  | j + 1 => by
    have ih := bl_le l s j
    rw [bl]
    split
    · simp
    · omega
theorem dist_bd (l : List Int) (hf : fineS l) (s i : Nat) (h : i + s ≤ l.length) : 0 ≤ dist l s i ∧ dist l s i ≤ 2 * (4072 * (l.length : Int)) := by
  have h1 := S_bd l hf i
  have h2 := S_bd l hf (i + s)
  have h3 := sum_bd l hf
  have h4 := S_le l hf i (by omega)
  have h5 := S_le l hf (i + s) (by omega)
  unfold dist
  omega
def cutv (l : List Int) (s : Nat) : Int × Option Int := if l.length < 2 + s then (0, some 4) else if fineS l then (((bl l s (l.length - 1 - s)).1 : Int), none) else (0, some 1)
theorem unfine {l : List Int} (h : ¬ fineS l) : ∃ i, ∃ hi : i < l.length, ¬ (1 ≤ l[i] ∧ l[i] ≤ 4072) := by
  refine Classical.byContradiction fun hn => h fun p hp => Classical.byContradiction fun hb => hn ?_
  obtain ⟨i, hi, rfl⟩ := List.mem_iff_getElem.1 hp
  exact ⟨i, hi, hb⟩
theorem check_ev (l : List Int) (s : Nat) (hs : s ≤ 1) (hl : l.length ≤ 17592186044000) : Ev (fun k => cells_check.f k l ((2 + s : Nat) : Int)) (if l.length < 2 + s then (0, some 4) else if fineS l then (l.sum, none) else (0, some 1)) := by
  by_cases h1 : l.length < 2 + s
  · rw [if_pos h1]
    exact Ev.const fun k => if_pos (by omega)
  · rw [if_neg h1]
    refine Ev.congr (fun k => if_neg (by omega)) ?_
    have hstep : ∀ i (hi : i < l.length), (1 ≤ l[i] ∧ l[i] ≤ 4072) → (0 ≤ S l i ∧ S l i ≤ 4072 * (i : Int)) → ∀ k, cells_check.l0 (k + 1) (S l i) l (l.length : Int) (i : Int) = cells_check.l0 k (S l (i + 1)) l (l.length : Int) ((i + 1 : Nat) : Int) := fun i hi ho hb k => by
      simp only [cells_check.l0]
      rw [if_pos (by omega), if_pos (by omega), if_pos (by omega), rd_nat l i hi, if_neg (by omega), if_neg (by omega), S_succ l i hi, w64 (by omega) (by omega), w64 (by omega) (by omega)]
      rfl
    by_cases hf : fineS l
    · rw [if_pos hf]
      have := Ev.loop (σ := fun i k => cells_check.l0 k (S l i) l (l.length : Int) (i : Int)) (r := (l.sum, none)) (n := l.length) (fun i hi k => hstep i hi (hf _ (List.getElem_mem hi)) (S_bd l hf i) k) (Ev.done fun k => by
        simp only [cells_check.l0]
        rw [if_neg (by omega), S_all l _ (Nat.le_refl _)]) 0 (by omega)
      rwa [S_zero] at this
    · rw [if_neg hf]
      obtain ⟨i0, hi0, hb0⟩ := unfine hf
      -- the sum may turn over ahead of the bad one only as long as all were sizes
      have hbad : ∀ i (hi : i < l.length) (x : Int), ¬ (1 ≤ l[i] ∧ l[i] ≤ 4072) → Ev (fun k => cells_check.l0 k x l (l.length : Int) (i : Int)) (0, some 1) := fun i hi x ho => Ev.done fun k => by
        simp only [cells_check.l0]
        rw [if_pos (by omega), if_pos (by omega), if_pos (by omega), rd_nat l i hi]
        by_cases c : l[i] < 1
        · rw [if_pos c]
        · rw [if_neg c, if_pos (by omega)]
      have : ∀ d i x, i + d = i0 → Ev (fun k => cells_check.l0 k x l (l.length : Int) (i : Int)) (0, some 1) := by
        intro d
        induction d with
        | zero => intro i x hi; obtain rfl : i = i0 := by omega
                  exact hbad _ hi0 x hb0
        | succ d ih =>
          intro i x hi
          by_cases ho : 1 ≤ l[i]'(by omega) ∧ l[i]'(by omega) ≤ 4072
          · refine Ev.step (fun k => ?_) (ih (i + 1) (wrap64 (x + l[i]'(by omega))) (by omega))
            simp only [cells_check.l0]
            rw [if_pos (by omega), if_pos (by omega), if_pos (by omega), rd_nat l i (by omega), if_neg (by omega), if_neg (by omega), w64 (n := (i : Int) + 1) (by omega) (by omega)]
            rfl
          · exact hbad i (by omega) x ho
      exact this i0 0 0 (by omega)
theorem near_ev (l : List Int) (s : Nat) (hs : s ≤ 1) (hl : l.length ≤ 17592186044000) (hf : fineS l) (h2 : 2 + s ≤ l.length) (g : Int → Int → Int)
    (hg : ∀ i, 1 ≤ i → i + s < l.length → cells_nearest.abs (g (S l i) (rd l (i : Int))) = dist l s i) :
    Ev (fun k => cells_nearest.f g k l ((l.length - 1 - s : Nat) : Int)) ((bl l s (l.length - 1 - s)).1 : Int) := by
  refine Ev.congr (f := fun k => cells_nearest.l g k l ((l.length - 1 - s : Nat) : Int) 0 0 (S l 1) 1) (fun k => ?_) ?_
  · unfold cells_nearest.f
    rw [if_pos (by omega)]
    congr 1
    rw [S_succ l 0 (by omega), S_zero, show (0 : Int) = ((0 : Nat) : Int) from rfl, rd_nat l 0 (by omega)]
    omega
  · have := Ev.loop (σ := fun j k => cells_nearest.l g k l ((l.length - 1 - s : Nat) : Int) ((bl l s j).1 : Int) (bl l s j).2 (S l (j + 1)) ((j + 1 : Nat) : Int)) (r := ((bl l s (l.length - 1 - s)).1 : Int)) (n := l.length - 1 - s) (fun j hj k => by
      have hb1 := S_bd l hf (j + 1)
      have hb2 := S_bd l hf (j + 1 + 1)
      have hn1 : wrap64 (S l (j + 1) + rd l ((j + 1 : Nat) : Int)) = S l (j + 1 + 1) := by
        rw [rd_nat l (j + 1) (by omega), ← S_succ l (j + 1) (by omega), w64 (by omega) (by omega)]
      have hn2 : wrap64 (((j + 1 : Nat) : Int) + 1) = ((j + 1 + 1 : Nat) : Int) := w64 (by omega) (by omega)
      simp only [cells_nearest.l]
      rw [if_pos (by omega), if_pos (by omega), hg (j + 1) (by omega) (by omega), hn1, hn2]
      rw [bl]
      by_cases c : (bl l s j).1 = 0 ∨ dist l s (j + 1) < (bl l s j).2
      · rw [if_pos c, if_pos (by omega)]
      · rw [if_neg c, if_neg (by omega)]) (Ev.done fun k => by
      simp only [cells_nearest.l]
      rw [if_neg (by omega)]) 0 (by omega)
    exact this
theorem abs_wrap (x : Int) (h0 : -4611686018427387904 ≤ x) (h1 : x < 4611686018427387904) : cells_nearest.abs x = (x.natAbs : Int) := by
  unfold cells_nearest.abs
  split
  · rw [w64 (by omega) (by omega)]
    omega
  · omega
theorem Cut_ev (l : List Int) (hl : l.length ≤ 17592186044000) : Ev (fun k => cells_Cut.f k l) (cutv l 0) := by
  unfold cutv
  refine Ev.bind (check_ev l 0 (by omega) hl) ?_
  by_cases h1 : l.length < 2 + 0
  · rw [if_pos h1, if_pos h1]
    exact Ev.const fun k => rfl
  · rw [if_neg h1, if_neg h1]
    by_cases hf : fineS l
    · rw [if_pos hf, if_pos hf]
      refine Ev.congr (f := fun k => (cells_nearest.f (fun ah ow => wrap64 (wrap64 (2 * ah) - l.sum)) k l ((l.length - 1 - 0 : Nat) : Int)).bind fun n => some (n, none)) (fun k => ?_) (Ev.bind (near_ev l 0 (by omega) hl hf (by omega) _ (fun i hi1 hi2 => ?_)) (Ev.const fun k => rfl))
      · simp only [Option.isNone_none, ↓reduceIte]
        rw [w64 (by omega) (by omega), show (l.length : Int) - 1 = ((l.length - 1 - 0 : Nat) : Int) by omega]
      · have b1 := S_bd l hf i
        have b2 := sum_bd l hf
        rw [w64 (n := 2 * S l i) (by omega) (by omega), w64 (by omega) (by omega), abs_wrap _ (by omega) (by omega)]
        unfold dist
        rw [Nat.add_zero]
        congr 1
        congr 1
        omega
    · rw [if_neg hf, if_neg hf]
      exact Ev.const fun k => rfl

theorem Pivot_ev (l : List Int) (hl : l.length ≤ 17592186044000) : Ev (fun k => cells_Pivot.f k l) (cutv l 1) := by
  unfold cutv
  refine Ev.bind (check_ev l 1 (by omega) hl) ?_
  by_cases h1 : l.length < 2 + 1
  · rw [if_pos h1, if_pos h1]
    exact Ev.const fun k => rfl
  · rw [if_neg h1, if_neg h1]
    by_cases hf : fineS l
    · rw [if_pos hf, if_pos hf]
      refine Ev.congr (f := fun k => (cells_nearest.f (fun ah ow => wrap64 (wrap64 (wrap64 (2 * ah) + ow) - l.sum)) k l ((l.length - 1 - 1 : Nat) : Int)).bind fun n => some (n, none)) (fun k => ?_) (Ev.bind (near_ev l 1 (by omega) hl hf (by omega) _ (fun i hi1 hi2 => ?_)) (Ev.const fun k => rfl))
      · simp only [Option.isNone_none, ↓reduceIte]
        rw [w64 (by omega) (by omega), show (l.length : Int) - 2 = ((l.length - 1 - 1 : Nat) : Int) by omega]
      · have b1 := S_bd l hf i
        have b2 := sum_bd l hf
        have b3 := hf _ (List.getElem_mem (l := l) (n := i) (by omega))
        rw [rd_nat l i (by omega), w64 (n := 2 * S l i) (by omega) (by omega), w64 (n := 2 * S l i + l[i]) (by omega) (by omega), w64 (by omega) (by omega), abs_wrap _ (by omega) (by omega)]
        unfold dist
        rw [S_succ l i (by omega)]
        congr 1
        congr 1
        omega
    · rw [if_neg hf, if_neg hf]
      exact Ev.const fun k => rfl

theorem Rfine_ev (l : List Int) (hl : l.length ≤ 17592186044000) : Ev (fun k => copseref6_fine.f k l) (decide (fineS l)) := by
  have hstep : ∀ i (hi : i < l.length), (1 ≤ l[i] ∧ l[i] ≤ 4072) → ∀ k, copseref6_fine.l0 (k + 1) l (i : Int) = copseref6_fine.l0 k l ((i + 1 : Nat) : Int) := fun i hi ho k => by
    simp only [copseref6_fine.l0]
    rw [if_pos (by omega), if_pos (by omega), rd_nat l i hi, if_neg (by omega), if_neg (by omega), w64 (by omega) (by omega)]
    rfl
  by_cases hf : fineS l
  · rw [decide_eq_true hf]
    exact Ev.loop (σ := fun i k => copseref6_fine.l0 k l (i : Int)) (r := true) (n := l.length) (fun i hi k => hstep i hi (hf _ (List.getElem_mem hi)) k) (Ev.done fun k => by
      simp only [copseref6_fine.l0]
      rw [if_neg (by omega)]) 0 (by omega)
  · rw [decide_eq_false hf]
    obtain ⟨i0, hi0, hb0⟩ := unfine hf
    have hbad : ∀ i (hi : i < l.length), ¬ (1 ≤ l[i] ∧ l[i] ≤ 4072) → Ev (fun k => copseref6_fine.l0 k l (i : Int)) false := fun i hi ho => Ev.done fun k => by
      simp only [copseref6_fine.l0]
      rw [if_pos (by omega), if_pos (by omega), rd_nat l i hi]
      by_cases c : l[i] < 1
      · rw [if_pos c]
      · rw [if_neg c, if_pos (by omega)]
    refine Ev.loop' (σ := fun i k => copseref6_fine.l0 k l (i : Int)) (r := false) (n := i0) (fun i hi hn => ?_) (hbad i0 hi0 hb0) 0 (by omega)
    by_cases ho : 1 ≤ l[i] ∧ l[i] ≤ 4072
    · exact Ev.step (fun k => hstep i (by omega) ho k) hn
    · exact hbad i (by omega) ho
theorem Rsum_ev (l : List Int) (hl : l.length ≤ 17592186044000) (hf : fineS l) (a b : Nat) (hab : a ≤ b) (hb : b ≤ l.length) : Ev (fun k => copseref6_sum.f k l (a : Int) (b : Int)) (S l b - S l a) := by
  have := Ev.loop (σ := fun i k => copseref6_sum.l0 k l (b : Int) (S l (a + i) - S l a) ((a + i : Nat) : Int)) (r := S l b - S l a) (n := b - a) (fun i hi k => by
    have b0 := S_bd l hf a
    have b1 := S_bd l hf (a + i)
    have b2 := S_bd l hf (a + i + 1)
    have e := S_succ l (a + i) (by omega)
    simp only [copseref6_sum.l0]
    rw [if_pos (by omega), if_pos (by omega), if_pos (by omega), rd_nat l (a + i) (by omega), show S l (a + i) - S l a + l[a + i]'(by omega) = S l (a + i + 1) - S l a by omega, w64 (n := S l (a + i + 1) - S l a) (by omega) (by omega), w64 (by omega) (by omega)]
    rfl) (Ev.done fun k => by
    simp only [copseref6_sum.l0]
    rw [if_neg (by omega), show a + (b - a) = b by omega]) 0 (by omega)
  rw [Nat.add_zero, Int.sub_self] at this
  exact this
theorem Rapart (a b : Int) (h0 : -4611686018427387904 ≤ a - b) (h1 : a - b < 4611686018427387904) : copseref6_apart.f a b = some (((a - b).natAbs : Nat) : Int) := by
  unfold copseref6_apart.f
  split
  · rw [w64 (by omega) (by omega)]
    congr 1
    omega
  · rw [w64 (by omega) (by omega)]
    congr 1
    omega
theorem rn_w1 (j : Nat) (h : j ≤ 17592186044000) : wrap64 (((j + 2 : Nat) : Int) - 1) = ((j + 1 : Nat) : Int) := by rw [w64 (by omega) (by omega)]; omega
theorem rn_w2 (j s : Nat) (h : j ≤ 17592186044000) (hs : s ≤ 1) : wrap64 (((j + 1 : Nat) : Int) + (s : Int)) = ((j + 1 + s : Nat) : Int) := by rw [w64 (by omega) (by omega)]; omega
theorem rn_w5 (j : Nat) (h : j ≤ 17592186044000) : wrap64 (((j + 2 : Nat) : Int) + 1) = ((j + 1 + 2 : Nat) : Int) := by rw [w64 (by omega) (by omega)]; omega
theorem rn_w3 (l : List Int) (hf : fineS l) (hl : l.length ≤ 17592186044000) (i : Nat) (h : i < l.length) : wrap64 (S l i + l[i]) = S l (i + 1) := by
  have b := S_bd l hf (i + 1)
  rw [← S_succ l i h, w64 (by omega) (by omega)]
theorem rn_w4 (l : List Int) (hf : fineS l) (hl : l.length ≤ 17592186044000) (i : Nat) (h : i < l.length) : wrap64 (l.sum - S l i - l[i]) = l.sum - S l (i + 1) := by
  have b := S_bd l hf (i + 1)
  have b5 := sum_bd l hf
  rw [show l.sum - S l i - l[i] = l.sum - S l (i + 1) by rw [S_succ l i h]; omega, w64 (by omega) (by omega)]
theorem Rnear_ev (l : List Int) (s : Nat) (hs : s ≤ 1) (hl : l.length ≤ 17592186044000) (hf : fineS l) (h2 : 2 + s ≤ l.length) :
    Ev (fun k => copseref6_nearest.f k l ((l.length - 1 - s : Nat) : Int) (s : Int)) ((bl l s (l.length - 1 - s)).1 : Int) := by
  have hd : ∀ i, i + s ≤ l.length → copseref6_apart.f (S l i) (l.sum - S l (i + s)) = some (dist l s i) := fun i hi => by
    have b1 := S_bd l hf i
    have b2 := S_bd l hf (i + s)
    have b3 := sum_bd l hf
    rw [Rapart _ _ (by omega) (by omega)]
    unfold dist
    congr 2
    omega
  unfold copseref6_nearest.f
  have s1 := Rsum_ev l hl hf 0 1 (by omega) (by omega)
  have s2 := Rsum_ev l hl hf (1 + s) l.length (by omega) (by omega)
  rw [S_zero, Int.sub_zero] at s1
  rw [S_all l l.length (Nat.le_refl _)] at s2
  refine Ev.bind s1 ?_
  refine Ev.congr (f := fun k => (copseref6_sum.f k l ((1 + s : Nat) : Int) (l.length : Int)).bind fun t109 => ((copseref6_apart.f (S l 1) t109).bind fun t110 => (copseref6_nearest.l0 k l ((l.length - 1 - s : Nat) : Int) (s : Int) 1 (S l 1) t109 t110 2))) (fun k => ?_) (Ev.bind s2 (Ev.bindc (hd 1 (by omega)) ?_))
  · rw [w64 (by omega) (by omega), show (1 : Int) + (s : Int) = ((1 + s : Nat) : Int) by omega]
  · have := Ev.loop (σ := fun j k => copseref6_nearest.l0 k l ((l.length - 1 - s : Nat) : Int) (s : Int) ((bl l s (j + 1)).1 : Int) (S l (j + 1)) (l.sum - S l (j + 1 + s)) (bl l s (j + 1)).2 ((j + 2 : Nat) : Int)) (r := ((bl l s (l.length - 1 - s)).1 : Int)) (n := l.length - 2 - s) (fun j hj k => by
      have c0 : j ≤ 17592186044000 := by omega
      have c9 : j + 1 + s + 1 = j + 1 + 1 + s := by omega
      have c1 : ((j + 2 : Nat) : Int) ≤ ((l.length - 1 - s : Nat) : Int) := by omega
      have c2 : 0 ≤ ((j + 1 : Nat) : Int) := by omega
      have c3 : ((j + 1 : Nat) : Int) < (l.length : Int) := by omega
      have c4 : 0 ≤ ((j + 1 + s : Nat) : Int) := by omega
      have c5 : ((j + 1 + s : Nat) : Int) < (l.length : Int) := by omega
      have c6 : j + 1 < l.length := by omega
      have c7 : j + 1 + s < l.length := by omega
      have c8 : j + 1 + 1 + s ≤ l.length := by omega
      have w1 := rn_w1 j c0
      have w2 := rn_w2 j s c0 hs
      have w3 := rn_w3 l hf hl (j + 1) c6
      have w4 := rn_w4 l hf hl (j + 1 + s) c7
      have w5 := rn_w5 j c0
      rw [c9] at w4
      simp only [copseref6_nearest.l0, w1, w2]
      rw [if_pos c1, if_pos c2, if_pos c3, if_pos c4, if_pos c5, rd_nat l (j + 1) c6, rd_nat l (j + 1 + s) c7, w3, w4, hd (j + 1 + 1) c8, Option.bind_some, w5]
      rw [bl_succ l s (j + 1)]
      have hp := bl_pos l s j
      by_cases c : dist l s (j + 1 + 1) < (bl l s (j + 1)).2
      · rw [if_pos c, if_pos (.inr c)]
      · rw [if_neg c, if_neg (fun h => h.elim hp c)]) (Ev.done fun k => by
      simp only [copseref6_nearest.l0]
      rw [if_neg (by omega), show l.length - 2 - s + 1 = l.length - 1 - s by omega]) 0 (by omega)
    have e : bl l s (0 + 1) = (1, dist l s 1) := by simp [bl]
    rw [e] at this
    rw [show 1 + s = 0 + 1 + s by omega]
    exact this
def rcutv (l : List Int) (s : Nat) : Int × Int := if l.length < 2 + s then (0, 4) else if fineS l then (((bl l s (l.length - 1 - s)).1 : Int), 0) else (0, 1)
theorem RCut_ev (l : List Int) (hl : l.length ≤ 17592186044000) : Ev (fun k => copseref6_Cut.f k l) (rcutv l 0) := by
  unfold rcutv copseref6_Cut.f
  by_cases h1 : l.length < 2 + 0
  · rw [if_pos h1]
    exact Ev.const fun k => if_pos (by omega)
  · rw [if_neg h1]
    refine Ev.congr (fun k => if_neg (by omega)) (Ev.bind (Rfine_ev l hl) ?_)
    by_cases hf : fineS l
    · rw [if_pos hf]
      refine Ev.congr (f := fun k => (copseref6_nearest.f k l ((l.length - 1 - 0 : Nat) : Int) ((0 : Nat) : Int)).bind fun n => some (n, 0)) (fun k => ?_) (Ev.bind (Rnear_ev l 0 (by omega) hl hf (by omega)) (Ev.const fun k => rfl))
      rw [if_pos (decide_eq_true hf), w64 (by omega) (by omega), show (l.length : Int) - 1 = ((l.length - 1 - 0 : Nat) : Int) by omega]
      rfl
    · rw [if_neg hf]
      exact Ev.const fun k => if_neg (by simp [hf])
theorem cut_num (l : List Int) (s : Nat) : copsekit_Num.f (cutv l s).2 = some (rcutv l s).2 ∧ (cutv l s).1 = (rcutv l s).1 := by
  unfold cutv rcutv
  by_cases h1 : l.length < 2 + s
  · rw [if_pos h1, if_pos h1]; simp [copsekit_Num.f, en]
  rw [if_neg h1, if_neg h1]
  by_cases hf : fineS l
  · rw [if_pos hf, if_pos hf]; simp [copsekit_Num.f]
  · rw [if_neg hf, if_neg hf]; simp [copsekit_Num.f, en]

theorem RPivot_ev (l : List Int) (hl : l.length ≤ 17592186044000) : Ev (fun k => copseref6_Pivot.f k l) (rcutv l 1) := by
  unfold rcutv copseref6_Pivot.f
  by_cases h1 : l.length < 2 + 1
  · rw [if_pos h1]
    exact Ev.const fun k => if_pos (by omega)
  · rw [if_neg h1]
    refine Ev.congr (fun k => if_neg (by omega)) (Ev.bind (Rfine_ev l hl) ?_)
    by_cases hf : fineS l
    · rw [if_pos hf]
      refine Ev.congr (f := fun k => (copseref6_nearest.f k l ((l.length - 1 - 1 : Nat) : Int) ((1 : Nat) : Int)).bind fun n => some (n, 0)) (fun k => ?_) (Ev.bind (Rnear_ev l 1 (by omega) hl hf (by omega)) (Ev.const fun k => rfl))
      rw [if_pos (decide_eq_true hf), w64 (by omega) (by omega), show (l.length : Int) - 2 = ((l.length - 1 - 1 : Nat) : Int) by omega]
      rfl
    · rw [if_neg hf]
      exact Ev.const fun k => if_neg (by simp [hf])

theorem SameInts_ev (l : List Int) (hl : l.length ≤ 140737488351232) : Ev (fun k => copseref0_SameInts.f k l l) true := by
  have h := Ev.loop (σ := fun i k => copseref0_SameInts.l0 k l l (i : Int)) (r := true) (n := l.length) (fun i hi k => by
    simp only [copseref0_SameInts.l0]
    rw [if_pos (by omega), if_pos (by omega), if_pos (by omega), if_pos trivial, w64 (by omega) (by omega)]
    rfl) (Ev.done fun k => by
    simp only [copseref0_SameInts.l0]
    rw [if_neg (by omega)]) 0 (by omega)
  exact Ev.congr (fun k => by simp [copseref0_SameInts.f]) h

theorem set_mid (y x : Int) (t : List Int) : ∀ P : List Int, (P ++ y :: t).set P.length x = P ++ x :: t
  | [] => rfl
  | a :: P => by
    rw [List.cons_append, List.length_cons, List.set_cons_succ, set_mid y x t P]
    rfl
theorem rev_at (l m : List Int) (i : Nat) (h : i < l.length) : (l.reverse.take i ++ (l.drop i ++ m)).set i (l[l.length - 1 - i]'(by omega)) = l.reverse.take (i + 1) ++ (l.drop (i + 1) ++ m) := by
  have h1 : (l.reverse.take i).length = i := by rw [List.length_take, List.length_reverse]; omega
  rw [List.drop_eq_getElem_cons h, List.cons_append]
  have := set_mid l[i] (l[l.length - 1 - i]'(by omega)) (l.drop (i + 1) ++ m) (l.reverse.take i)
  rw [h1] at this
  rw [this, ← take_snoc l.reverse i (by rw [List.length_reverse]; exact h), List.getElem_reverse, List.append_assoc]
  rfl
theorem pure_side : ∀ (l0 : List Int), (l0.length * 8 ≤ 140737488351232 ∧ ∀ z ∈ l0, (Lit.int .i64 z).wf = true) → ∃ k, copselaw6_CellsCuts.f k l0 = some true := by
  intro l hl
  have hl := hl.1
  refine Ev.rounds (g := fun k => copselaw6_CellsCuts.f k l) ?_
  have ht : ∀ m : List Int, m.length = l.length → (m ++ [-9]).take ((l.length : Int)).toNat = m := fun m hm => by
    rw [Int.toNat_natCast, List.take_append_of_le_length (by omega), List.take_of_length_le (by omega)]
  have hlen : (l ++ [-9]).length = l.length + 1 := by simp
  have hrl : l.reverse.length = l.length := List.length_reverse
  have hnum := cut_num l 0
  have hnump := cut_num l 1
  have hlast : Ev (fun k => copselaw6_CellsCuts.l0 k l (l.length : Int) (l.reverse ++ [-9]) l.reverse (l.length : Int)) true := by
    have n0 := cut_num l.reverse 0
    have n1 := cut_num l.reverse 1
    refine Ev.step (f := fun k => (cells_Cut.f k l.reverse).bind fun bt161 => ((cells_Pivot.f k l.reverse).bind fun bt167 => ((copseref6_Cut.f k l.reverse).bind fun bt169 => ((copseref6_Pivot.f k l.reverse).bind fun bt171 => (if bt161.1 = bt169.1 then (if bt167.1 = bt171.1 then ((copsekit_Num.f bt161.2).bind fun t173 => (if t173 = bt169.2 then ((copsekit_Num.f bt167.2).bind fun t174 => (some (t174 == bt171.2))) else (some false))) else (some false)) else (some false)))))) (fun k => ?_) ?_
    · simp only [copselaw6_CellsCuts.l0]
      rw [if_neg (by omega), if_pos (by omega), if_pos (by simp; omega), ht _ hrl]
    · refine Ev.bind (Cut_ev _ (by omega)) (Ev.bind (Pivot_ev _ (by omega)) (Ev.bind (RCut_ev _ (by omega)) (Ev.bind (RPivot_ev _ (by omega)) (Ev.const fun k => ?_))))
      rw [if_pos n0.2, if_pos n1.2, n0.1, n1.1]
      simp
  have hloop := Ev.loop (σ := fun i k => copselaw6_CellsCuts.l0 k l (l.length : Int) (l.reverse.take i ++ (l.drop i ++ [-9])) (l.reverse.take i ++ (l.drop i ++ [])) (i : Int)) (r := true) (n := l.length) (fun i hi k => by
    have hl1 : (l.reverse.take i ++ (l.drop i ++ [])).length = l.length := by simp; omega
    have hl2 : (l.reverse.take i ++ (l.drop i ++ [-9])).length = l.length + 1 := by simp; omega
    have hw : wrap64 (wrap64 ((l.length : Int) - 1) - (i : Int)) = ((l.length - 1 - i : Nat) : Int) := by rw [w64 (n := (l.length : Int) - 1) (by omega) (by omega), w64 (by omega) (by omega)]; omega
    simp only [copselaw6_CellsCuts.l0, hw]
    rw [if_pos (by omega), if_pos (by omega), if_pos (by omega), if_pos (by omega), if_pos (by omega), if_pos (by omega), rd_nat l _ (by omega), Int.toNat_natCast, rev_at l _ i hi, rev_at l _ i hi, w64 (by omega) (by omega)]
    rfl) (by
    have e1 : l.reverse.take l.length = l.reverse := List.take_of_length_le (by omega)
    have e2 : l.drop l.length = [] := List.drop_of_length_le (by omega)
    rw [e1, e2]
    simpa using hlast) 0 (by omega)
  unfold copselaw6_CellsCuts.f
  refine Ev.congr (f := fun k => (cells_Cut.f k l).bind fun bt130 => ((cells_Pivot.f k l).bind fun bt136 => ((copseref6_Cut.f k l).bind fun bt141 => ((copseref6_Pivot.f k l).bind fun bt143 => ((copseref0_SameInts.f k l l).bind fun t149 => (if t149 = true then (copselaw6_CellsCuts.j0 k l (l.length : Int) (l ++ [-9]) bt130.1 bt130.2 bt136.1 bt136.2 l bt141.1 bt141.2 bt143.1 bt143.2 true) else (copselaw6_CellsCuts.j0 k l (l.length : Int) (l ++ [-9]) bt130.1 bt130.2 bt136.1 bt136.2 l bt141.1 bt141.2 bt143.1 bt143.2 false))))))) (fun k => ?_) ?_
  · have e9 : (rd (l ++ [-9]) (l.length : Int) == -9) = true := by
      rw [rd_nat _ _ (by omega), List.getElem_append_right (Nat.le_refl _)]
      simp
    have hlt : (l.length : Int) < ((l ++ [-9]).length : Int) := by omega
    simp only [List.nil_append, List.length_nil, Option.bind_some]
    rw [if_pos (by omega), if_pos (by omega), if_pos (by omega), if_pos (by omega), ht l rfl, e9]
    simp only [if_pos hlt]
  · refine Ev.bind (Cut_ev l (by omega)) (Ev.bind (Pivot_ev l (by omega)) (Ev.bind (RCut_ev l (by omega)) (Ev.bind (RPivot_ev l (by omega)) (Ev.bind (SameInts_ev l (by omega)) ?_))))
    refine Ev.congr (fun k => if_pos rfl) (Ev.step (f := fun k => copselaw6_CellsCuts.j1 k l (l.length : Int) (l ++ [-9]) l false) (fun k => ?_) (Ev.step (f := fun k => copselaw6_CellsCuts.l0 k l (l.length : Int) (l ++ [-9]) l 0) (fun k => ?_) ?_))
    · simp only [copselaw6_CellsCuts.j0]
      rw [if_pos hnum.2, if_pos hnump.2, hnum.1, hnump.1]
      simp
    · simp [copselaw6_CellsCuts.j1]
    · simpa using hloop
end Go.Proofs.YtmjdkddpfcfepaaDoor.XCellsCuts
