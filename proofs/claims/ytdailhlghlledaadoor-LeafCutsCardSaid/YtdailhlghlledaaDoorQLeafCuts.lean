/- The pure side of LeafCuts. -/
import Derived.Test.YtdailhlghlledaaDoorXLeafCutsx
set_option linter.unusedVariables false
set_option linter.unusedSimpArgs false
namespace Go.Proofs.YtdailhlghlledaaDoor.XLeafCuts
open Go.RowKit Go.Proofs.YtdailhlghlledaaDoorW.PrintWords Go.Proofs.YtdailhlghlledaaDoorW.PrintLast
theorem w64 {n : Int} (h0 : -9223372036854775808 ≤ n) (h1 : n < 9223372036854775808) : wrap64 n = n := by unfold wrap64; omega
theorem Ev.loop {α : Type} {σ : Nat → Nat → Option α} {r : α} {n : Nat} (h : ∀ i, i < n → ∀ k, σ i (k + 1) = σ (i + 1) k) (he : Ev (σ n) r) : ∀ i, i ≤ n → Ev (σ i) r := by
  have : ∀ d i, i + d = n → Ev (σ i) r := by
    intro d
    induction d with
    | zero => intro i hi; obtain rfl : i = n := by omega
              exact he
    | succ d ih => intro i hi; exact Ev.step (h i (by omega)) (ih (i + 1) (by omega))
  intro i hi
  exact this (n - i) i (by omega)
theorem Ev.loop' {α : Type} {σ : Nat → Nat → Option α} {r : α} {n : Nat} (h : ∀ i, i < n → Ev (σ (i + 1)) r → Ev (σ i) r) (he : Ev (σ n) r) : ∀ i, i ≤ n → Ev (σ i) r := by
  have : ∀ d i, i + d = n → Ev (σ i) r := by
    intro d
    induction d with
    | zero => intro i hi; obtain rfl : i = n := by omega
              exact he
    | succ d ih => intro i hi; exact h i (by omega) (ih (i + 1) (by omega))
  intro i hi
  exact this (n - i) i (by omega)
theorem Ev.done {α : Type} {g : Nat → Option α} {r : α} (h : ∀ k, g (k + 1) = some r) : Ev g r := Ev.step h (Ev.now r)
theorem Ev.const {α : Type} {g : Nat → Option α} {r : α} (h : ∀ k, g k = some r) : Ev g r := ⟨0, fun k _ => h k⟩
theorem Ev.bindc {α β : Type} {o : Option α} {f : Nat → α → Option β} {a : α} {r : β} (h : o = some a) (k : Ev (fun n => f n a) r) : Ev (fun n => o.bind (f n)) r := by subst h; exact k
theorem bt_nat (s : ByteArray) (i : Nat) (h : i < s.size) : bt s (i : Int) = (bytesOf s)[i]'(by rw [bytesOf_length]; exact h) := by
  unfold bt bytesOf
  rw [dif_pos (by simpa using h)]
  simp only [Int.toNat_natCast, List.getElem_map, Array.getElem_toList]
  rfl
theorem rd_nat (l : List Int) (i : Nat) (h : i < l.length) : rd l (i : Int) = l[i] := by
  unfold rd
  rw [Int.toNat_natCast, List.getD_eq_getElem?_getD, List.getElem?_eq_getElem h]
  rfl
theorem bytesOf_range (s : ByteArray) : ∀ z ∈ bytesOf s, 0 ≤ z ∧ z < 256 := by
  intro z hz
  unfold bytesOf at hz
  obtain ⟨b, _, rfl⟩ := List.mem_map.1 hz
  have := b.toNat_lt
  omega
theorem take_snoc {α : Type} (l : List α) (i : Nat) (h : i < l.length) : l.take i ++ [l[i]] = l.take (i + 1) := by
  rw [List.take_succ_eq_append_getElem h]
theorem rd_getD (l : List Int) (i : Nat) : rd l (i : Int) = l.getD i 0 := by unfold rd; rw [Int.toNat_natCast]
theorem rd_left (l m : List Int) (i : Nat) (h : i < l.length) : rd (l ++ m) (i : Int) = rd l (i : Int) := by
  rw [rd_getD, rd_getD, List.getD_eq_getElem?_getD, List.getD_eq_getElem?_getD, List.getElem?_append_left h]
theorem rd_right (l m : List Int) (i : Nat) (h : l.length ≤ i) : rd (l ++ m) (i : Int) = rd m ((i - l.length : Nat) : Int) := by
  rw [rd_getD, rd_getD, List.getD_eq_getElem?_getD, List.getD_eq_getElem?_getD, List.getElem?_append_right h]
theorem rd_drop0 (l : List Int) (i : Nat) (h : i < l.length) : rd (l.drop i) ((0 : Nat) : Int) = l[i] := by
  rw [List.drop_eq_getElem_cons h]; rfl

theorem Bytes_ev (s : ByteArray) (hs : s.size ≤ 140737488351232) : Ev (fun k => copsekit_Bytes.f k s) (bytesOf s) := by
  have h := Ev.loop (σ := fun i k => copsekit_Bytes.l0 k s ((bytesOf s).take i) (i : Int)) (r := bytesOf s) (n := s.size) (fun i hi k => by
    have hl : ((bytesOf s).take i).length = i := by rw [List.length_take, bytesOf_length]; omega
    simp only [copsekit_Bytes.l0]
    rw [if_pos (by omega), if_pos (by omega), if_pos (by omega), bt_nat s i hi, take_snoc _ _ (by rw [bytesOf_length]; exact hi), w64 (by omega) (by omega)]
    rfl) (Ev.done fun k => by
    simp only [copsekit_Bytes.l0]
    rw [if_neg (by omega), List.take_of_length_le (by rw [bytesOf_length]; omega)]) 0 (by omega)
  exact h

/-! pairs, their marks, and whether they are kept -/
theorem rdp (l : List S58) (i : Nat) (h : i < l.length) : rd_T58 l (i : Int) = l[i] := by
  unfold rd_T58
  rw [Int.toNat_natCast, List.getD_eq_getElem?_getD, List.getElem?_eq_getElem h]
  rfl
theorem digit_cut : ∀ d : Nat, d < 10 → (([48, 49, 50, 51, 52, 53, 54, 55, 56, 57] : List Int).take (d + 1)).drop d = [48 + (d : Int)] := by decide
def mk (j : Nat) : S58 := ⟨(⟨#[109, 97, 114, 107]⟩ : ByteArray), strOfNums [48 + ((j % 10 : Nat) : Int)]⟩
theorem mark_ev (j : Nat) (h : j < 64) : Ev (fun k => copselaw7_mark.f k (j : Int)) ((mk j).f0, (mk j).f1) := by
  have hb := Bytes_ev (⟨#[48, 49, 50, 51, 52, 53, 54, 55, 56, 57]⟩ : ByteArray) (by decide)
  refine Ev.bind hb (Ev.const fun k => ?_)
  have e : bytesOf (⟨#[48, 49, 50, 51, 52, 53, 54, 55, 56, 57]⟩ : ByteArray) = [48, 49, 50, 51, 52, 53, 54, 55, 56, 57] := by decide
  rw [e, show Int.tmod (j : Int) 10 = ((j % 10 : Nat) : Int) from rfl, w64 (by omega) (by omega), if_pos (by omega), if_pos (by omega), if_pos (by simp; omega),
    show (((j % 10 : Nat) : Int) + 1).toNat = j % 10 + 1 by omega, Int.toNat_natCast, digit_cut _ (by omega)]
  rfl
def marksP : List S58 := (List.range 64).map mk
theorem marksP_len : marksP.length = 64 := by simp [marksP]
theorem marksP_at (j : Nat) (h : j < 64) : marksP[j]'(by rw [marksP_len]; exact h) = mk j := by simp [marksP]
theorem pairs_ev (l : List S58) (hl : l.length * 32 ≤ 140737488351232) : Ev (fun k => copselaw7_pairs.f k l) (l ++ marksP) := by
  have h1 := Ev.loop' (σ := fun i k => copselaw7_pairs.l1 k (l ++ marksP.take i) (i : Int)) (r := l ++ marksP) (n := 64) (fun i hi hn => by
    have hlen : (l ++ marksP.take i).length = l.length + i := by rw [List.length_append, List.length_take, marksP_len]; omega
    refine Ev.step (f := fun k => (copselaw7_mark.f k (i : Int)).bind fun bt116 => if (l ++ marksP.take i).length < 4398046511104 then copselaw7_pairs.l1 k ((l ++ marksP.take i) ++ [(⟨bt116.1, bt116.2⟩ : S58)]) (wrap64 ((i : Int) + 1)) else none) (fun k => ?_) (Ev.bind (mark_ev i hi) ?_)
    · simp only [copselaw7_pairs.l1]
      rw [if_pos (by omega)]
    · refine Ev.congr (fun k => ?_) hn
      rw [if_pos (by rw [hlen]; omega), w64 (by omega) (by omega), ← take_snoc marksP i (by rw [marksP_len]; exact hi), marksP_at i hi, List.append_assoc]
      rfl) (Ev.done fun k => by
    simp only [copselaw7_pairs.l1]
    rw [if_neg (by omega), List.take_of_length_le (by rw [marksP_len]; omega)]) 0 (by omega)
  have h0 := Ev.loop (σ := fun i k => copselaw7_pairs.l0 k l (l.take i) (i : Int)) (r := l ++ marksP) (n := l.length) (fun i hi k => by
    have hlen : (l.take i).length = i := by rw [List.length_take]; omega
    simp only [copselaw7_pairs.l0]
    rw [if_pos (by omega), if_pos (by omega), if_pos (by omega), rdp l i hi, w64 (by omega) (by omega), take_snoc l i hi]
    rfl) (Ev.step (fun k => by
    simp only [copselaw7_pairs.l0]
    rw [if_neg (by omega), List.take_of_length_le (by omega)]) (by simpa using h1)) 0 (by omega)
  exact h0
theorem kept_ev (l : List S58) (hl : l.length * 32 ≤ 140737488351232) : Ev (fun k => copselaw7_kept.f k (l ++ marksP) l) true := by
  have hlen : (l ++ marksP).length = l.length + 64 := by rw [List.length_append, marksP_len]
  have h := Ev.loop' (σ := fun i k => copselaw7_kept.l0 k (l ++ marksP) l (i : Int)) (r := true) (n := l.length + 64) (fun i hi hn => by
    by_cases h1 : i < l.length
    · refine Ev.step (fun k => ?_) hn
      have e1 : rd_T58 (l ++ marksP) (i : Int) = rd_T58 l (i : Int) := by
        rw [rdp _ _ (by omega), rdp l i h1, List.getElem_append_left]
      simp only [copselaw7_kept.l0]
      rw [if_pos (by omega), if_pos (by omega), if_pos (by omega), e1, if_neg (by simp), if_neg (by omega), w64 (by omega) (by omega)]
      rfl
    · have e1 : rd_T58 (l ++ marksP) (i : Int) = mk (i - l.length) := by
        rw [rdp _ _ (by omega), List.getElem_append_right (by omega), marksP_at _ (by omega)]
      refine Ev.step (f := fun k => (copselaw7_mark.f k (((i - l.length : Nat)) : Int)).bind fun bt136 => if (!((((rd_T58 (l ++ marksP) (i : Int)).f0).toList) == bt136.1.toList) || (!((((rd_T58 (l ++ marksP) (i : Int)).f1).toList) == bt136.2.toList))) = true then (some false) else copselaw7_kept.l0 k (l ++ marksP) l ((i + 1 : Nat) : Int)) (fun k => ?_) (Ev.bind (mark_ev _ (by omega)) (Ev.congr (fun k => ?_) hn))
      · simp only [copselaw7_kept.l0]
        rw [if_pos (by omega), if_neg (by omega), if_pos (by omega), if_pos (by omega), w64 (n := (i : Int) - (l.length : Int)) (by omega) (by omega), w64 (n := (i : Int) + 1) (by omega) (by omega), show (i : Int) - (l.length : Int) = ((i - l.length : Nat) : Int) by omega]
        rfl
      · rw [e1, if_neg (by simp)]) (Ev.done fun k => by
    simp only [copselaw7_kept.l0]
    rw [if_neg (by omega), hlen, w64 (by omega) (by omega)]
    simp) 0 (by omega)
  exact h

/-! cuts and pivots of sizes -/
def fineS (l : List Int) : Prop := ∀ z ∈ l, 1 ≤ z ∧ z ≤ 4072
instance (l : List Int) : Decidable (fineS l) := by unfold fineS; exact inferInstance
/-- The sum of the first i. -/
def S (l : List Int) (i : Nat) : Int := (l.take i).sum
theorem S_zero (l : List Int) : S l 0 = 0 := by simp [S]
theorem S_succ (l : List Int) (i : Nat) (h : i < l.length) : S l (i + 1) = S l i + l[i] := by
  unfold S
  rw [← take_snoc l i h, List.sum_append, List.sum_cons, List.sum_nil]
  omega
theorem S_all (l : List Int) (i : Nat) (h : l.length ≤ i) : S l i = l.sum := by
  unfold S
  rw [List.take_of_length_le h]
theorem S_bd (l : List Int) (hf : fineS l) : ∀ i : Nat, 0 ≤ S l i ∧ S l i ≤ 4072 * (i : Int)
  | 0 => by rw [S_zero]; omega
  | i + 1 => by
    have ih := S_bd l hf i
    by_cases h : i < l.length
    · have := hf _ (List.getElem_mem h)
      rw [S_succ l i h]
      omega
    · rw [S_all l (i + 1) (by omega), ← S_all l i (by omega)]
      omega
theorem S_mono (l : List Int) (hf : fineS l) (i : Nat) : ∀ d : Nat, S l i ≤ S l (i + d)
  | 0 => Int.le_refl _
  | d + 1 => by
    have ih := S_mono l hf i d
    by_cases h : i + d < l.length
    · have := hf _ (List.getElem_mem h)
      rw [show i + (d + 1) = i + d + 1 by omega, S_succ l (i + d) h]
      omega
    · rw [S_all l (i + (d + 1)) (by omega), ← S_all l (i + d) (by omega)]
      exact ih
theorem S_le (l : List Int) (hf : fineS l) (i : Nat) (h : i ≤ l.length) : S l i ≤ l.sum := by
  have := S_mono l hf i (l.length - i)
  rwa [show i + (l.length - i) = l.length by omega, S_all l l.length (Nat.le_refl _)] at this
theorem sum_bd (l : List Int) (hf : fineS l) : 0 ≤ l.sum ∧ l.sum ≤ 4072 * (l.length : Int) := by
  have := S_bd l hf l.length
  rwa [S_all l l.length (Nat.le_refl _)] at this
/-- How far apart the two sums are, at place i; s: 0 for a cut, 1 for a pivot. -/
def dist (l : List Int) (s i : Nat) : Int := ((S l i + S l (i + s) - l.sum).natAbs : Int)
/-- The best place so far, and its distance. -/
def bl (l : List Int) (s : Nat) : Nat → Nat × Int
  | 0 => (0, 0)
  | j + 1 => if (bl l s j).1 = 0 ∨ dist l s (j + 1) < (bl l s j).2 then (j + 1, dist l s (j + 1)) else bl l s j
theorem bl_succ (l : List Int) (s j : Nat) : bl l s (j + 1) = if (bl l s j).1 = 0 ∨ dist l s (j + 1) < (bl l s j).2 then (j + 1, dist l s (j + 1)) else bl l s j := rfl
theorem bl_pos (l : List Int) (s : Nat) : ∀ j, (bl l s (j + 1)).1 ≠ 0
  | 0 => by simp [bl]
  | j + 1 => by
    have ih := bl_pos l s j
    rw [bl]
    split
    · simp
    · exact ih
theorem bl_le (l : List Int) (s : Nat) : ∀ j, (bl l s j).1 ≤ j
  | 0 => by simp [bl]
  | j + 1 => by
    have ih := bl_le l s j
    rw [bl]
    split
    · simp
    · omega
theorem dist_bd (l : List Int) (hf : fineS l) (s i : Nat) (h : i + s ≤ l.length) : 0 ≤ dist l s i ∧ dist l s i ≤ 2 * (4072 * (l.length : Int)) := by
  have h1 := S_bd l hf i
  have h2 := S_bd l hf (i + s)
  have h3 := sum_bd l hf
  have h4 := S_le l hf i (by omega)
  have h5 := S_le l hf (i + s) (by omega)
  unfold dist
  omega
def cutv (l : List Int) (s : Nat) : Int × Option Int := if l.length < 2 + s then (0, some 4) else if fineS l then (((bl l s (l.length - 1 - s)).1 : Int), none) else (0, some 1)
theorem unfine {l : List Int} (h : ¬ fineS l) : ∃ i, ∃ hi : i < l.length, ¬ (1 ≤ l[i] ∧ l[i] ≤ 4072) := by
  refine Classical.byContradiction fun hn => h fun p hp => Classical.byContradiction fun hb => hn ?_
  obtain ⟨i, hi, rfl⟩ := List.mem_iff_getElem.1 hp
  exact ⟨i, hi, hb⟩
theorem check_ev (l : List Int) (s : Nat) (hs : s ≤ 1) (hl : l.length ≤ 17592186044000) : Ev (fun k => cells_check.f k l ((2 + s : Nat) : Int)) (if l.length < 2 + s then (0, some 4) else if fineS l then (l.sum, none) else (0, some 1)) := by
  by_cases h1 : l.length < 2 + s
  · rw [if_pos h1]
    exact Ev.const fun k => if_pos (by omega)
  · rw [if_neg h1]
    refine Ev.congr (fun k => if_neg (by omega)) ?_
    have hstep : ∀ i (hi : i < l.length), (1 ≤ l[i] ∧ l[i] ≤ 4072) → (0 ≤ S l i ∧ S l i ≤ 4072 * (i : Int)) → ∀ k, cells_check.l0 (k + 1) (S l i) l (l.length : Int) (i : Int) = cells_check.l0 k (S l (i + 1)) l (l.length : Int) ((i + 1 : Nat) : Int) := fun i hi ho hb k => by
      simp only [cells_check.l0]
      rw [if_pos (by omega), if_pos (by omega), if_pos (by omega), rd_nat l i hi, if_neg (by omega), if_neg (by omega), S_succ l i hi, w64 (by omega) (by omega), w64 (by omega) (by omega)]
      rfl
    by_cases hf : fineS l
    · rw [if_pos hf]
      have := Ev.loop (σ := fun i k => cells_check.l0 k (S l i) l (l.length : Int) (i : Int)) (r := (l.sum, none)) (n := l.length) (fun i hi k => hstep i hi (hf _ (List.getElem_mem hi)) (S_bd l hf i) k) (Ev.done fun k => by
        simp only [cells_check.l0]
        rw [if_neg (by omega), S_all l _ (Nat.le_refl _)]) 0 (by omega)
      rwa [S_zero] at this
    · rw [if_neg hf]
      obtain ⟨i0, hi0, hb0⟩ := unfine hf
      -- the sum may turn over ahead of the bad one only as long as all were sizes
      have hbad : ∀ i (hi : i < l.length) (x : Int), ¬ (1 ≤ l[i] ∧ l[i] ≤ 4072) → Ev (fun k => cells_check.l0 k x l (l.length : Int) (i : Int)) (0, some 1) := fun i hi x ho => Ev.done fun k => by
        simp only [cells_check.l0]
        rw [if_pos (by omega), if_pos (by omega), if_pos (by omega), rd_nat l i hi]
        by_cases c : l[i] < 1
        · rw [if_pos c]
        · rw [if_neg c, if_pos (by omega)]
      have : ∀ d i x, i + d = i0 → Ev (fun k => cells_check.l0 k x l (l.length : Int) (i : Int)) (0, some 1) := by
        intro d
        induction d with
        | zero => intro i x hi; obtain rfl : i = i0 := by omega
                  exact hbad _ hi0 x hb0
        | succ d ih =>
          intro i x hi
          by_cases ho : 1 ≤ l[i]'(by omega) ∧ l[i]'(by omega) ≤ 4072
          · refine Ev.step (fun k => ?_) (ih (i + 1) (wrap64 (x + l[i]'(by omega))) (by omega))
            simp only [cells_check.l0]
            rw [if_pos (by omega), if_pos (by omega), if_pos (by omega), rd_nat l i (by omega), if_neg (by omega), if_neg (by omega), w64 (n := (i : Int) + 1) (by omega) (by omega)]
            rfl
          · exact hbad i (by omega) x ho
      exact this i0 0 0 (by omega)
theorem near_ev (l : List Int) (s : Nat) (hs : s ≤ 1) (hl : l.length ≤ 17592186044000) (hf : fineS l) (h2 : 2 + s ≤ l.length) (g : Int → Int → Int)
    (hg : ∀ i, 1 ≤ i → i + s < l.length → cells_nearest.abs (g (S l i) (rd l (i : Int))) = dist l s i) :
    Ev (fun k => cells_nearest.f g k l ((l.length - 1 - s : Nat) : Int)) ((bl l s (l.length - 1 - s)).1 : Int) := by
  refine Ev.congr (f := fun k => cells_nearest.l g k l ((l.length - 1 - s : Nat) : Int) 0 0 (S l 1) 1) (fun k => ?_) ?_
  · unfold cells_nearest.f
    rw [if_pos (by omega)]
    congr 1
    rw [S_succ l 0 (by omega), S_zero, show (0 : Int) = ((0 : Nat) : Int) from rfl, rd_nat l 0 (by omega)]
    omega
  · have := Ev.loop (σ := fun j k => cells_nearest.l g k l ((l.length - 1 - s : Nat) : Int) ((bl l s j).1 : Int) (bl l s j).2 (S l (j + 1)) ((j + 1 : Nat) : Int)) (r := ((bl l s (l.length - 1 - s)).1 : Int)) (n := l.length - 1 - s) (fun j hj k => by
      have hb1 := S_bd l hf (j + 1)
      have hb2 := S_bd l hf (j + 1 + 1)
      have hn1 : wrap64 (S l (j + 1) + rd l ((j + 1 : Nat) : Int)) = S l (j + 1 + 1) := by
        rw [rd_nat l (j + 1) (by omega), ← S_succ l (j + 1) (by omega), w64 (by omega) (by omega)]
      have hn2 : wrap64 (((j + 1 : Nat) : Int) + 1) = ((j + 1 + 1 : Nat) : Int) := w64 (by omega) (by omega)
      simp only [cells_nearest.l]
      rw [if_pos (by omega), if_pos (by omega), hg (j + 1) (by omega) (by omega), hn1, hn2]
      rw [bl]
      by_cases c : (bl l s j).1 = 0 ∨ dist l s (j + 1) < (bl l s j).2
      · rw [if_pos c, if_pos (by omega)]
      · rw [if_neg c, if_neg (by omega)]) (Ev.done fun k => by
      simp only [cells_nearest.l]
      rw [if_neg (by omega)]) 0 (by omega)
    exact this
theorem abs_wrap (x : Int) (h0 : -4611686018427387904 ≤ x) (h1 : x < 4611686018427387904) : cells_nearest.abs x = (x.natAbs : Int) := by
  unfold cells_nearest.abs
  split
  · rw [w64 (by omega) (by omega)]
    omega
  · omega
theorem Cut_ev (l : List Int) (hl : l.length ≤ 17592186044000) : Ev (fun k => cells_Cut.f k l) (cutv l 0) := by
  unfold cutv
  refine Ev.bind (check_ev l 0 (by omega) hl) ?_
  by_cases h1 : l.length < 2 + 0
  · rw [if_pos h1, if_pos h1]
    exact Ev.const fun k => rfl
  · rw [if_neg h1, if_neg h1]
    by_cases hf : fineS l
    · rw [if_pos hf, if_pos hf]
      refine Ev.congr (f := fun k => (cells_nearest.f (fun ah ow => wrap64 (wrap64 (2 * ah) - l.sum)) k l ((l.length - 1 - 0 : Nat) : Int)).bind fun n => some (n, none)) (fun k => ?_) (Ev.bind (near_ev l 0 (by omega) hl hf (by omega) _ (fun i hi1 hi2 => ?_)) (Ev.const fun k => rfl))
      · simp only [Option.isNone_none, ↓reduceIte]
        rw [w64 (by omega) (by omega), show (l.length : Int) - 1 = ((l.length - 1 - 0 : Nat) : Int) by omega]
      · have b1 := S_bd l hf i
        have b2 := sum_bd l hf
        rw [w64 (n := 2 * S l i) (by omega) (by omega), w64 (by omega) (by omega), abs_wrap _ (by omega) (by omega)]
        unfold dist
        rw [Nat.add_zero]
        congr 1
        congr 1
        omega
    · rw [if_neg hf, if_neg hf]
      exact Ev.const fun k => rfl

theorem Rfine_ev (l : List Int) (hl : l.length ≤ 17592186044000) : Ev (fun k => copseref6_fine.f k l) (decide (fineS l)) := by
  have hstep : ∀ i (hi : i < l.length), (1 ≤ l[i] ∧ l[i] ≤ 4072) → ∀ k, copseref6_fine.l0 (k + 1) l (i : Int) = copseref6_fine.l0 k l ((i + 1 : Nat) : Int) := fun i hi ho k => by
    simp only [copseref6_fine.l0]
    rw [if_pos (by omega), if_pos (by omega), rd_nat l i hi, if_neg (by omega), if_neg (by omega), w64 (by omega) (by omega)]
    rfl
  by_cases hf : fineS l
  · rw [decide_eq_true hf]
    exact Ev.loop (σ := fun i k => copseref6_fine.l0 k l (i : Int)) (r := true) (n := l.length) (fun i hi k => hstep i hi (hf _ (List.getElem_mem hi)) k) (Ev.done fun k => by
      simp only [copseref6_fine.l0]
      rw [if_neg (by omega)]) 0 (by omega)
  · rw [decide_eq_false hf]
    obtain ⟨i0, hi0, hb0⟩ := unfine hf
    have hbad : ∀ i (hi : i < l.length), ¬ (1 ≤ l[i] ∧ l[i] ≤ 4072) → Ev (fun k => copseref6_fine.l0 k l (i : Int)) false := fun i hi ho => Ev.done fun k => by
      simp only [copseref6_fine.l0]
      rw [if_pos (by omega), if_pos (by omega), rd_nat l i hi]
      by_cases c : l[i] < 1
      · rw [if_pos c]
      · rw [if_neg c, if_pos (by omega)]
    refine Ev.loop' (σ := fun i k => copseref6_fine.l0 k l (i : Int)) (r := false) (n := i0) (fun i hi hn => ?_) (hbad i0 hi0 hb0) 0 (by omega)
    by_cases ho : 1 ≤ l[i] ∧ l[i] ≤ 4072
    · exact Ev.step (fun k => hstep i (by omega) ho k) hn
    · exact hbad i (by omega) ho
theorem Rsum_ev (l : List Int) (hl : l.length ≤ 17592186044000) (hf : fineS l) (a b : Nat) (hab : a ≤ b) (hb : b ≤ l.length) : Ev (fun k => copseref6_sum.f k l (a : Int) (b : Int)) (S l b - S l a) := by
  have := Ev.loop (σ := fun i k => copseref6_sum.l0 k l (b : Int) (S l (a + i) - S l a) ((a + i : Nat) : Int)) (r := S l b - S l a) (n := b - a) (fun i hi k => by
    have b0 := S_bd l hf a
    have b1 := S_bd l hf (a + i)
    have b2 := S_bd l hf (a + i + 1)
    have e := S_succ l (a + i) (by omega)
    simp only [copseref6_sum.l0]
    rw [if_pos (by omega), if_pos (by omega), if_pos (by omega), rd_nat l (a + i) (by omega), show S l (a + i) - S l a + l[a + i]'(by omega) = S l (a + i + 1) - S l a by omega, w64 (n := S l (a + i + 1) - S l a) (by omega) (by omega), w64 (by omega) (by omega)]
    rfl) (Ev.done fun k => by
    simp only [copseref6_sum.l0]
    rw [if_neg (by omega), show a + (b - a) = b by omega]) 0 (by omega)
  rw [Nat.add_zero, Int.sub_self] at this
  exact this
theorem Rapart (a b : Int) (h0 : -4611686018427387904 ≤ a - b) (h1 : a - b < 4611686018427387904) : copseref6_apart.f a b = some (((a - b).natAbs : Nat) : Int) := by
  unfold copseref6_apart.f
  split
  · rw [w64 (by omega) (by omega)]
    congr 1
    omega
  · rw [w64 (by omega) (by omega)]
    congr 1
    omega
theorem rn_w1 (j : Nat) (h : j ≤ 17592186044000) : wrap64 (((j + 2 : Nat) : Int) - 1) = ((j + 1 : Nat) : Int) := by rw [w64 (by omega) (by omega)]; omega
theorem rn_w2 (j s : Nat) (h : j ≤ 17592186044000) (hs : s ≤ 1) : wrap64 (((j + 1 : Nat) : Int) + (s : Int)) = ((j + 1 + s : Nat) : Int) := by rw [w64 (by omega) (by omega)]; omega
theorem rn_w5 (j : Nat) (h : j ≤ 17592186044000) : wrap64 (((j + 2 : Nat) : Int) + 1) = ((j + 1 + 2 : Nat) : Int) := by rw [w64 (by omega) (by omega)]; omega
theorem rn_w3 (l : List Int) (hf : fineS l) (hl : l.length ≤ 17592186044000) (i : Nat) (h : i < l.length) : wrap64 (S l i + l[i]) = S l (i + 1) := by
  have b := S_bd l hf (i + 1)
  rw [← S_succ l i h, w64 (by omega) (by omega)]
theorem rn_w4 (l : List Int) (hf : fineS l) (hl : l.length ≤ 17592186044000) (i : Nat) (h : i < l.length) : wrap64 (l.sum - S l i - l[i]) = l.sum - S l (i + 1) := by
  have b := S_bd l hf (i + 1)
  have b5 := sum_bd l hf
  rw [show l.sum - S l i - l[i] = l.sum - S l (i + 1) by rw [S_succ l i h]; omega, w64 (by omega) (by omega)]
theorem Rnear_ev (l : List Int) (s : Nat) (hs : s ≤ 1) (hl : l.length ≤ 17592186044000) (hf : fineS l) (h2 : 2 + s ≤ l.length) :
    Ev (fun k => copseref6_nearest.f k l ((l.length - 1 - s : Nat) : Int) (s : Int)) ((bl l s (l.length - 1 - s)).1 : Int) := by
  have hd : ∀ i, i + s ≤ l.length → copseref6_apart.f (S l i) (l.sum - S l (i + s)) = some (dist l s i) := fun i hi => by
    have b1 := S_bd l hf i
    have b2 := S_bd l hf (i + s)
    have b3 := sum_bd l hf
    rw [Rapart _ _ (by omega) (by omega)]
    unfold dist
    congr 2
    omega
  unfold copseref6_nearest.f
  have s1 := Rsum_ev l hl hf 0 1 (by omega) (by omega)
  have s2 := Rsum_ev l hl hf (1 + s) l.length (by omega) (by omega)
  rw [S_zero, Int.sub_zero] at s1
  rw [S_all l l.length (Nat.le_refl _)] at s2
  refine Ev.bind s1 ?_
  refine Ev.congr (f := fun k => (copseref6_sum.f k l ((1 + s : Nat) : Int) (l.length : Int)).bind fun t109 => ((copseref6_apart.f (S l 1) t109).bind fun t110 => (copseref6_nearest.l0 k l ((l.length - 1 - s : Nat) : Int) (s : Int) 1 (S l 1) t109 t110 2))) (fun k => ?_) (Ev.bind s2 (Ev.bindc (hd 1 (by omega)) ?_))
  · rw [w64 (by omega) (by omega), show (1 : Int) + (s : Int) = ((1 + s : Nat) : Int) by omega]
  · have := Ev.loop (σ := fun j k => copseref6_nearest.l0 k l ((l.length - 1 - s : Nat) : Int) (s : Int) ((bl l s (j + 1)).1 : Int) (S l (j + 1)) (l.sum - S l (j + 1 + s)) (bl l s (j + 1)).2 ((j + 2 : Nat) : Int)) (r := ((bl l s (l.length - 1 - s)).1 : Int)) (n := l.length - 2 - s) (fun j hj k => by
      have c0 : j ≤ 17592186044000 := by omega
      have c9 : j + 1 + s + 1 = j + 1 + 1 + s := by omega
      have c1 : ((j + 2 : Nat) : Int) ≤ ((l.length - 1 - s : Nat) : Int) := by omega
      have c2 : 0 ≤ ((j + 1 : Nat) : Int) := by omega
      have c3 : ((j + 1 : Nat) : Int) < (l.length : Int) := by omega
      have c4 : 0 ≤ ((j + 1 + s : Nat) : Int) := by omega
      have c5 : ((j + 1 + s : Nat) : Int) < (l.length : Int) := by omega
      have c6 : j + 1 < l.length := by omega
      have c7 : j + 1 + s < l.length := by omega
      have c8 : j + 1 + 1 + s ≤ l.length := by omega
      have w1 := rn_w1 j c0
      have w2 := rn_w2 j s c0 hs
      have w3 := rn_w3 l hf hl (j + 1) c6
      have w4 := rn_w4 l hf hl (j + 1 + s) c7
      have w5 := rn_w5 j c0
      rw [c9] at w4
      simp only [copseref6_nearest.l0, w1, w2]
      rw [if_pos c1, if_pos c2, if_pos c3, if_pos c4, if_pos c5, rd_nat l (j + 1) c6, rd_nat l (j + 1 + s) c7, w3, w4, hd (j + 1 + 1) c8, Option.bind_some, w5]
      rw [bl_succ l s (j + 1)]
      have hp := bl_pos l s j
      by_cases c : dist l s (j + 1 + 1) < (bl l s (j + 1)).2
      · rw [if_pos c, if_pos (.inr c)]
      · rw [if_neg c, if_neg (fun h => h.elim hp c)]) (Ev.done fun k => by
      simp only [copseref6_nearest.l0]
      rw [if_neg (by omega), show l.length - 2 - s + 1 = l.length - 1 - s by omega]) 0 (by omega)
    have e : bl l s (0 + 1) = (1, dist l s 1) := by simp [bl]
    rw [e] at this
    rw [show 1 + s = 0 + 1 + s by omega]
    exact this
def rcutv (l : List Int) (s : Nat) : Int × Int := if l.length < 2 + s then (0, 4) else if fineS l then (((bl l s (l.length - 1 - s)).1 : Int), 0) else (0, 1)
theorem RCut_ev (l : List Int) (hl : l.length ≤ 17592186044000) : Ev (fun k => copseref6_Cut.f k l) (rcutv l 0) := by
  unfold rcutv copseref6_Cut.f
  by_cases h1 : l.length < 2 + 0
  · rw [if_pos h1]
    exact Ev.const fun k => if_pos (by omega)
  · rw [if_neg h1]
    refine Ev.congr (fun k => if_neg (by omega)) (Ev.bind (Rfine_ev l hl) ?_)
    by_cases hf : fineS l
    · rw [if_pos hf]
      refine Ev.congr (f := fun k => (copseref6_nearest.f k l ((l.length - 1 - 0 : Nat) : Int) ((0 : Nat) : Int)).bind fun n => some (n, 0)) (fun k => ?_) (Ev.bind (Rnear_ev l 0 (by omega) hl hf (by omega)) (Ev.const fun k => rfl))
      rw [if_pos (decide_eq_true hf), w64 (by omega) (by omega), show (l.length : Int) - 1 = ((l.length - 1 - 0 : Nat) : Int) by omega]
      rfl
    · rw [if_neg hf]
      exact Ev.const fun k => if_neg (by simp [hf])
theorem cut_num (l : List Int) (s : Nat) : copsekit_Num.f (cutv l s).2 = some (rcutv l s).2 ∧ (cutv l s).1 = (rcutv l s).1 := by
  unfold cutv rcutv
  by_cases h1 : l.length < 2 + s
  · rw [if_pos h1, if_pos h1]; simp [copsekit_Num.f, en]
  rw [if_neg h1, if_neg h1]
  by_cases hf : fineS l
  · rw [if_pos hf, if_pos hf]; simp [copsekit_Num.f]
  · rw [if_neg hf, if_neg hf]; simp [copsekit_Num.f, en]

theorem SamePairs_ev (l : List S58) (hl : l.length ≤ 140737488351232) : Ev (fun k => copseref0_SamePairs.f k l l) true := by
  have h := Ev.loop (σ := fun i k => copseref0_SamePairs.l0 k l l (i : Int)) (r := true) (n := l.length) (fun i hi k => by
    simp only [copseref0_SamePairs.l0]
    rw [if_pos (by omega), if_pos (by omega), if_pos (by omega), if_neg (by simp), w64 (by omega) (by omega)]
    rfl) (Ev.done fun k => by
    simp only [copseref0_SamePairs.l0]
    rw [if_neg (by omega)]) 0 (by omega)
  exact Ev.congr (fun k => by simp [copseref0_SamePairs.f]) h

/-! how pairs are cut -/
def costW (p : S58) : Int := wrap64 (wrap64 (5 + (p.f0.size : Int)) + (p.f1.size : Int))
def csz (l : List S58) : List Int := l.map costW
theorem csz_len (l : List S58) : (csz l).length = l.length := List.length_map _
theorem csz_snoc (l : List S58) (p : S58) : csz (l ++ [p]) = csz l ++ [costW p] := by simp [csz]
theorem cutv_bd (l : List Int) (s : Nat) : 0 ≤ (cutv l s).1 ∧ (cutv l s).1 ≤ (l.length : Int) := by
  have := bl_le l s (l.length - 1 - s)
  unfold cutv
  split
  · simp
  · split
    · simp only []
      omega
    · simp
def lcut (l : List S58) : List S58 × List S58 × Option Int := if (cutv (csz l) 0).2.isNone = true then (l.take (cutv (csz l) 0).1.toNat, l.drop (cutv (csz l) 0).1.toNat, none) else ([], [], (cutv (csz l) 0).2)
theorem LCut_ev (l : List S58) (hl : l.length * 32 ≤ 140737488351232) : Ev (fun k => leaf_Cut.f k l) (lcut l) := by
  have hc := Cut_ev (csz l) (by rw [csz_len]; omega)
  have hb := cutv_bd (csz l) 0
  rw [csz_len] at hb
  have h0 := Ev.loop (σ := fun i k => leaf_Cut.l0 k l (csz (l.take i)) l (l.length : Int) (i : Int)) (r := lcut l) (n := l.length) (fun i hi k => by
    have hlen : (csz (l.take i)).length = i := by rw [csz_len, List.length_take]; omega
    simp only [leaf_Cut.l0, leaf_cost.f, Option.bind_some]
    rw [if_pos (by omega), if_pos (by omega), if_pos (by omega), if_pos (by omega), rdp l i hi, show wrap64 (wrap64 (5 + (l[i].f0.size : Int)) + (l[i].f1.size : Int)) = costW l[i] from rfl, ← csz_snoc, take_snoc l i hi, w64 (by omega) (by omega)]
    rfl) (by
    rw [List.take_of_length_le (Nat.le_refl _)]
    unfold lcut
    generalize hcv : cutv (csz l) 0 = c at hc hb
    obtain ⟨n, e⟩ := c
    refine Ev.step (f := fun k => (cells_Cut.f k (csz l)).bind fun bt140 => (if bt140.2.isNone = true then (if 0 ≤ bt140.1 then (if bt140.1 ≤ (l.length : Int) then ((some (l.take (bt140.1 : Int).toNat : List (S58))).bind fun y143 => (if ([] : List (S58)).length + y143.length < 4398046511104 then ((some (l.drop (bt140.1 : Int).toNat : List (S58))).bind fun y150 => (if ([] : List (S58)).length + y150.length < 4398046511104 then (some ((([] : List (S58)) ++ y143), (([] : List (S58)) ++ y150), none)) else (none))) else (none))) else (none)) else (none)) else (some (([] : List (S58)), ([] : List (S58)), some (bt140.2.getD 0))))) (fun k => ?_) (Ev.bind hc (Ev.const fun k => ?_))
    · simp only [leaf_Cut.l0]
      rw [if_neg (by omega)]
    · simp only [] at hb
      have l1 : (l.take n.toNat).length < 4398046511104 := by rw [List.length_take]; omega
      have l2 : (l.drop n.toNat).length < 4398046511104 := by rw [List.length_drop]; omega
      rcases e with _ | q
      · simp only [Option.isNone_none, ↓reduceIte, Option.bind_some, List.length_nil, Nat.zero_add, List.nil_append]
        rw [if_pos hb.1, if_pos hb.2, if_pos l1, if_pos l2]
      · simp) 0 (by omega)
  exact h0

def rlcut (l : List S58) : List S58 × List S58 × Int := if (rcutv (csz l) 0).2 = 0 then (l.take (rcutv (csz l) 0).1.toNat, l.drop (rcutv (csz l) 0).1.toNat, 0) else ([], [], (rcutv (csz l) 0).2)
theorem RLCut_ev (l : List S58) (hl : l.length * 32 ≤ 140737488351232) : Ev (fun k => copseref7_Cut.f k l) (rlcut l) := by
  have hc := RCut_ev (csz l) (by rw [csz_len]; omega)
  have hb := cutv_bd (csz l) 0
  rw [csz_len, (cut_num (csz l) 0).2] at hb
  have h1 : Ev (fun k => copseref7_Cut.l1 k l (rcutv (csz l) 0).1 ([] : List (S58)) ([] : List (S58)) 0) (l.take (rcutv (csz l) 0).1.toNat, l.drop (rcutv (csz l) 0).1.toNat, 0) := by
    obtain ⟨N, hN⟩ : ∃ N : Nat, (rcutv (csz l) 0).1 = (N : Int) := ⟨(rcutv (csz l) 0).1.toNat, by omega⟩
    rw [hN] at hb ⊢
    rw [Int.toNat_natCast]
    have := Ev.loop (σ := fun i k => copseref7_Cut.l1 k l (N : Int) ((l.take N).take i) ((l.drop N).take (i - N)) (i : Int)) (r := (l.take N, l.drop N, 0)) (n := l.length) (fun i hi k => by
      have e1 : ((l.take N).take i).length ≤ i := by rw [List.length_take]; omega
      have e2 : ((l.drop N).take (i - N)).length ≤ i := by rw [List.length_take]; omega
      simp only [copseref7_Cut.l1]
      rw [if_pos (by omega)]
      by_cases c : i < N
      · have hlt : i < (l.take N).length := by rw [List.length_take]; omega
        have e3 : (l.take N).take i ++ [l[i]] = (l.take N).take (i + 1) := by rw [← take_snoc (l.take N) i hlt, List.getElem_take]
        rw [if_pos (by omega), if_pos (by omega), if_pos (by omega), rdp l i hi, w64 (by omega) (by omega), e3, show i + 1 - N = i - N by omega]
        rfl
      · have hlt : i - N < (l.drop N).length := by rw [List.length_drop]; omega
        have e3 : (l.drop N).take (i - N) ++ [l[i]] = (l.drop N).take (i + 1 - N) := by
          rw [show i + 1 - N = i - N + 1 by omega, ← take_snoc (l.drop N) (i - N) hlt, List.getElem_drop]
          congr 3
          omega
        rw [if_neg (by omega), if_pos (by omega), if_pos (by omega), rdp l i hi, w64 (by omega) (by omega), e3, List.take_of_length_le (l := l.take N) (by rw [List.length_take]; omega), List.take_of_length_le (l := l.take N) (by rw [List.length_take]; omega)]
        rfl) (Ev.done fun k => by
      simp only [copseref7_Cut.l1]
      rw [if_neg (by omega), List.take_of_length_le (l := l.take N) (by rw [List.length_take]; omega), List.take_of_length_le (l := l.drop N) (by rw [List.length_drop]; omega)]) 0 (by omega)
    simpa using this
  have h0 := Ev.loop (σ := fun i k => copseref7_Cut.l0 k l (csz (l.take i)) (i : Int)) (r := rlcut l) (n := l.length) (fun i hi k => by
    have hlen : (csz (l.take i)).length = i := by rw [csz_len, List.length_take]; omega
    simp only [copseref7_Cut.l0]
    rw [if_pos (by omega), if_pos (by omega), if_pos (by omega), rdp l i hi, show wrap64 (wrap64 (5 + (l[i].f0.size : Int)) + (l[i].f1.size : Int)) = costW l[i] from rfl, ← csz_snoc, take_snoc l i hi, w64 (by omega) (by omega)]
    rfl) (by
    rw [List.take_of_length_le (Nat.le_refl _)]
    unfold rlcut
    refine Ev.step (f := fun k => (copseref6_Cut.f k (csz l)).bind fun bt173 => (if bt173.2 = 0 then (copseref7_Cut.l1 k l bt173.1 ([] : List (S58)) ([] : List (S58)) 0) else (some (([] : List (S58)), ([] : List (S58)), bt173.2)))) (fun k => ?_) (Ev.bind hc ?_)
    · simp only [copseref7_Cut.l0]
      rw [if_neg (by omega)]
    · by_cases c : (rcutv (csz l) 0).2 = 0
      · rw [if_pos c]
        exact Ev.congr (fun k => if_pos c) h1
      · rw [if_neg c]
        exact Ev.const fun k => if_neg c) 0 (by omega)
  exact h0
theorem lcut_num (l : List S58) : copsekit_Num.f (lcut l).2.2 = some (rlcut l).2.2 ∧ (lcut l).1 = (rlcut l).1 ∧ (lcut l).2.1 = (rlcut l).2.1 := by
  unfold lcut rlcut cutv rcutv
  by_cases h1 : (csz l).length < 2 + 0
  · rw [if_pos h1, if_pos h1]; simp [copsekit_Num.f, en]
  rw [if_neg h1, if_neg h1]
  by_cases hf : fineS (csz l)
  · rw [if_pos hf, if_pos hf]; simp [copsekit_Num.f]
  · rw [if_neg hf, if_neg hf]; simp [copsekit_Num.f, en]

theorem pure_side : ∀ (l0_0 : List S58) (a0_1 : ByteArray) (a0_2 : ByteArray) (a0_3 : Bool), (l0_0.length * 32 ≤ 140737488351232 ∧ ∀ z ∈ l0_0, (z.f0.size ≤ 140737488351232 ∧ z.f1.size ≤ 140737488351232)) → a0_1.size ≤ 140737488351232 → a0_2.size ≤ 140737488351232 → ∃ k, copselaw7_LeafCuts.f k l0_0 a0_1 a0_2 a0_3 = some true := by
  intro l key val root hl _ _
  refine Ev.rounds (g := fun k => copselaw7_LeafCuts.f k l key val root) ?_
  have hl := hl.1
  have hlen : (l ++ marksP).length = l.length + 64 := by rw [List.length_append, marksP_len]
  have ht : (l ++ marksP).take ((l.length : Int) : Int).toNat = l := by rw [Int.toNat_natCast, List.take_append_of_le_length (by omega), List.take_of_length_le (by omega)]
  obtain ⟨n1, n2, n3⟩ := lcut_num l
  have b1 : (rlcut l).1.length ≤ 140737488351232 := by unfold rlcut; split <;> simp <;> omega
  have b2 : (rlcut l).2.1.length ≤ 140737488351232 := by unfold rlcut; split <;> simp <;> omega
  unfold copselaw7_LeafCuts.f
  refine Ev.bind (pairs_ev l hl) ?_
  refine Ev.congr (f := fun k => (leaf_Cut.f k l).bind fun bt193 => ((copselaw7_kept.f k (l ++ marksP) l).bind fun t200 => ((copseref7_Cut.f k l).bind fun bt201 => ((copseref0_SamePairs.f k bt193.1 bt201.1).bind fun t208 => ((copseref0_SamePairs.f k bt193.2.1 bt201.2.1).bind fun t209 => (if t200 = true then (if t208 = true then (if t209 = true then ((copsekit_Num.f bt193.2.2).bind fun t210 => (some (t210 == bt201.2.2))) else (some false)) else (some false)) else (some false))))))) (fun k => ?_) ?_
  · rw [if_pos (by omega), if_pos (by omega), ht]
  · refine Ev.bind (LCut_ev l hl) (Ev.bind (kept_ev l hl) (Ev.bind (RLCut_ev l hl) ?_))
    rw [n2, n3]
    refine Ev.bind (SamePairs_ev _ b1) (Ev.bind (SamePairs_ev _ b2) (Ev.const fun k => ?_))
    rw [if_pos rfl, if_pos rfl, if_pos rfl, n1]
    simp
end Go.Proofs.YtdailhlghlledaaDoor.XLeafCuts
