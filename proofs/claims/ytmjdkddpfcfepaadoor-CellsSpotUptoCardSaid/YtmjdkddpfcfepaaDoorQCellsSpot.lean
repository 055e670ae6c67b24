/- The pure side of CellsSpot (upto). -/
import Derived.Test.YtmjdkddpfcfepaaDoorXCellsSpotx
import Derived.Laws.BitsLemmas
set_option linter.unusedVariables false
set_option linter.unusedSimpArgs false
namespace Go.Proofs.YtmjdkddpfcfepaaDoor.XCellsSpot
open Go.RowKit Go.Proofs.YtmjdkddpfcfepaaDoorW.PrintWords Go.Proofs.YtmjdkddpfcfepaaDoorW.PrintLast
theorem w64 {n : Int} (h0 : -9223372036854775808 ≤ n) (h1 : n < 9223372036854775808) : wrap64 n = n := by unfold wrap64; omega
theorem Ev.loop {α : Type} {σ : Nat → Nat → Option α} {r : α} {n : Nat} (h : ∀ i, i < n → ∀ k, σ i (k + 1) = σ (i + 1) k) (he : Ev (σ n) r) : ∀ i, i ≤ n → Ev (σ i) r := by
  have : ∀ d i, i + d = n → Ev (σ i) r := by
    intro d
    induction d with
    | zero => intro i hi; obtain rfl : i = n := by omega
              exact he
    | succ d ih => intro i hi; exact Ev.step (h i (by omega)) (ih (i + 1) (by omega))
  intro i hi
  exact this (n - i) i (by omega)
theorem Ev.loop' {α : Type} {σ : Nat → Nat → Option α} {r : α} {n : Nat} (h : ∀ i, i < n → Ev (σ (i + 1)) r → Ev (σ i) r) (he : Ev (σ n) r) : ∀ i, i ≤ n → Ev (σ i) r := by
  have : ∀ d i, i + d = n → Ev (σ i) r := by
    intro d
    induction d with
    | zero => intro i hi; obtain rfl : i = n := by omega
              exact he
    | succ d ih => intro i hi; exact h i (by omega) (ih (i + 1) (by omega))
  intro i hi
  exact this (n - i) i (by omega)
theorem Ev.done {α : Type} {g : Nat → Option α} {r : α} (h : ∀ k, g (k + 1) = some r) : Ev g r := Ev.step h (Ev.now r)
theorem Ev.const {α : Type} {g : Nat → Option α} {r : α} (h : ∀ k, g k = some r) : Ev g r := ⟨0, fun k _ => h k⟩
theorem Ev.bindc {α β : Type} {o : Option α} {f : Nat → α → Option β} {a : α} {r : β} (h : o = some a) (k : Ev (fun n => f n a) r) : Ev (fun n => o.bind (f n)) r := by subst h; exact k
theorem bt_nat (s : ByteArray) (i : Nat) (h : i < s.size) : bt s (i : Int) = (bytesOf s)[i]'(by rw [bytesOf_length]; exact h) := by
  unfold bt bytesOf
  rw [dif_pos (by simpa using h)]
  simp only [Int.toNat_natCast, List.getElem_map, Array.getElem_toList]
  rfl
theorem rd_nat (l : List Int) (i : Nat) (h : i < l.length) : rd l (i : Int) = l[i] := by
  unfold rd
  rw [Int.toNat_natCast, List.getD_eq_getElem?_getD, List.getElem?_eq_getElem h]
  rfl
theorem bytesOf_range (s : ByteArray) : ∀ z ∈ bytesOf s, 0 ≤ z ∧ z < 256 := by
  intro z hz
  unfold bytesOf at hz
  obtain ⟨b, _, rfl⟩ := List.mem_map.1 hz
  have := b.toNat_lt
  omega
theorem take_snoc {α : Type} (l : List α) (i : Nat) (h : i < l.length) : l.take i ++ [l[i]] = l.take (i + 1) := by
  rw [List.take_succ_eq_append_getElem h]
theorem rd_getD (l : List Int) (i : Nat) : rd l (i : Int) = l.getD i 0 := by unfold rd; rw [Int.toNat_natCast]
theorem rd_left (l m : List Int) (i : Nat) (h : i < l.length) : rd (l ++ m) (i : Int) = rd l (i : Int) := by
  rw [rd_getD, rd_getD, List.getD_eq_getElem?_getD, List.getD_eq_getElem?_getD, List.getElem?_append_left h]
theorem rd_right (l m : List Int) (i : Nat) (h : l.length ≤ i) : rd (l ++ m) (i : Int) = rd m ((i - l.length : Nat) : Int) := by
  rw [rd_getD, rd_getD, List.getD_eq_getElem?_getD, List.getD_eq_getElem?_getD, List.getElem?_append_right h]
theorem rd_drop0 (l : List Int) (i : Nat) (h : i < l.length) : rd (l.drop i) ((0 : Nat) : Int) = l[i] := by
  rw [List.drop_eq_getElem_cons h]; rfl

/-! cuts and pivots of sizes -/
def fineS (l : List Int) : Prop := ∀ z ∈ l, 1 ≤ z ∧ z ≤ 4072
instance (l : List Int) : Decidable (fineS l) := by unfold fineS; exact inferInstance
/-- The sum of the first i. -/
def S (l : List Int) (i : Nat) : Int := (l.take i).sum
theorem S_zero (l : List Int) : S l 0 = 0 := by simp [S]
theorem S_succ (l : List Int) (i : Nat) (h : i < l.length) : S l (i + 1) = S l i + l[i] := by
  unfold S
  rw [← take_snoc l i h, List.sum_append, List.sum_cons, List.sum_nil]
  omega
theorem S_all (l : List Int) (i : Nat) (h : l.length ≤ i) : S l i = l.sum := by
  unfold S
  rw [List.take_of_length_le h]
theorem S_bd (l : List Int) (hf : fineS l) : ∀ i : Nat, 0 ≤ S l i ∧ S l i ≤ 4072 * (i : Int)
  | 0 => by rw [S_zero]; omega
  | i + 1 => by
    have ih := S_bd l hf i
    by_cases h : i < l.length
    · have := hf _ (List.getElem_mem h)
      rw [S_succ l i h]
      omega
    · rw [S_all l (i + 1) (by omega), ← S_all l i (by omega)]
      omega
theorem S_mono (l : List Int) (hf : fineS l) (i : Nat) : ∀ d : Nat, S l i ≤ S l (i + d)
  | 0 => Int.le_refl _
  | d + 1 => by
    have ih := S_mono l hf i d
    by_cases h : i + d < l.length
    · have := hf _ (List.getElem_mem h)
      rw [show i + (d + 1) = i + d + 1 by omega, S_succ l (i + d) h]
      omega
    · rw [S_all l (i + (d + 1)) (by omega), ← S_all l (i + d) (by omega)]
      exact ih
theorem S_le (l : List Int) (hf : fineS l) (i : Nat) (h : i ≤ l.length) : S l i ≤ l.sum := by
  have := S_mono l hf i (l.length - i)
  rwa [show i + (l.length - i) = l.length by omega, S_all l l.length (Nat.le_refl _)] at this
theorem sum_bd (l : List Int) (hf : fineS l) : 0 ≤ l.sum ∧ l.sum ≤ 4072 * (l.length : Int) := by
  have := S_bd l hf l.length
  rwa [S_all l l.length (Nat.le_refl _)] at this
/-- How far apart the two sums are, at place i; s: 0 for a cut, 1 for a pivot. -/
def dist (l : List Int) (s i : Nat) : Int := ((S l i + S l (i + s) - l.sum).natAbs : Int)
/-- The best place so far, and its distance. -/
def bl (l : List Int) (s : Nat) : Nat → Nat × Int
  | 0 => (0, 0)
  | j + 1 => if (bl l s j).1 = 0 ∨ dist l s (j + 1) < (bl l s j).2 then (j + 1, dist l s (j + 1)) else bl l s j
theorem bl_succ (l : List Int) (s j : Nat) : bl l s (j + 1) = if (bl l s j).1 = 0 ∨ dist l s (j + 1) < (bl l s j).2 then (j + 1, dist l s (j + 1)) else bl l s j := rfl
theorem bl_pos (l : List Int) (s : Nat) : ∀ j, (bl l s (j + 1)).1 ≠ 0
  | 0 => by simp [bl]
  | j + 1 => by
    have ih := bl_pos l s j
    rw [bl]
    split
    · simp
    · exact ih
theorem bl_le (l : List Int) (s : Nat) : ∀ j, (bl l s j).1 ≤ j
  | 0 => by simp [bl]
  | j + 1 => by
    have ih := bl_le l s j
    rw [bl]
    split
    · simp
    · omega
theorem dist_bd (l : List Int) (hf : fineS l) (s i : Nat) (h : i + s ≤ l.length) : 0 ≤ dist l s i ∧ dist l s i ≤ 2 * (4072 * (l.length : Int)) := by
  have h1 := S_bd l hf i
  have h2 := S_bd l hf (i + s)
  have h3 := sum_bd l hf
  have h4 := S_le l hf i (by omega)
  have h5 := S_le l hf (i + s) (by omega)
  unfold dist
  omega
def cutv (l : List Int) (s : Nat) : Int × Option Int := if l.length < 2 + s then (0, some 4) else if fineS l then (((bl l s (l.length - 1 - s)).1 : Int), none) else (0, some 1)
theorem unfine {l : List Int} (h : ¬ fineS l) : ∃ i, ∃ hi : i < l.length, ¬ (1 ≤ l[i] ∧ l[i] ≤ 4072) := by
  refine Classical.byContradiction fun hn => h fun p hp => Classical.byContradiction fun hb => hn ?_
  obtain ⟨i, hi, rfl⟩ := List.mem_iff_getElem.1 hp
  exact ⟨i, hi, hb⟩
theorem check_ev (l : List Int) (s : Nat) (hs : s ≤ 1) (hl : l.length ≤ 17592186044000) : Ev (fun k => cells_check.f k l ((2 + s : Nat) : Int)) (if l.length < 2 + s then (0, some 4) else if fineS l then (l.sum, none) else (0, some 1)) := by
  by_cases h1 : l.length < 2 + s
  · rw [if_pos h1]
    exact Ev.const fun k => if_pos (by omega)
  · rw [if_neg h1]
    refine Ev.congr (fun k => if_neg (by omega)) ?_
    have hstep : ∀ i (hi : i < l.length), (1 ≤ l[i] ∧ l[i] ≤ 4072) → (0 ≤ S l i ∧ S l i ≤ 4072 * (i : Int)) → ∀ k, cells_check.l0 (k + 1) (S l i) l (l.length : Int) (i : Int) = cells_check.l0 k (S l (i + 1)) l (l.length : Int) ((i + 1 : Nat) : Int) := fun i hi ho hb k => by
      simp only [cells_check.l0]
      rw [if_pos (by omega), if_pos (by omega), if_pos (by omega), rd_nat l i hi, if_neg (by omega), if_neg (by omega), S_succ l i hi, w64 (by omega) (by omega), w64 (by omega) (by omega)]
      rfl
    by_cases hf : fineS l
    · rw [if_pos hf]
      have := Ev.loop (σ := fun i k => cells_check.l0 k (S l i) l (l.length : Int) (i : Int)) (r := (l.sum, none)) (n := l.length) (fun i hi k => hstep i hi (hf _ (List.getElem_mem hi)) (S_bd l hf i) k) (Ev.done fun k => by
        simp only [cells_check.l0]
        rw [if_neg (by omega), S_all l _ (Nat.le_refl _)]) 0 (by omega)
      rwa [S_zero] at this
    · rw [if_neg hf]
      obtain ⟨i0, hi0, hb0⟩ := unfine hf
      -- the sum may turn over ahead of the bad one only as long as all were sizes
      have hbad : ∀ i (hi : i < l.length) (x : Int), ¬ (1 ≤ l[i] ∧ l[i] ≤ 4072) → Ev (fun k => cells_check.l0 k x l (l.length : Int) (i : Int)) (0, some 1) := fun i hi x ho => Ev.done fun k => by
        simp only [cells_check.l0]
        rw [if_pos (by omega), if_pos (by omega), if_pos (by omega), rd_nat l i hi]
        by_cases c : l[i] < 1
        · rw [if_pos c]
        · rw [if_neg c, if_pos (by omega)]
      have : ∀ d i x, i + d = i0 → Ev (fun k => cells_check.l0 k x l (l.length : Int) (i : Int)) (0, some 1) := by
        intro d
        induction d with
        | zero => intro i x hi; obtain rfl : i = i0 := by omega
                  exact hbad _ hi0 x hb0
        | succ d ih =>
          intro i x hi
          by_cases ho : 1 ≤ l[i]'(by omega) ∧ l[i]'(by omega) ≤ 4072
          · refine Ev.step (fun k => ?_) (ih (i + 1) (wrap64 (x + l[i]'(by omega))) (by omega))
            simp only [cells_check.l0]
            rw [if_pos (by omega), if_pos (by omega), if_pos (by omega), rd_nat l i (by omega), if_neg (by omega), if_neg (by omega), w64 (n := (i : Int) + 1) (by omega) (by omega)]
            rfl
          · exact hbad i (by omega) x ho
      exact this i0 0 0 (by omega)
theorem near_ev (l : List Int) (s : Nat) (hs : s ≤ 1) (hl : l.length ≤ 17592186044000) (hf : fineS l) (h2 : 2 + s ≤ l.length) (g : Int → Int → Int)
    (hg : ∀ i, 1 ≤ i → i + s < l.length → cells_nearest.abs (g (S l i) (rd l (i : Int))) = dist l s i) :
    Ev (fun k => cells_nearest.f g k l ((l.length - 1 - s : Nat) : Int)) ((bl l s (l.length - 1 - s)).1 : Int) := by
  refine Ev.congr (f := fun k => cells_nearest.l g k l ((l.length - 1 - s : Nat) : Int) 0 0 (S l 1) 1) (fun k => ?_) ?_
  · unfold cells_nearest.f
    rw [if_pos (by omega)]
    congr 1
    rw [S_succ l 0 (by omega), S_zero, show (0 : Int) = ((0 : Nat) : Int) from rfl, rd_nat l 0 (by omega)]
    omega
  · have := Ev.loop (σ := fun j k => cells_nearest.l g k l ((l.length - 1 - s : Nat) : Int) ((bl l s j).1 : Int) (bl l s j).2 (S l (j + 1)) ((j + 1 : Nat) : Int)) (r := ((bl l s (l.length - 1 - s)).1 : Int)) (n := l.length - 1 - s) (fun j hj k => by
      have hb1 := S_bd l hf (j + 1)
      have hb2 := S_bd l hf (j + 1 + 1)
      have hn1 : wrap64 (S l (j + 1) + rd l ((j + 1 : Nat) : Int)) = S l (j + 1 + 1) := by
        rw [rd_nat l (j + 1) (by omega), ← S_succ l (j + 1) (by omega), w64 (by omega) (by omega)]
      have hn2 : wrap64 (((j + 1 : Nat) : Int) + 1) = ((j + 1 + 1 : Nat) : Int) := w64 (by omega) (by omega)
      simp only [cells_nearest.l]
      rw [if_pos (by omega), if_pos (by omega), hg (j + 1) (by omega) (by omega), hn1, hn2]
      rw [bl]
      by_cases c : (bl l s j).1 = 0 ∨ dist l s (j + 1) < (bl l s j).2
      · rw [if_pos c, if_pos (by omega)]
      · rw [if_neg c, if_neg (by omega)]) (Ev.done fun k => by
      simp only [cells_nearest.l]
      rw [if_neg (by omega)]) 0 (by omega)
    exact this
theorem abs_wrap (x : Int) (h0 : -4611686018427387904 ≤ x) (h1 : x < 4611686018427387904) : cells_nearest.abs x = (x.natAbs : Int) := by
  unfold cells_nearest.abs
  split
  · rw [w64 (by omega) (by omega)]
    omega
  · omega
theorem Cut_ev (l : List Int) (hl : l.length ≤ 17592186044000) : Ev (fun k => cells_Cut.f k l) (cutv l 0) := by
  unfold cutv
  refine Ev.bind (check_ev l 0 (by omega) hl) ?_
  by_cases h1 : l.length < 2 + 0
  · rw [if_pos h1, if_pos h1]
    exact Ev.const fun k => rfl
  · rw [if_neg h1, if_neg h1]
    by_cases hf : fineS l
    · rw [if_pos hf, if_pos hf]
      refine Ev.congr (f := fun k => (cells_nearest.f (fun ah ow => wrap64 (wrap64 (2 * ah) - l.sum)) k l ((l.length - 1 - 0 : Nat) : Int)).bind fun n => some (n, none)) (fun k => ?_) (Ev.bind (near_ev l 0 (by omega) hl hf (by omega) _ (fun i hi1 hi2 => ?_)) (Ev.const fun k => rfl))
      · simp only [Option.isNone_none, ↓reduceIte]
        rw [w64 (by omega) (by omega), show (l.length : Int) - 1 = ((l.length - 1 - 0 : Nat) : Int) by omega]
      · have b1 := S_bd l hf i
        have b2 := sum_bd l hf
        rw [w64 (n := 2 * S l i) (by omega) (by omega), w64 (by omega) (by omega), abs_wrap _ (by omega) (by omega)]
        unfold dist
        rw [Nat.add_zero]
        congr 1
        congr 1
        omega
    · rw [if_neg hf, if_neg hf]
      exact Ev.const fun k => rfl

theorem Pivot_ev (l : List Int) (hl : l.length ≤ 17592186044000) : Ev (fun k => cells_Pivot.f k l) (cutv l 1) := by
  unfold cutv
  refine Ev.bind (check_ev l 1 (by omega) hl) ?_
  by_cases h1 : l.length < 2 + 1
  · rw [if_pos h1, if_pos h1]
    exact Ev.const fun k => rfl
  · rw [if_neg h1, if_neg h1]
    by_cases hf : fineS l
    · rw [if_pos hf, if_pos hf]
      refine Ev.congr (f := fun k => (cells_nearest.f (fun ah ow => wrap64 (wrap64 (wrap64 (2 * ah) + ow) - l.sum)) k l ((l.length - 1 - 1 : Nat) : Int)).bind fun n => some (n, none)) (fun k => ?_) (Ev.bind (near_ev l 1 (by omega) hl hf (by omega) _ (fun i hi1 hi2 => ?_)) (Ev.const fun k => rfl))
      · simp only [Option.isNone_none, ↓reduceIte]
        rw [w64 (by omega) (by omega), show (l.length : Int) - 2 = ((l.length - 1 - 1 : Nat) : Int) by omega]
      · have b1 := S_bd l hf i
        have b2 := sum_bd l hf
        have b3 := hf _ (List.getElem_mem (l := l) (n := i) (by omega))
        rw [rd_nat l i (by omega), w64 (n := 2 * S l i) (by omega) (by omega), w64 (n := 2 * S l i + l[i]) (by omega) (by omega), w64 (by omega) (by omega), abs_wrap _ (by omega) (by omega)]
        unfold dist
        rw [S_succ l i (by omega)]
        congr 1
        congr 1
        omega
    · rw [if_neg hf, if_neg hf]
      exact Ev.const fun k => rfl

/-! bodies: laid out and read -/
theorem bx_bytes (s : ByteArray) (a b : Nat) : bytesOf (s.extract a b) = ((bytesOf s).take b).drop a := by
  unfold bytesOf
  rw [ByteArray.data_extract, Array.toList_extract, List.extract_eq_take_drop]
  rw [← List.map_take, ← List.map_drop, List.drop_take]
theorem str_bytes (s : ByteArray) : strOfNums (bytesOf s) = s := by
  unfold strOfNums bytesOf
  rw [List.map_map, show ((fun n : Int => UInt8.ofNat n.toNat) ∘ fun b : UInt8 => (b.toNat : Int)) = id from by
    funext b
    simp]
  simp
theorem bytes_inj {s t : ByteArray} (h : bytesOf s = bytesOf t) : s = t := by rw [← str_bytes s, ← str_bytes t, h]
theorem bytes_str (l : List Int) (h : ∀ z ∈ l, 0 ≤ z ∧ z < 256) : bytesOf (strOfNums l) = l := by
  unfold strOfNums bytesOf
  rw [List.map_map]
  refine (List.map_congr_left (g := id) fun z hz => ?_).trans (List.map_id l)
  have := h z hz
  simp only [Function.comp_apply, id]
  rw [UInt8.toNat_ofNat']
  omega
/-- The byte at a place. -/
def b_ (s : ByteArray) (k : Nat) : Nat := ((bytesOf s).getD k 0).toNat
theorem b_lt (s : ByteArray) (k : Nat) : b_ s k < 256 := by
  unfold b_
  rw [List.getD_eq_getElem?_getD]
  rcases h : (bytesOf s)[k]? with _ | z
  · decide
  · have hz := bytesOf_range s z (List.mem_of_getElem? h)
    simp only [Option.getD_some]
    omega
theorem bt_b (s : ByteArray) (k : Nat) (h : k < s.size) : bt s (k : Int) = (b_ s k : Int) := by
  rw [bt_nat s k h]
  have hz := bytesOf_range s _ (List.getElem_mem (l := bytesOf s) (n := k) (by rw [bytesOf_length]; exact h))
  unfold b_
  rw [List.getD_eq_getElem?_getD, List.getElem?_eq_getElem (by rw [bytesOf_length]; exact h)]
  simp only [Option.getD_some]
  omega
theorem b_get (s : ByteArray) (k : Nat) (h : k < s.size) : (bytesOf s)[k]? = some (b_ s k : Int) := by
  have hz := bytesOf_range s _ (List.getElem_mem (l := bytesOf s) (n := k) (by rw [bytesOf_length]; exact h))
  unfold b_
  rw [List.getD_eq_getElem?_getD, List.getElem?_eq_getElem (by rw [bytesOf_length]; exact h)]
  simp only [Option.getD_some]
  congr 1
  omega
/-- The slot of that number. -/
def slot (s : ByteArray) (i : Nat) : Nat := b_ s (2 * i) * 256 + b_ s (2 * i + 1)
def readL (s : ByteArray) : Nat → Nat → Nat → Option (List ByteArray × Nat)
  | 0, _, at_ => some ([], at_)
  | d + 1, i, at_ => if slot s i < at_ ∨ 4072 < slot s i then none else (readL s d (i + 1) (slot s i)).map fun x => (s.extract at_ (slot s i) :: x.1, x.2)
def clean (s : ByteArray) (t : Nat) : Prop := ∀ k, t ≤ k → k < 4072 → b_ s k = 0
open Classical in
noncomputable def readv (count : Int) (s : ByteArray) : List ByteArray × Option Int :=
  if count < 0 ∨ 2036 < count ∨ s.size ≠ 4072 then ([], some 2)
  else match readL s count.toNat 0 (2 * count.toNat) with
    | none => ([], some 2)
    | some (l, t) => if clean s t then (l, none) else ([], some 2)
theorem or_slot (x y : Nat) (hx : x < 256) (hy : y < 256) : Go.bits .or .i64 (wrap64 ((wrap64 (x : Int)) * 256)) (wrap64 (y : Int)) = ((x * 256 + y : Nat) : Int) := by
  rw [w64 (n := (x : Int)) (by omega) (by omega), w64 (by omega) (by omega), w64 (by omega) (by omega)]
  rw [bits_join .i64 16 (by decide) (fun n a b => by
    have h16 : (2 : Int) ^ 16 = 65536 := by decide
    rw [h16] at b
    exact (i64_w n).trans (w64 (by omega) (by omega))) 8 _ _ (by omega) (by simp) (by
    have h16 : (2 : Int) ^ 16 = 65536 := by decide
    omega) (by omega) (by simpa using (by omega : (y : Int) < 256)) (by
    have h16 : (2 : Int) ^ 16 = 65536 := by decide
    omega)]
  omega
theorem clean_ev (s : ByteArray) (hs : s.size = 4072) (l : List ByteArray) (t : Nat) (r : List ByteArray × Option Int) (hc : clean s t → r = (l, none)) (hn : ¬ clean s t → r = ([], some 2)) (ht : t ≤ 4072) :
    Ev (fun k => cells_Read.l1 k s l (t : Int)) r := by
  by_cases h : clean s t
  · rw [hc h]
    have := Ev.loop (σ := fun i k => cells_Read.l1 k s l ((t + i : Nat) : Int)) (r := (l, none)) (n := 4072 - t) (fun i hi k => by
      have hb : b_ s (t + i) = 0 := h (t + i) (by omega) (by omega)
      simp only [cells_Read.l1]
      rw [if_pos (by omega), if_pos (by omega), bt_b s (t + i) (by omega), hb, if_pos (by rfl), w64 (by omega) (by omega)]
      rfl) (Ev.done fun k => by
      simp only [cells_Read.l1]
      rw [if_neg (by omega)]) 0 (by omega)
    exact this
  · rw [hn h]
    have : ∃ k, t ≤ k ∧ k < 4072 ∧ b_ s k ≠ 0 := by
      refine Classical.byContradiction fun hne => h fun k h1 h2 => Classical.byContradiction fun hb => hne ⟨k, h1, h2, hb⟩
    obtain ⟨k0, h1, h2, h3⟩ := this
    have hbad : ∀ k, k < 4072 → b_ s k ≠ 0 → Ev (fun f => cells_Read.l1 f s l (k : Int)) ([], some 2) := fun k hk hb => Ev.done fun f => by
      simp only [cells_Read.l1]
      rw [if_pos (by omega), if_pos (by omega), bt_b s k (by omega), if_neg (by omega)]
    have := Ev.loop' (σ := fun i k => cells_Read.l1 k s l ((t + i : Nat) : Int)) (r := (([], some 2) : List ByteArray × Option Int)) (n := k0 - t) (fun i hi hnx => by
      by_cases hb : b_ s (t + i) = 0
      · refine Ev.step (fun k => ?_) hnx
        simp only [cells_Read.l1]
        rw [if_pos (by omega), if_pos (by omega), bt_b s (t + i) (by omega), hb, if_pos (by rfl), w64 (by omega) (by omega)]
        rfl
      · exact hbad (t + i) (by omega) hb) (by
      have := hbad k0 h2 h3
      rwa [show t + (k0 - t) = k0 by omega]) 0 (by omega)
    exact this
theorem readL_bd (s : ByteArray) : ∀ (d i at_ : Nat) (l : List ByteArray) (t : Nat), at_ ≤ 4072 → readL s d i at_ = some (l, t) → t ≤ 4072
  | 0, i, at_, l, t, ha, h => by simp only [readL, Option.some.injEq, Prod.mk.injEq] at h; omega
  | d + 1, i, at_, l, t, ha, h => by
    unfold readL at h
    by_cases c : slot s i < at_ ∨ 4072 < slot s i
    · rw [if_pos c] at h; cases h
    · rw [if_neg c] at h
      obtain ⟨x, hx, he⟩ := Option.map_eq_some_iff.1 h
      simp only [Prod.mk.injEq] at he
      have := readL_bd s d (i + 1) (slot s i) x.1 x.2 (by omega) hx
      omega
theorem read_loop (s : ByteArray) (hs : s.size = 4072) (n : Nat) (hn : n ≤ 2036) : ∀ (d i at_ : Nat) (acc : List ByteArray) (r : List ByteArray × Option Int), i + d = n → at_ ≤ 4072 → acc.length ≤ i →
    (match readL s d i at_ with | none => r = ([], some 2) | some (l, t) => (clean s t → r = (acc ++ l, none)) ∧ (¬ clean s t → r = ([], some 2))) →
    Ev (fun k => cells_Read.l0 k s acc (at_ : Int) (n : Int) (i : Int)) r := by
  intro d
  induction d with
  | zero =>
    intro i at_ acc r hi ha hl hr
    simp only [readL] at hr
    rw [List.append_nil] at hr
    refine Ev.step (fun k => ?_) (clean_ev s hs acc at_ r hr.1 hr.2 ha)
    simp only [cells_Read.l0]
    rw [if_neg (by omega)]
  | succ d ih =>
    intro i at_ acc r hi ha hl hr
    have hb1 := b_lt s (2 * i)
    have hb2 := b_lt s (2 * i + 1)
    have w1 : wrap64 (2 * (i : Int)) = ((2 * i : Nat) : Int) := by rw [w64 (by omega) (by omega)]; omega
    have w2 : wrap64 (((2 * i : Nat) : Int) + 1) = ((2 * i + 1 : Nat) : Int) := by rw [w64 (by omega) (by omega)]; omega
    have hs1 : Go.bits .or .i64 (wrap64 ((wrap64 (bt s ((2 * i : Nat) : Int))) * 256)) (wrap64 (bt s ((2 * i + 1 : Nat) : Int))) = ((slot s i : Nat) : Int) := by
      rw [bt_b s (2 * i) (by omega), bt_b s (2 * i + 1) (by omega), or_slot _ _ hb1 hb2]
      rfl
    unfold readL at hr
    have c1 : (i : Int) < (n : Int) := by omega
    have c2 : (0 : Int) ≤ ((2 * i : Nat) : Int) := by omega
    have c3 : ((2 * i : Nat) : Int) < (s.size : Int) := by omega
    have c4 : (0 : Int) ≤ ((2 * i + 1 : Nat) : Int) := by omega
    have c5 : ((2 * i + 1 : Nat) : Int) < (s.size : Int) := by omega
    by_cases c : slot s i < at_ ∨ 4072 < slot s i
    · rw [if_pos c] at hr
      simp only at hr
      rw [hr]
      refine Ev.done fun k => ?_
      simp only [cells_Read.l0, w1, w2, hs1]
      rw [if_pos c1, if_pos c2, if_pos c3, if_pos c4, if_pos c5]
      by_cases e : slot s i < at_
      · rw [if_pos (by omega)]
      · rw [if_neg (by omega), if_pos (by omega)]
    · rw [if_neg c] at hr
      have hstep : ∀ k, cells_Read.l0 (k + 1) s acc (at_ : Int) (n : Int) (i : Int) = cells_Read.l0 k s (acc ++ [s.extract at_ (slot s i)]) ((slot s i : Nat) : Int) (n : Int) ((i + 1 : Nat) : Int) := fun k => by
        have d1 : ¬ ((slot s i : Nat) : Int) < (at_ : Int) := by omega
        have d2 : ¬ ((slot s i : Nat) : Int) > (s.size : Int) := by omega
        have d3 : (0 : Int) ≤ (at_ : Int) := by omega
        have d4 : (at_ : Int) ≤ ((slot s i : Nat) : Int) := by omega
        have d5 : ((slot s i : Nat) : Int) ≤ (s.size : Int) := by omega
        have d6 : acc.length < 8796093022208 := by omega
        have w3 : wrap64 ((i : Int) + 1) = ((i + 1 : Nat) : Int) := w64 (by omega) (by omega)
        simp only [cells_Read.l0, w1, w2, hs1, w3]
        rw [if_pos c1, if_pos c2, if_pos c3, if_pos c4, if_pos c5, if_neg d1, if_neg d2, if_pos d3, if_pos d4, if_pos d5, if_pos d6, Int.toNat_natCast, Int.toNat_natCast]
      refine Ev.step hstep (ih (i + 1) (slot s i) _ r (by omega) (by omega) (by simp; omega) ?_)
      rcases hq : readL s d (i + 1) (slot s i) with _ | ⟨l, t⟩
      · rw [hq] at hr
        simpa using hr
      · rw [hq] at hr
        simp only [Option.map_some] at hr
        show (clean s t → r = (acc ++ [s.extract at_ (slot s i)] ++ l, none)) ∧ (¬clean s t → r = ([], some 2))
        rw [List.append_assoc]
        exact hr
theorem Read_ev (count : Int) (s : ByteArray) : Ev (fun k => cells_Read.f k count s) (readv count s) := by
  have hbad : Ev (fun k => cells_Read.j0 k count s true) ([], some 2) := Ev.done fun k => by simp [cells_Read.j0]
  unfold readv
  by_cases c1 : count < 0
  · rw [if_pos (.inl c1)]
    exact Ev.congr (fun k => by unfold cells_Read.f; rw [if_pos c1]) hbad
  by_cases c2 : 2036 < count
  · rw [if_pos (.inr (.inl c2))]
    exact Ev.congr (fun k => by unfold cells_Read.f; rw [if_neg c1, if_pos c2]) hbad
  by_cases c3 : s.size = 4072
  · rw [if_neg (by omega)]
    obtain ⟨n, rfl⟩ := Int.eq_ofNat_of_zero_le (show 0 ≤ count by omega)
    have hw : wrap64 (2 * (n : Int)) = ((2 * n : Nat) : Int) := by rw [w64 (by omega) (by omega)]; omega
    refine Ev.congr (f := fun k => cells_Read.j0 k (n : Int) s false) (fun k => by
      unfold cells_Read.f
      rw [if_neg c1, if_neg c2, c3]
      rfl) (Ev.step (f := fun k => cells_Read.l0 k s ([] : List ByteArray) ((2 * n : Nat) : Int) (n : Int) 0) (fun k => by
      simp only [cells_Read.j0, hw]
      rw [if_neg (by simp), if_pos (by omega), if_pos (by omega)]) ?_)
    refine read_loop s c3 n (by omega) n 0 (2 * n) [] _ (by omega) (by omega) (by simp) ?_
    rw [Int.toNat_natCast]
    rcases hq : readL s n 0 (2 * n) with _ | ⟨l, t⟩
    · rfl
    · exact ⟨fun h => by simp [h], fun h => by simp [h]⟩
  · rw [if_pos (.inr (.inr c3))]
    exact Ev.congr (fun k => by
      unfold cells_Read.f
      rw [if_neg c1, if_neg c2, show ((s.size : Int) != 4072) = true by rw [bne_iff_ne]; omega]) hbad

/-! what Lay lays -/
theorem rdO (l : List ByteArray) (i : Nat) (h : i < l.length) : rdOf ByteArray.empty l (i : Int) = l[i] := by
  unfold rdOf
  rw [Int.toNat_natCast, List.getD_eq_getElem?_getD, List.getElem?_eq_getElem h]
  rfl
theorem gD (l : List ByteArray) (i : Nat) (h : i < l.length) : l.getD i ⟨#[]⟩ = l[i] := by
  rw [List.getD_eq_getElem?_getD, List.getElem?_eq_getElem h]
  rfl
theorem size_w (a b : Int) : wrap64 (wrap64 a + b) = wrap64 (a + b) := by unfold wrap64; omega
theorem SizeC_ev (l : List ByteArray) (hl : l.length ≤ 8796093022208) : Ev (fun k => cells_Size.f k l) (wrap64 ((layE l l.length : Nat) : Int)) := by
  have h0 := Ev.loop (σ := fun i k => cells_Size.l0 k (wrap64 ((layE l i : Nat) : Int)) l (l.length : Int) (i : Int)) (r := wrap64 ((layE l l.length : Nat) : Int)) (n := l.length) (fun i hi k => by
    have e := layE_succ l i hi
    rw [gD l i hi] at e
    have c1 : (i : Int) < (l.length : Int) := by omega
    have c2 : (0 : Int) ≤ (i : Int) := by omega
    have w1 : wrap64 ((i : Int) + 1) = ((i + 1 : Nat) : Int) := w64 (by omega) (by omega)
    simp only [cells_Size.l0]
    rw [if_pos c1, if_pos c2, if_pos c1, rdO l i hi, size_w, w1, e]
    congr 2) (Ev.done fun k => by
    simp only [cells_Size.l0]
    rw [if_neg (by omega)]) 0 (by omega)
  refine Ev.congr (fun k => ?_) h0
  unfold cells_Size.f layE
  simp
def layS (l : List ByteArray) : ByteArray := strOfNums (layC l l.length)
theorem Lay_ev (l : List ByteArray) (hl : l.length ≤ 8796093022208) (ht : layE l l.length < 4611686018427387904) : Ev (fun k => cells_Lay.f k l) (if layE l l.length ≤ 4072 then (layS l, none) else ((⟨#[]⟩ : ByteArray), some 3)) := by
  have h := SizeC_ev l hl
  rw [w64 (by omega) (by omega)] at h
  unfold cells_Lay.f
  refine Ev.bind h (Ev.const fun k => ?_)
  by_cases c : layE l l.length ≤ 4072
  · rw [if_neg (by omega), if_pos c, if_pos c]
    rfl
  · rw [if_pos (by omega), if_neg c]
theorem layC_at (l : List ByteArray) (hfit : layE l l.length ≤ 4072) (i : Nat) (hi : i < l.length) (k : Nat) :
    (layC l (i + 1))[k]? = if k = 2 * i + 1 then some ((layE l (i + 1) : Int) % 256) else if k = 2 * i then some ((layE l (i + 1) : Int) / 256 % 256) else
      if k < layE l i then (layC l i)[k]? else if k < layE l (i + 1) then (bytesOf l[i])[k - layE l i]? else (layC l i)[k]? := by
  have hC := layC_len l hfit i (by omega)
  have e1 := layE_succ l i hi
  have e2 := layE_le l (i + 1) hi
  have e3 : 2 * l.length ≤ layE l i := by unfold layE; omega
  rw [gD l i hi] at e1
  have hb : (bytesOf l[i]).length = l[i].size := bytesOf_length _
  have ht : ((layC l i).take (layE l i)).length = layE l i := by rw [List.length_take, hC]; omega
  simp only [layC]
  rw [gD l i hi, List.getElem?_set, List.getElem?_set]
  have hlen : ((layC l i).take (layE l i) ++ bytesOf l[i] ++ (layC l i).drop (layE l (i + 1))).length = 4072 := by
    simp only [List.length_append, ht, hb, List.length_drop, hC]; omega
  rw [List.length_set, hlen]
  by_cases c1 : k = 2 * i + 1
  · rw [if_pos c1.symm, if_pos c1, if_pos (by omega)]
  rw [if_neg (fun h => c1 h.symm), if_neg c1]
  by_cases c2 : k = 2 * i
  · rw [if_pos c2.symm, if_pos c2, if_pos (by omega)]
  rw [if_neg (fun h => c2 h.symm), if_neg c2]
  by_cases c3 : k < layE l i
  · rw [if_pos c3, List.append_assoc, List.getElem?_append_left (by omega), List.getElem?_take, if_pos c3]
  rw [if_neg c3]
  by_cases c4 : k < layE l (i + 1)
  · rw [if_pos c4, List.getElem?_append_left (by rw [List.length_append]; omega), List.getElem?_append_right (by omega), ht]
  · rw [if_neg c4, List.getElem?_append_right (by rw [List.length_append]; omega), List.getElem?_drop, List.length_append, ht, hb]
    congr 1
    omega
theorem layC_inv (l : List ByteArray) (hfit : layE l l.length ≤ 4072) : ∀ i, i ≤ l.length →
    (∀ j (hj : j < i), (layC l i)[2 * j]? = some ((layE l (j + 1) : Int) / 256 % 256) ∧ (layC l i)[2 * j + 1]? = some ((layE l (j + 1) : Int) % 256)) ∧
    (∀ j (hj : j < l.length), j < i → ∀ m, m < l[j].size → (layC l i)[layE l j + m]? = (bytesOf l[j])[m]?) ∧
    (∀ k, (layE l i ≤ k ∨ (2 * i ≤ k ∧ k < 2 * l.length)) → k < 4072 → (layC l i)[k]? = some 0) := by
  intro i
  induction i with
  | zero =>
    intro _
    refine ⟨fun j hj => by omega, fun j _ hj => by omega, fun k _ hk => ?_⟩
    rw [layC, List.getElem?_replicate, if_pos hk]
  | succ i ih =>
    intro hi
    obtain ⟨i1, i2, i3⟩ := ih (by omega)
    have e1 := layE_succ l i hi
    rw [gD l i hi] at e1
    have e3 : 2 * l.length ≤ layE l i := by unfold layE; omega
    refine ⟨fun j hj => ?_, fun j hjl hj m hm => ?_, fun k hk hk2 => ?_⟩
    · rw [layC_at l hfit i hi, layC_at l hfit i hi]
      by_cases c : j = i
      · subst c
        rw [if_neg (by omega), if_pos rfl, if_pos rfl]
        exact ⟨rfl, rfl⟩
      · rw [if_neg (by omega), if_neg (by omega), if_pos (by omega), if_neg (by omega), if_neg (by omega), if_pos (by omega)]
        exact i1 j (by omega)
    · have e4 : 2 * l.length ≤ layE l j := by unfold layE; omega
      rw [layC_at l hfit i hi, if_neg (by omega), if_neg (by omega)]
      by_cases c : j = i
      · subst c
        rw [if_neg (by omega), if_pos (by omega), show layE l j + m - layE l j = m by omega]
      · have e5 := layE_succ l j hjl
        rw [gD l j hjl] at e5
        have e6 : layE l (j + 1) ≤ layE l i := by
          have : ∀ d, layE l (j + 1) ≤ layE l (j + 1 + d) := by
            intro d
            induction d with
            | zero => exact Nat.le_refl _
            | succ d ihd =>
              by_cases hd : j + 1 + d < l.length
              · have := layE_succ l (j + 1 + d) hd
                rw [show j + 1 + (d + 1) = j + 1 + d + 1 by omega]
                omega
              · have : layE l (j + 1 + (d + 1)) = layE l (j + 1 + d) := by
                  unfold layE
                  rw [List.take_of_length_le (by omega), List.take_of_length_le (by omega)]
                omega
          have := this (i - (j + 1))
          rwa [show j + 1 + (i - (j + 1)) = i by omega] at this
        rw [if_pos (by omega)]
        exact i2 j hjl (by omega) m hm
    · rw [layC_at l hfit i hi, if_neg (by omega), if_neg (by omega)]
      by_cases c : k < layE l i
      · rw [if_pos c]
        exact i3 k (by omega) hk2
      · rw [if_neg c, if_neg (by omega)]
        exact i3 k (by omega) hk2
theorem layC_range (l : List ByteArray) : ∀ i, ∀ z ∈ layC l i, 0 ≤ z ∧ z < 256
  | 0 => fun z hz => by
    have := List.eq_of_mem_replicate hz
    omega
  | i + 1 => fun z hz => by
    simp only [layC] at hz
    rcases List.mem_or_eq_of_mem_set hz with hz | hz
    · rcases List.mem_or_eq_of_mem_set hz with hz | hz
      · rcases List.mem_append.1 hz with hz | hz
        · rcases List.mem_append.1 hz with hz | hz
          · exact layC_range l i z (List.mem_of_mem_take hz)
          · exact bytesOf_range _ z hz
        · exact layC_range l i z (List.mem_of_mem_drop hz)
      · omega
    · omega
theorem layS_bytes (l : List ByteArray) : bytesOf (layS l) = layC l l.length := bytes_str _ (layC_range l _)
theorem layS_size (l : List ByteArray) (hfit : layE l l.length ≤ 4072) : (layS l).size = 4072 := by
  rw [← bytesOf_length, layS_bytes, layC_len l hfit _ (Nat.le_refl _)]
theorem layS_b (l : List ByteArray) (k : Nat) (z : Int) (h : (layC l l.length)[k]? = some z) : b_ (layS l) k = z.toNat := by
  unfold b_
  rw [layS_bytes, List.getD_eq_getElem?_getD, h]
  rfl
theorem lay_slot (l : List ByteArray) (hfit : layE l l.length ≤ 4072) (i : Nat) (hi : i < l.length) : slot (layS l) i = layE l (i + 1) := by
  obtain ⟨i1, _, _⟩ := layC_inv l hfit l.length (Nat.le_refl _)
  obtain ⟨h1, h2⟩ := i1 i hi
  have e2 := layE_le l (i + 1) hi
  unfold slot
  rw [layS_b l _ _ h1, layS_b l _ _ h2]
  omega
theorem lay_cell (l : List ByteArray) (hfit : layE l l.length ≤ 4072) (i : Nat) (hi : i < l.length) : (layS l).extract (layE l i) (layE l (i + 1)) = l[i] := by
  obtain ⟨_, i2, _⟩ := layC_inv l hfit l.length (Nat.le_refl _)
  have e1 := layE_succ l i hi
  rw [gD l i hi] at e1
  refine bytes_inj (List.ext_getElem? fun m => ?_)
  rw [bx_bytes, layS_bytes, List.getElem?_drop, List.getElem?_take]
  by_cases c : m < l[i].size
  · rw [if_pos (by omega)]
    exact i2 i hi hi m c
  · rw [if_neg (by omega), List.getElem?_eq_none (by rw [bytesOf_length]; omega)]
theorem lay_read (l : List ByteArray) (hfit : layE l l.length ≤ 4072) : ∀ d i, i + d = l.length → readL (layS l) d i (layE l i) = some (l.drop i, layE l l.length)
  | 0, i, h => by
    rw [readL, show i = l.length by omega, List.drop_of_length_le (Nat.le_refl _)]
  | d + 1, i, h => by
    have hi : i < l.length := by omega
    have e1 := layE_succ l i hi
    have e2 := layE_le l (i + 1) hi
    rw [readL, lay_slot l hfit i hi, if_neg (by omega), lay_read l hfit d (i + 1) (by omega), Option.map_some, lay_cell l hfit i hi, List.drop_eq_getElem_cons hi]
theorem lay_readv (l : List ByteArray) (hfit : layE l l.length ≤ 4072) : readv (l.length : Int) (layS l) = (l, none) := by
  obtain ⟨_, _, i3⟩ := layC_inv l hfit l.length (Nat.le_refl _)
  have h2 : 2 * l.length ≤ 4072 := by unfold layE at hfit; omega
  have hr := lay_read l hfit l.length 0 (by omega)
  have e0 : layE l 0 = 2 * l.length := by simp [layE]
  unfold readv
  rw [if_neg (by rw [layS_size l hfit]; omega), Int.toNat_natCast, ← e0, hr]
  simp only [List.drop_zero]
  refine if_pos fun k h1 hk => ?_
  rw [layS_b l k 0 (i3 k (.inl h1) hk)]
  rfl
/-! what is read is laid out as the same body -/
theorem read_facts (s : ByteArray) : ∀ (d i at_ : Nat) (l : List ByteArray) (t : Nat), s.size = 4072 → at_ ≤ 4072 → readL s d i at_ = some (l, t) →
    l.length = d ∧ t = at_ + (l.map (·.size)).sum ∧ t ≤ 4072 ∧ (∀ j, j < d → slot s (i + j) = at_ + ((l.take (j + 1)).map (·.size)).sum) ∧
      (∀ j (hj : j < l.length), ∀ m, m < l[j].size → (bytesOf s)[at_ + ((l.take j).map (·.size)).sum + m]? = (bytesOf l[j])[m]?)
  | 0, i, at_, l, t, hs, ha, h => by
    simp only [readL, Option.some.injEq, Prod.mk.injEq] at h
    obtain ⟨rfl, rfl⟩ := h
    exact ⟨rfl, by simp, ha, fun j hj => by omega, fun j hj => by simp at hj⟩
  | d + 1, i, at_, l, t, hs, ha, h => by
    unfold readL at h
    by_cases c : slot s i < at_ ∨ 4072 < slot s i
    · rw [if_pos c] at h; cases h
    · rw [if_neg c] at h
      obtain ⟨x, hx, he⟩ := Option.map_eq_some_iff.1 h
      simp only [Prod.mk.injEq] at he
      obtain ⟨rfl, rfl⟩ := he
      obtain ⟨f1, f2, f3, f4, f5⟩ := read_facts s d (i + 1) (slot s i) x.1 x.2 hs (by omega) hx
      have hsz : (s.extract at_ (slot s i)).size = slot s i - at_ := by
        rw [← bytesOf_length, bx_bytes, List.length_drop, List.length_take, bytesOf_length, hs]
        omega
      refine ⟨by simp [f1], ?_, f3, fun j hj => ?_, fun j hj m hm => ?_⟩
      · simp only [List.map_cons, List.sum_cons, hsz]
        omega
      · cases j with
        | zero => simp [hsz]; omega
        | succ j =>
          have := f4 j (by omega)
          rw [show i + 1 + j = i + (j + 1) by omega] at this
          rw [this, List.take_succ_cons, List.map_cons, List.sum_cons, hsz]
          omega
      · cases j with
        | zero =>
          simp only [List.getElem_cons_zero] at hm ⊢
          rw [hsz] at hm
          rw [bx_bytes, List.getElem?_drop, List.getElem?_take, if_pos (by omega)]
          simp
        | succ j =>
          simp only [List.getElem_cons_succ] at hm ⊢
          rw [← f5 j (by simpa using hj) m hm, List.take_succ_cons, List.map_cons, List.sum_cons, hsz]
          congr 1
          omega
theorem find_cell (l : List ByteArray) (k : Nat) (h1 : layE l 0 ≤ k) : ∀ i, i ≤ l.length → k < layE l i → ∃ j, j < i ∧ layE l j ≤ k ∧ k < layE l (j + 1)
  | 0, _, h => by omega
  | i + 1, hi, h => by
    by_cases c : layE l i ≤ k
    · exact ⟨i, by omega, c, h⟩
    · obtain ⟨j, h2, h3⟩ := find_cell l k h1 i (by omega) (by omega)
      exact ⟨j, by omega, h3⟩
theorem readv_lay (count : Int) (s : ByteArray) (l : List ByteArray) (h : readv count s = (l, none)) : (l.length : Int) = count ∧ layE l l.length ≤ 4072 ∧ layS l = s := by
  unfold readv at h
  by_cases c : count < 0 ∨ 2036 < count ∨ s.size ≠ 4072
  · rw [if_pos c] at h
    simp at h
  rw [if_neg c] at h
  obtain ⟨n, rfl⟩ := Int.eq_ofNat_of_zero_le (show 0 ≤ count by omega)
  have hs : s.size = 4072 := by omega
  rw [Int.toNat_natCast] at h
  rcases hq : readL s n 0 (2 * n) with _ | ⟨l', t⟩
  · rw [hq] at h
    simp at h
  rw [hq] at h
  simp only at h
  by_cases hcl : clean s t
  · rw [if_pos hcl] at h
    simp only [Prod.mk.injEq, and_true] at h
    subst h
    obtain ⟨f1, f2, f3, f4, f5⟩ := read_facts s n 0 (2 * n) l' t hs (by omega) hq
    have hE : ∀ j, layE l' j = 2 * n + ((l'.take j).map (·.size)).sum := fun j => by unfold layE; rw [f1]
    have hT : layE l' l'.length = t := by rw [hE, List.take_of_length_le (Nat.le_refl _)]; exact f2.symm
    have hfit : layE l' l'.length ≤ 4072 := by omega
    refine ⟨by omega, hfit, bytes_inj ?_⟩
    rw [layS_bytes]
    obtain ⟨i1, i2, i3⟩ := layC_inv l' hfit l'.length (Nat.le_refl _)
    refine List.ext_getElem? fun k => ?_
    by_cases hk : k < 4072
    · rw [b_get s k (by omega)]
      by_cases c1 : k < 2 * n
      · have hj : k / 2 < l'.length := by omega
        obtain ⟨h1, h2⟩ := i1 (k / 2) hj
        have h3 := f4 (k / 2) (by omega)
        rw [Nat.zero_add, ← hE] at h3
        have hb1 := b_lt s (2 * (k / 2))
        have hb2 := b_lt s (2 * (k / 2) + 1)
        unfold slot at h3
        by_cases par : k = 2 * (k / 2)
        · rw [par, h1]
          congr 1
          omega
        · have par : k = 2 * (k / 2) + 1 := by omega
          rw [← par] at h2 hb2 h3
          rw [h2]
          congr 1
          omega
      · by_cases c2 : t ≤ k
        · rw [i3 k (.inl (by omega)) hk, hcl k c2 hk]
          rfl
        · obtain ⟨j, hj1, hj2, hj3⟩ := find_cell l' k (by rw [hE]; simp; omega) l'.length (Nat.le_refl _) (by omega)
          have e1 := layE_succ l' j hj1
          rw [gD l' j hj1] at e1
          have a1 := i2 j hj1 hj1 (k - layE l' j) (by omega)
          have a2 := f5 j hj1 (k - layE l' j) (by omega)
          rw [← hE, show layE l' j + (k - layE l' j) = k by omega, b_get s k (by omega)] at a2
          rw [show layE l' j + (k - layE l' j) = k by omega] at a1
          rw [a1, a2]
    · rw [List.getElem?_eq_none (by rw [layC_len l' hfit _ (Nat.le_refl _)]; omega), List.getElem?_eq_none (by rw [bytesOf_length]; omega)]
  · rw [if_neg hcl] at h
    simp at h
theorem readv_bad (count : Int) (s : ByteArray) : readv count s = ([], some 2) ∨ ∃ l, readv count s = (l, none) := by
  unfold readv
  split
  · exact .inl rfl
  · split
    · exact .inl rfl
    · split
      · exact .inr ⟨_, rfl⟩
      · exact .inl rfl

def three : List ByteArray := [(⟨#[97, 98]⟩ : ByteArray), (⟨#[]⟩ : ByteArray), (⟨#[99]⟩ : ByteArray)]
theorem three_E : layE three three.length = 9 := by decide
theorem three_head : ((layS three).extract 0 10).toList = ([0, 8, 0, 8, 0, 9, 97, 98, 99, 0] : List UInt8) := by
  decide +kernel
theorem cut3 : cutv [1, 1, 9] 0 = (2, none) := by decide
theorem piv5 : cutv [3, 1, 2, 2, 2] 1 = (2, none) := by decide
theorem begun_ev : Ev (fun k => copselaw6_begun.f k) true := by
  have hE := three_E
  unfold copselaw6_begun.f
  have hL := Lay_ev three (by decide) (by rw [hE]; decide)
  rw [if_pos (by rw [hE]; decide)] at hL
  refine Ev.bind hL ?_
  refine Ev.congr (f := fun k => copselaw6_begun.j0 k (layS three) false) (fun k => ?_) (Ev.step (f := fun k => (cells_Read.f k 3 (layS three)).bind fun bt120 => ((cells_Cut.f k (([1, 1, 9] : List Int))).bind fun bt127 => ((cells_Pivot.f k (([3, 1, 2, 2, 2] : List Int))).bind fun bt132 => (if bt120.2.isNone = true then (if bt127.2.isNone = true then (if bt132.2.isNone = true then (if (bt120.1.length : Int) = 3 then (if 0 < (bt120.1.length : Int) then (if (rdOf ByteArray.empty bt120.1 0).toList = ([97, 98] : List UInt8) then (if 1 < (bt120.1.length : Int) then (if (rdOf ByteArray.empty bt120.1 1).toList = ([] : List UInt8) then (if 2 < (bt120.1.length : Int) then (if (rdOf ByteArray.empty bt120.1 2).toList = ([99] : List UInt8) then (if bt127.1 = 2 then (if bt132.1 = 2 then ((cells_Size.f k bt120.1).bind fun t140 => (some (t140 == 9))) else (some false)) else (some false)) else (some false)) else (none)) else (some false)) else (none)) else (some false)) else (none)) else (some false)) else (some false)) else (some false)) else (some false))))) (fun k => ?_) ?_)
  · rw [if_pos (by rfl), layS_size three (by rw [hE]; decide), if_pos (by decide), if_pos (by decide), if_pos (by decide), three_head]
    rfl
  · simp only [copselaw6_begun.j0]
    rw [if_neg (by simp)]
  · have hR := Read_ev 3 (layS three)
    have hrv := lay_readv three (by rw [hE]; decide)
    rw [show (3 : Int) = (three.length : Int) from rfl, hrv] at hR
    have hC := Cut_ev [1, 1, 9] (by decide)
    have hP := Pivot_ev [3, 1, 2, 2, 2] (by decide)
    have hS := SizeC_ev three (by decide)
    rw [hE] at hS
    rw [cut3] at hC
    rw [piv5] at hP
    refine Ev.bind hR (Ev.bind hC (Ev.bind hP (Ev.congr (f := fun k => (cells_Size.f k three).bind fun t140 => (some (t140 == 9))) (fun k => ?_) (Ev.bind hS (Ev.const fun k => by decide +kernel)))))
    rw [if_pos (by rfl), if_pos (by rfl), if_pos (by rfl), if_pos (by rfl), if_pos (by decide +kernel), if_pos (by decide +kernel), if_pos (by decide +kernel), if_pos (by decide +kernel), if_pos (by decide +kernel), if_pos (by decide +kernel), if_pos (by rfl), if_pos (by rfl)]

/-! Bytes xored. -/
theorem u8_in (n : Nat) (h : n < 256) : IntKind.u8.wrap (n : Int) = n := by rw [IntKind.wrap_u8]; omega
theorem xor8 (x y : Nat) (hx : x < 256) (hy : y < 256) : Go.bits .xor .u8 (x : Int) (y : Int) = ((x ^^^ y : Nat) : Int) := by
  have h8 : x ^^^ y < 256 := Nat.xor_lt_two_pow (n := 8) hx hy
  show IntKind.u8.wrap (((BitVec.ofInt 8 (x : Int)) ^^^ (BitVec.ofInt 8 (y : Int))).toNat : Int) = _
  rw [BitVec.toNat_xor, BitVec.ofInt_natCast, BitVec.ofInt_natCast, BitVec.toNat_ofNat, BitVec.toNat_ofNat, Nat.mod_eq_of_lt (by omega), Nat.mod_eq_of_lt (by omega), u8_in _ h8]
theorem ofInt_xor (x y : Nat) (hx : x < 256) (hy : y < 256) : BitVec.ofInt 32 ((x ^^^ y : Nat) : Int) = BitVec.ofInt 32 (x : Int) ^^^ BitVec.ofInt 32 (y : Int) := by
  have h8 : x ^^^ y < 256 := Nat.xor_lt_two_pow (n := 8) hx hy
  apply BitVec.eq_of_toNat_eq
  rw [BitVec.toNat_xor, BitVec.ofInt_natCast, BitVec.ofInt_natCast, BitVec.ofInt_natCast, BitVec.toNat_ofNat, BitVec.toNat_ofNat, BitVec.toNat_ofNat, Nat.mod_eq_of_lt (by omega), Nat.mod_eq_of_lt (by omega), Nat.mod_eq_of_lt (by omega)]
theorem xor8_int (x y : Int) (hx : 0 ≤ x ∧ x < 256) (hy : 0 ≤ y ∧ y < 256) : (0 ≤ Go.bits .xor .u8 x y ∧ Go.bits .xor .u8 x y < 256) ∧ BitVec.ofInt 32 (Go.bits .xor .u8 x y) = BitVec.ofInt 32 x ^^^ BitVec.ofInt 32 y := by
  obtain ⟨m, rfl⟩ := Int.eq_ofNat_of_zero_le hx.1
  obtain ⟨n, rfl⟩ := Int.eq_ofNat_of_zero_le hy.1
  have hm : m < 256 := by omega
  have hn : n < 256 := by omega
  have h8 : m ^^^ n < 256 := Nat.xor_lt_two_pow (n := 8) hm hn
  rw [xor8 m n hm hn, ofInt_xor m n hm hn]
  exact ⟨by omega, rfl⟩

/-! lists of texts that differ -/
theorem ba_inj {x y : ByteArray} (h : x.toList = y.toList) : x = y := by
  rw [ByteArray.toList_eq, ByteArray.toList_eq] at h
  exact ByteArray.ext (Array.toList_inj.mp h)
theorem SameStrings_ne (l m : List ByteArray) (hl : l.length ≤ 8796093022208) (hn : l.length = m.length) (hne : l ≠ m) : Ev (fun k => copseref0_SameStrings.f k l m) false := by
  obtain ⟨i0, h0, hb⟩ : ∃ i, ∃ hi : i < l.length, l[i] ≠ m[i]'(by omega) := by
    refine Classical.byContradiction fun hc => hne (List.ext_getElem hn fun i h1 h2 => Classical.byContradiction fun hd => hc ⟨i, h1, hd⟩)
  have hbad : ∀ i (hi : i < l.length), l[i] ≠ m[i]'(by omega) → Ev (fun k => copseref0_SameStrings.l0 k l m (i : Int)) false := fun i hi hd => Ev.done fun k => by
    have c1 : (i : Int) < (l.length : Int) := by omega
    have c2 : (0 : Int) ≤ (i : Int) := by omega
    have c3 : (i : Int) < (m.length : Int) := by omega
    simp only [copseref0_SameStrings.l0]
    rw [if_pos c1, if_pos c2, if_pos c3, rdO l i hi, rdO m i (by omega), if_neg (fun h => hd (ba_inj h))]
  refine Ev.congr (fun k => ?_) (Ev.loop' (σ := fun i k => copseref0_SameStrings.l0 k l m (i : Int)) (r := false) (n := i0) (fun i hi hx => ?_) (hbad i0 h0 hb) 0 (by omega))
  · unfold copseref0_SameStrings.f
    rw [if_pos (by omega)]
    rfl
  · by_cases c : l[i]'(by omega) = m[i]'(by omega)
    · refine Ev.step (fun k => ?_) hx
      have c1 : (i : Int) < (l.length : Int) := by omega
      have c2 : (0 : Int) ≤ (i : Int) := by omega
      have c3 : (i : Int) < (m.length : Int) := by omega
      have w1 : wrap64 ((i : Int) + 1) = ((i + 1 : Nat) : Int) := w64 (by omega) (by omega)
      simp only [copseref0_SameStrings.l0]
      rw [if_pos c1, if_pos c2, if_pos c3, rdO l i (by omega), rdO m i (by omega), if_pos (by rw [c]), w1]
    · exact hbad i (by omega) c

theorem bulk_E (l : List ByteArray) : layE l l.length = 2 * l.length + (l.map (·.size)).sum := by unfold layE; rw [List.take_of_length_le (Nat.le_refl _)]
theorem bulk_sum (l : List ByteArray) : (l.map fun z => z.size + 1).sum = l.length + (l.map (·.size)).sum := by
  induction l with
  | nil => rfl
  | cons a l ih => simp only [List.map_cons, List.sum_cons, List.length_cons, ih]; omega
theorem Texts_eq (l : List ByteArray) (h : l.length < 8796093022208) : copselaw6_texts.f l = some l := by
  unfold copselaw6_texts.f
  rw [if_pos (by simpa using h)]
  rfl
theorem bit_val (b : Int) (h0 : 0 ≤ b) (h7 : b ≤ 7) : IntKind.u64.wrap b = b ∧ ∃ z : Nat, shl .u8 1 b = (z : Int) ∧ 0 < z ∧ z < 256 := by
  have : b = 0 ∨ b = 1 ∨ b = 2 ∨ b = 3 ∨ b = 4 ∨ b = 5 ∨ b = 6 ∨ b = 7 := by omega
  rcases this with rfl | rfl | rfl | rfl | rfl | rfl | rfl | rfl
  · exact ⟨by decide, 1, by decide, by decide, by decide⟩
  · exact ⟨by decide, 2, by decide, by decide, by decide⟩
  · exact ⟨by decide, 4, by decide, by decide, by decide⟩
  · exact ⟨by decide, 8, by decide, by decide, by decide⟩
  · exact ⟨by decide, 16, by decide, by decide, by decide⟩
  · exact ⟨by decide, 32, by decide, by decide, by decide⟩
  · exact ⟨by decide, 64, by decide, by decide, by decide⟩
  · exact ⟨by decide, 128, by decide, by decide, by decide⟩
theorem xor_ne (x z : Nat) (hz : 0 < z) : x ^^^ z ≠ x := fun h => by
  have : x ^^^ (x ^^^ z) = x ^^^ x := by rw [h]
  rw [← Nat.xor_assoc, Nat.xor_self, Nat.zero_xor] at this
  omega
/-- The body with a byte turned: another body. -/
theorem turned (S : ByteArray) (at_ : Nat) (b : Int) (ha : at_ < S.size) (h0 : 0 ≤ b) (h7 : b ≤ 7) :
    strOfNums ((bytesOf S).set at_ (Go.bits .xor .u8 (rd (bytesOf S) (at_ : Int)) (shl .u8 1 b))) ≠ S := by
  obtain ⟨_, z, hz, hz0, hz1⟩ := bit_val b h0 h7
  have hl := bytesOf_length S
  have hr := bytesOf_range S _ (List.getElem_mem (l := bytesOf S) (n := at_) (by omega))
  rw [hz, rd_nat _ at_ (by omega)]
  obtain ⟨x, hx⟩ := Int.eq_ofNat_of_zero_le hr.1
  have hx1 : x < 256 := by omega
  rw [hx, xor8 x z hx1 hz1]
  have h8 : x ^^^ z < 256 := Nat.xor_lt_two_pow (n := 8) hx1 hz1
  intro h
  have hb := congrArg bytesOf h
  rw [bytes_str _ (fun y hy => by
    rcases List.mem_or_eq_of_mem_set hy with hy | hy
    · exact bytesOf_range S y hy
    · omega)] at hb
  have hg := congrArg (fun L : List Int => L[at_]?) hb
  rw [List.getElem?_set_self (by omega), List.getElem?_eq_getElem (by omega), hx] at hg
  have := xor_ne x z hz0
  simp only [Option.some.injEq] at hg
  omega
theorem pure_side : ∀ (l0_0 : List ByteArray) (a0_1 : Int) (a0_2 : Int), (l0_0.length * 16 ≤ 140737488351232 ∧ ∀ z ∈ l0_0, z.size ≤ 140737488351232) → (Lit.int .i64 a0_1).wf = true → (Lit.int .i64 a0_2).wf = true → (((l0_0.map fun z => (z.size + 1)).sum + 1) + 1 + 1 + 1) ≤ 1048576 → ∃ k, copselaw6_CellsSpot.f k l0_0 a0_1 a0_2 = some true := by
  intro l p b hl _ _ hb
  have hl := hl.1
  rw [bulk_sum] at hb
  have hE := bulk_E l
  have hE2 : layE l l.length ≤ 2097152 := by omega
  have hL := Lay_ev l (by omega) (by omega)
  have hT := Texts_eq l (by omega)
  refine Ev.rounds (g := fun k => copselaw6_CellsSpot.f k l p b) ?_
  unfold copselaw6_CellsSpot.f
  refine Ev.bind begun_ev (Ev.congr (f := fun k => (cells_Lay.f k l).bind fun bt146 => (if bt146.2.isNone = true then (if p < 0 then (copselaw6_CellsSpot.j0 k bt146.1 none true l p b) else (if p ≥ 4072 then (copselaw6_CellsSpot.j0 k bt146.1 none true l p b) else (if b < 0 then (copselaw6_CellsSpot.j0 k bt146.1 none true l p b) else (copselaw6_CellsSpot.j0 k bt146.1 none (decide (b > 7)) l p b)))) else (copselaw6_CellsSpot.j0 k bt146.1 (some (bt146.2.getD 0)) true l p b))) (fun k => by rw [if_pos rfl, hT, Option.bind_some]) (Ev.bind hL ?_))
  by_cases c : layE l l.length ≤ 4072
  · rw [if_pos c]
    refine Ev.congr (fun k => if_pos (by rfl)) ?_
    have hout : Ev (fun k => copselaw6_CellsSpot.j0 k (layS l) none true l p b) true := Ev.done fun k => by
      simp only [copselaw6_CellsSpot.j0]
      rw [if_pos trivial, if_pos (by rfl)]
    by_cases c1 : p < 0
    · exact Ev.congr (fun k => if_pos c1) hout
    by_cases c2 : p ≥ 4072
    · exact Ev.congr (fun k => by rw [if_neg c1, if_pos c2]) hout
    by_cases c3 : b < 0
    · exact Ev.congr (fun k => by rw [if_neg c1, if_neg c2, if_pos c3]) hout
    by_cases c4 : b > 7
    · exact Ev.congr (fun k => by rw [if_neg c1, if_neg c2, if_neg c3, decide_eq_true c4]) hout
    refine Ev.congr (f := fun k => copselaw6_CellsSpot.j0 k (layS l) none false l p b) (fun k => by rw [if_neg c1, if_neg c2, if_neg c3, decide_eq_false c4]) ?_
    have hsz := layS_size l c
    have hn2 : l.length ≤ 2036 := by unfold layE at c; omega
    obtain ⟨n, rfl⟩ := Int.eq_ofNat_of_zero_le (show 0 ≤ p by omega)
    have hne := turned (layS l) n b (by omega) (by omega) (by omega)
    have hbl := bytesOf_length (layS l)
    have hw := (bit_val b (by omega) (by omega)).1
    obtain ⟨B, hB⟩ : ∃ B, B = strOfNums ((bytesOf (layS l)).set n (Go.bits .xor .u8 (rd (bytesOf (layS l)) (n : Int)) (shl .u8 1 b))) := ⟨_, rfl⟩
    rw [← hB] at hne
    have d1 : ([] : List Int).length + (layS l).size < 140737488355328 := by rw [List.length_nil]; omega
    have d2 : (0 : Int) ≤ (n : Int) := by omega
    have d3 : (n : Int) < ((bytesOf (layS l)).length : Int) := by omega
    have d4 : (0 : Int) ≤ b := by omega
    refine Ev.step (f := fun k => (cells_Read.f k (l.length : Int) B).bind fun bt155 => (if bt155.2.isNone = true then ((copseref0_SameStrings.f k bt155.1 l).bind fun t160 => (some (!t160))) else (some (en (bt155.2.getD 0) == en 2)))) (fun k => ?_) (Ev.bind (Read_ev (l.length : Int) B) ?_)
    · simp only [copselaw6_CellsSpot.j0, hw]
      rw [if_neg (by simp), if_pos d1, Option.bind_some, List.nil_append, if_pos d2, if_pos d3, if_pos d4, Int.toNat_natCast, ← hB]
    · rcases readv_bad (l.length : Int) B with h | ⟨m, h⟩
      · rw [h]
        exact Ev.const fun k => by
          rw [if_neg (by simp)]
          simp
      · obtain ⟨r1, r2, r3⟩ := readv_lay _ _ m h
        rw [h]
        refine Ev.congr (fun k => if_pos (by rfl)) (Ev.bind (SameStrings_ne m l (by omega) (by omega) (fun he => hne (by rw [← r3, he]))) (Ev.const fun k => rfl))
  · rw [if_neg c]
    refine Ev.congr (f := fun k => copselaw6_CellsSpot.j0 k (⟨#[]⟩ : ByteArray) (some 3) true l p b) (fun k => by rw [if_neg (by simp)]; rfl) (Ev.done fun k => ?_)
    simp only [copselaw6_CellsSpot.j0]
    rw [if_pos trivial, if_neg (by simp)]
    decide +kernel
end Go.Proofs.YtmjdkddpfcfepaaDoor.XCellsSpot
