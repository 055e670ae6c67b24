/- The pure side of CellsLays (upto). -/
import Derived.Test.YtmjdkddpfcfepaaDoorXCellsLaysx
import Derived.Laws.BitsLemmas
set_option linter.unusedVariables false
set_option linter.unusedSimpArgs false
namespace Go.Proofs.YtmjdkddpfcfepaaDoor.XCellsLays
open Go.RowKit Go.Proofs.YtmjdkddpfcfepaaDoorW.PrintWords Go.Proofs.YtmjdkddpfcfepaaDoorW.PrintLast
theorem w64 {n : Int} (h0 : -9223372036854775808 ≤ n) (h1 : n < 9223372036854775808) : wrap64 n = n := by unfold wrap64; omega
theorem Ev.loop {α : Type} {σ : Nat → Nat → Option α} {r : α} {n : Nat} (h : ∀ i, i < n → ∀ k, σ i (k + 1) = σ (i + 1) k) (he : Ev (σ n) r) : ∀ i, i ≤ n → Ev (σ i) r := by
  have : ∀ d i, i + d = n → Ev (σ i) r := by
    intro d
    induction d with
    | zero => intro i hi; obtain rfl : i = n := by omega
              exact he
    | succ d ih => intro i hi; exact Ev.step (h i (by omega)) (ih (i + 1) (by omega))
  intro i hi
  exact this (n - i) i (by omega)
theorem Ev.loop' {α : Type} {σ : Nat → Nat → Option α} {r : α} {n : Nat} (h : ∀ i, i < n → Ev (σ (i + 1)) r → Ev (σ i) r) (he : Ev (σ n) r) : ∀ i, i ≤ n → Ev (σ i) r := by
  have : ∀ d i, i + d = n → Ev (σ i) r := by
    intro d
    induction d with
    | zero => intro i hi; obtain rfl : i = n := by omega
              exact he
    | succ d ih => intro i hi; exact h i (by omega) (ih (i + 1) (by omega))
  intro i hi
  exact this (n - i) i (by omega)
theorem Ev.done {α : Type} {g : Nat → Option α} {r : α} (h : ∀ k, g (k + 1) = some r) : Ev g r := Ev.step h (Ev.now r)
theorem Ev.const {α : Type} {g : Nat → Option α} {r : α} (h : ∀ k, g k = some r) : Ev g r := ⟨0, fun k _ => h k⟩
theorem Ev.bindc {α β : Type} {o : Option α} {f : Nat → α → Option β} {a : α} {r : β} (h : o = some a) (k : Ev (fun n => f n a) r) : Ev (fun n => o.bind (f n)) r := by subst h; exact k
theorem bt_nat (s : ByteArray) (i : Nat) (h : i < s.size) : bt s (i : Int) = (bytesOf s)[i]'(by rw [bytesOf_length]; exact h) := by
  unfold bt bytesOf
  rw [dif_pos (by simpa using h)]
  simp only [Int.toNat_natCast, List.getElem_map, Array.getElem_toList]
  rfl
theorem rd_nat (l : List Int) (i : Nat) (h : i < l.length) : rd l (i : Int) = l[i] := by
  unfold rd
  rw [Int.toNat_natCast, List.getD_eq_getElem?_getD, List.getElem?_eq_getElem h]
  rfl
theorem bytesOf_range (s : ByteArray) : ∀ z ∈ bytesOf s, 0 ≤ z ∧ z < 256 := by
  intro z hz
  unfold bytesOf at hz
  obtain ⟨b, _, rfl⟩ := List.mem_map.1 hz
  have := b.toNat_lt
  omega
theorem take_snoc {α : Type} (l : List α) (i : Nat) (h : i < l.length) : l.take i ++ [l[i]] = l.take (i + 1) := by
  rw [List.take_succ_eq_append_getElem h]
theorem rd_getD (l : List Int) (i : Nat) : rd l (i : Int) = l.getD i 0 := by unfold rd; rw [Int.toNat_natCast]
theorem rd_left (l m : List Int) (i : Nat) (h : i < l.length) : rd (l ++ m) (i : Int) = rd l (i : Int) := by
  rw [rd_getD, rd_getD, List.getD_eq_getElem?_getD, List.getD_eq_getElem?_getD, List.getElem?_append_left h]
theorem rd_right (l m : List Int) (i : Nat) (h : l.length ≤ i) : rd (l ++ m) (i : Int) = rd m ((i - l.length : Nat) : Int) := by
  rw [rd_getD, rd_getD, List.getD_eq_getElem?_getD, List.getD_eq_getElem?_getD, List.getElem?_append_right h]
theorem rd_drop0 (l : List Int) (i : Nat) (h : i < l.length) : rd (l.drop i) ((0 : Nat) : Int) = l[i] := by
  rw [List.drop_eq_getElem_cons h]; rfl

/-! bodies: laid out and read -/
theorem bx_bytes (s : ByteArray) (a b : Nat) : bytesOf (s.extract a b) = ((bytesOf s).take b).drop a := by
  unfold bytesOf
  rw [ByteArray.data_extract, Array.toList_extract, List.extract_eq_take_drop]
  rw [← List.map_take, ← List.map_drop, List.drop_take]
theorem str_bytes (s : ByteArray) : strOfNums (bytesOf s) = s := by
  unfold strOfNums bytesOf
  rw [List.map_map, show ((fun n : Int => UInt8.ofNat n.toNat) ∘ fun b : UInt8 => (b.toNat : Int)) = id from by
    funext b
    simp]
  simp
theorem bytes_inj {s t : ByteArray} (h : bytesOf s = bytesOf t) : s = t := by rw [← str_bytes s, ← str_bytes t, h]
theorem bytes_str (l : List Int) (h : ∀ z ∈ l, 0 ≤ z ∧ z < 256) : bytesOf (strOfNums l) = l := by
  unfold strOfNums bytesOf
  rw [List.map_map]
  refine (List.map_congr_left (g := id) fun z hz => ?_).trans (List.map_id l)
  have := h z hz
  simp only [Function.comp_apply, id]
  rw [UInt8.toNat_ofNat']
  omega
/-- The byte at a place. -/
def b_ (s : ByteArray) (k : Nat) : Nat := ((bytesOf s).getD k 0).toNat
theorem b_lt (s : ByteArray) (k : Nat) : b_ s k < 256 := by
  unfold b_
  rw [List.getD_eq_getElem?_getD]
  rcases h : (bytesOf s)[k]? with _ | z
  · decide
  · have hz := bytesOf_range s z (List.mem_of_getElem? h)
    simp only [Option.getD_some]
    omega
theorem bt_b (s : ByteArray) (k : Nat) (h : k < s.size) : bt s (k : Int) = (b_ s k : Int) := by
  rw [bt_nat s k h]
  have hz := bytesOf_range s _ (List.getElem_mem (l := bytesOf s) (n := k) (by rw [bytesOf_length]; exact h))
  unfold b_
  rw [List.getD_eq_getElem?_getD, List.getElem?_eq_getElem (by rw [bytesOf_length]; exact h)]
  simp only [Option.getD_some]
  omega
theorem b_get (s : ByteArray) (k : Nat) (h : k < s.size) : (bytesOf s)[k]? = some (b_ s k : Int) := by
  have hz := bytesOf_range s _ (List.getElem_mem (l := bytesOf s) (n := k) (by rw [bytesOf_length]; exact h))
  unfold b_
  rw [List.getD_eq_getElem?_getD, List.getElem?_eq_getElem (by rw [bytesOf_length]; exact h)]
  simp only [Option.getD_some]
  congr 1
  omega
/-- The slot of that number. -/
def slot (s : ByteArray) (i : Nat) : Nat := b_ s (2 * i) * 256 + b_ s (2 * i + 1)

/-! what Lay lays -/
theorem rdO (l : List ByteArray) (i : Nat) (h : i < l.length) : rdOf ByteArray.empty l (i : Int) = l[i] := by
  unfold rdOf
  rw [Int.toNat_natCast, List.getD_eq_getElem?_getD, List.getElem?_eq_getElem h]
  rfl
theorem gD (l : List ByteArray) (i : Nat) (h : i < l.length) : l.getD i ⟨#[]⟩ = l[i] := by
  rw [List.getD_eq_getElem?_getD, List.getElem?_eq_getElem h]
  rfl
theorem size_w (a b : Int) : wrap64 (wrap64 a + b) = wrap64 (a + b) := by unfold wrap64; omega
theorem SizeC_ev (l : List ByteArray) (hl : l.length ≤ 8796093022208) : Ev (fun k => cells_Size.f k l) (wrap64 ((layE l l.length : Nat) : Int)) := by
  have h0 := Ev.loop (σ := fun i k => cells_Size.l0 k (wrap64 ((layE l i : Nat) : Int)) l (l.length : Int) (i : Int)) (r := wrap64 ((layE l l.length : Nat) : Int)) (n := l.length) (fun i hi k => by
    have e := layE_succ l i hi
    rw [gD l i hi] at e
    have c1 : (i : Int) < (l.length : Int) := by omega
    have c2 : (0 : Int) ≤ (i : Int) := by omega
    have w1 : wrap64 ((i : Int) + 1) = ((i + 1 : Nat) : Int) := w64 (by omega) (by omega)
    simp only [cells_Size.l0]
    rw [if_pos c1, if_pos c2, if_pos c1, rdO l i hi, size_w, w1, e]
    congr 2) (Ev.done fun k => by
    simp only [cells_Size.l0]
    rw [if_neg (by omega)]) 0 (by omega)
  refine Ev.congr (fun k => ?_) h0
  unfold cells_Size.f layE
  simp
def layS (l : List ByteArray) : ByteArray := strOfNums (layC l l.length)
theorem Lay_ev (l : List ByteArray) (hl : l.length ≤ 8796093022208) (ht : layE l l.length < 4611686018427387904) : Ev (fun k => cells_Lay.f k l) (if layE l l.length ≤ 4072 then (layS l, none) else ((⟨#[]⟩ : ByteArray), some 3)) := by
  have h := SizeC_ev l hl
  rw [w64 (by omega) (by omega)] at h
  unfold cells_Lay.f
  refine Ev.bind h (Ev.const fun k => ?_)
  by_cases c : layE l l.length ≤ 4072
  · rw [if_neg (by omega), if_pos c, if_pos c]
    rfl
  · rw [if_pos (by omega), if_neg c]
theorem layC_at (l : List ByteArray) (hfit : layE l l.length ≤ 4072) (i : Nat) (hi : i < l.length) (k : Nat) :
    (layC l (i + 1))[k]? = if k = 2 * i + 1 then some ((layE l (i + 1) : Int) % 256) else if k = 2 * i then some ((layE l (i + 1) : Int) / 256 % 256) else
      if k < layE l i then (layC l i)[k]? else if k < layE l (i + 1) then (bytesOf l[i])[k - layE l i]? else (layC l i)[k]? := by
  have hC := layC_len l hfit i (by omega)
  have e1 := layE_succ l i hi
  have e2 := layE_le l (i + 1) hi
  have e3 : 2 * l.length ≤ layE l i := by unfold layE; omega
  rw [gD l i hi] at e1
  have hb : (bytesOf l[i]).length = l[i].size := bytesOf_length _
  have ht : ((layC l i).take (layE l i)).length = layE l i := by rw [List.length_take, hC]; omega
  simp only [layC]
  rw [gD l i hi, List.getElem?_set, List.getElem?_set]
  have hlen : ((layC l i).take (layE l i) ++ bytesOf l[i] ++ (layC l i).drop (layE l (i + 1))).length = 4072 := by
    simp only [List.length_append, ht, hb, List.length_drop, hC]; omega
  rw [List.length_set, hlen]
  by_cases c1 : k = 2 * i + 1
  · rw [if_pos c1.symm, if_pos c1, if_pos (by omega)]
  rw [if_neg (fun h => c1 h.symm), if_neg c1]
  by_cases c2 : k = 2 * i
  · rw [if_pos c2.symm, if_pos c2, if_pos (by omega)]
  rw [if_neg (fun h => c2 h.symm), if_neg c2]
  by_cases c3 : k < layE l i
  · rw [if_pos c3, List.append_assoc, List.getElem?_append_left (by omega), List.getElem?_take, if_pos c3]
  rw [if_neg c3]
  by_cases c4 : k < layE l (i + 1)
  · rw [if_pos c4, List.getElem?_append_left (by rw [List.length_append]; omega), List.getElem?_append_right (by omega), ht]
  · rw [if_neg c4, List.getElem?_append_right (by rw [List.length_append]; omega), List.getElem?_drop, List.length_append, ht, hb]
    congr 1
    omega
theorem layC_inv (l : List ByteArray) (hfit : layE l l.length ≤ 4072) : ∀ i, i ≤ l.length →
    (∀ j (hj : j < i), (layC l i)[2 * j]? = some ((layE l (j + 1) : Int) / 256 % 256) ∧ (layC l i)[2 * j + 1]? = some ((layE l (j + 1) : Int) % 256)) ∧
    (∀ j (hj : j < l.length), j < i → ∀ m, m < l[j].size → (layC l i)[layE l j + m]? = (bytesOf l[j])[m]?) ∧
    (∀ k, (layE l i ≤ k ∨ (2 * i ≤ k ∧ k < 2 * l.length)) → k < 4072 → (layC l i)[k]? = some 0) := by
  intro i
  induction i with
  | zero =>
    intro _
    refine ⟨fun j hj => by omega, fun j _ hj => by omega, fun k _ hk => ?_⟩
    rw [layC, List.getElem?_replicate, if_pos hk]
  | succ i ih =>
    intro hi
    obtain ⟨i1, i2, i3⟩ := ih (by omega)
    have e1 := layE_succ l i hi
    rw [gD l i hi] at e1
    have e3 : 2 * l.length ≤ layE l i := by unfold layE; omega
    refine ⟨fun j hj => ?_, fun j hjl hj m hm => ?_, fun k hk hk2 => ?_⟩
    · rw [layC_at l hfit i hi, layC_at l hfit i hi]
      by_cases c : j = i
      · subst c
        rw [if_neg (by omega), if_pos rfl, if_pos rfl]
        exact ⟨rfl, rfl⟩
      · rw [if_neg (by omega), if_neg (by omega), if_pos (by omega), if_neg (by omega), if_neg (by omega), if_pos (by omega)]
        exact i1 j (by omega)
    · have e4 : 2 * l.length ≤ layE l j := by unfold layE; omega
      rw [layC_at l hfit i hi, if_neg (by omega), if_neg (by omega)]
      by_cases c : j = i
      · subst c
        rw [if_neg (by omega), if_pos (by omega), show layE l j + m - layE l j = m by omega]
      · have e5 := layE_succ l j hjl
        rw [gD l j hjl] at e5
        have e6 : layE l (j + 1) ≤ layE l i := by
          have : ∀ d, layE l (j + 1) ≤ layE l (j + 1 + d) := by
            intro d
            induction d with
            | zero => exact Nat.le_refl _
            | succ d ihd =>
              by_cases hd : j + 1 + d < l.length
              · have := layE_succ l (j + 1 + d) hd
                rw [show j + 1 + (d + 1) = j + 1 + d + 1 by omega]
                omega
              · have : layE l (j + 1 + (d + 1)) = layE l (j + 1 + d) := by
                  unfold layE
                  rw [List.take_of_length_le (by omega), List.take_of_length_le (by omega)]
                omega
          have := this (i - (j + 1))
          rwa [show j + 1 + (i - (j + 1)) = i by omega] at this
        rw [if_pos (by omega)]
        exact i2 j hjl (by omega) m hm
    · rw [layC_at l hfit i hi, if_neg (by omega), if_neg (by omega)]
      by_cases c : k < layE l i
      · rw [if_pos c]
        exact i3 k (by omega) hk2
      · rw [if_neg c, if_neg (by omega)]
        exact i3 k (by omega) hk2
theorem layC_range (l : List ByteArray) : ∀ i, ∀ z ∈ layC l i, 0 ≤ z ∧ z < 256
  | 0 => fun z hz => by
    have := List.eq_of_mem_replicate hz
    omega
  | i + 1 => fun z hz => by
    simp only [layC] at hz
    rcases List.mem_or_eq_of_mem_set hz with hz | hz
    · rcases List.mem_or_eq_of_mem_set hz with hz | hz
      · rcases List.mem_append.1 hz with hz | hz
        · rcases List.mem_append.1 hz with hz | hz
          · exact layC_range l i z (List.mem_of_mem_take hz)
          · exact bytesOf_range _ z hz
        · exact layC_range l i z (List.mem_of_mem_drop hz)
      · omega
    · omega
theorem layS_bytes (l : List ByteArray) : bytesOf (layS l) = layC l l.length := bytes_str _ (layC_range l _)
theorem layS_size (l : List ByteArray) (hfit : layE l l.length ≤ 4072) : (layS l).size = 4072 := by
  rw [← bytesOf_length, layS_bytes, layC_len l hfit _ (Nat.le_refl _)]
theorem layS_b (l : List ByteArray) (k : Nat) (z : Int) (h : (layC l l.length)[k]? = some z) : b_ (layS l) k = z.toNat := by
  unfold b_
  rw [layS_bytes, List.getD_eq_getElem?_getD, h]
  rfl
theorem lay_slot (l : List ByteArray) (hfit : layE l l.length ≤ 4072) (i : Nat) (hi : i < l.length) : slot (layS l) i = layE l (i + 1) := by
  obtain ⟨i1, _, _⟩ := layC_inv l hfit l.length (Nat.le_refl _)
  obtain ⟨h1, h2⟩ := i1 i hi
  have e2 := layE_le l (i + 1) hi
  unfold slot
  rw [layS_b l _ _ h1, layS_b l _ _ h2]
  omega
theorem lay_cell (l : List ByteArray) (hfit : layE l l.length ≤ 4072) (i : Nat) (hi : i < l.length) : (layS l).extract (layE l i) (layE l (i + 1)) = l[i] := by
  obtain ⟨_, i2, _⟩ := layC_inv l hfit l.length (Nat.le_refl _)
  have e1 := layE_succ l i hi
  rw [gD l i hi] at e1
  refine bytes_inj (List.ext_getElem? fun m => ?_)
  rw [bx_bytes, layS_bytes, List.getElem?_drop, List.getElem?_take]
  by_cases c : m < l[i].size
  · rw [if_pos (by omega)]
    exact i2 i hi hi m c
  · rw [if_neg (by omega), List.getElem?_eq_none (by rw [bytesOf_length]; omega)]
theorem find_cell (l : List ByteArray) (k : Nat) (h1 : layE l 0 ≤ k) : ∀ i, i ≤ l.length → k < layE l i → ∃ j, j < i ∧ layE l j ≤ k ∧ k < layE l (j + 1)
  | 0, _, h => by omega
  | i + 1, hi, h => by
    by_cases c : layE l i ≤ k
    · exact ⟨i, by omega, c, h⟩
    · obtain ⟨j, h2, h3⟩ := find_cell l k h1 i (by omega) (by omega)
      exact ⟨j, by omega, h3⟩

/-! the document's Lay -/
def hd (l : List ByteArray) : Nat → List Int
  | 0 => []
  | i + 1 => hd l i ++ [((layE l (i + 1) : Int) / 256) % 256, (layE l (i + 1) : Int) % 256]
def dt (l : List ByteArray) : Nat → List Int
  | 0 => []
  | i + 1 => dt l i ++ bytesOf (l.getD i ⟨#[]⟩)
theorem hd_len (l : List ByteArray) : ∀ i, (hd l i).length = 2 * i
  | 0 => rfl
  | i + 1 => by rw [hd, List.length_append, hd_len l i]; simp; omega
theorem dt_len (l : List ByteArray) : ∀ i, i ≤ l.length → (dt l i).length = layE l i - 2 * l.length
  | 0, _ => by simp [dt, layE]
  | i + 1, h => by
    have ih := dt_len l i (by omega)
    have e := layE_succ l i h
    have e3 : 2 * l.length ≤ layE l i := by unfold layE; omega
    rw [dt, List.length_append, ih, bytesOf_length]
    omega
theorem hd_at (l : List ByteArray) : ∀ i j, j < i → (hd l i)[2 * j]? = some ((layE l (j + 1) : Int) / 256 % 256) ∧ (hd l i)[2 * j + 1]? = some ((layE l (j + 1) : Int) % 256)
  | 0, j, h => by omega
  | i + 1, j, h => by
    have hl := hd_len l i
    rw [hd]
    by_cases c : j = i
    · subst c
      rw [List.getElem?_append_right (by omega), List.getElem?_append_right (by omega), hl, show 2 * j - 2 * j = 0 by omega, show 2 * j + 1 - 2 * j = 1 by omega]
      exact ⟨rfl, rfl⟩
    · rw [List.getElem?_append_left (by omega), List.getElem?_append_left (by omega)]
      exact hd_at l i j (by omega)
theorem dt_at (l : List ByteArray) : ∀ i, i ≤ l.length → ∀ j (hj : j < l.length), j < i → ∀ m, m < l[j].size → (dt l i)[layE l j - 2 * l.length + m]? = (bytesOf l[j])[m]?
  | 0, _, j, _, h, _, _ => by omega
  | i + 1, hi, j, hj, h, m, hm => by
    have hl := dt_len l i (by omega)
    have e := layE_succ l j hj
    rw [gD l j hj] at e
    have e3 : 2 * l.length ≤ layE l j := by unfold layE; omega
    rw [dt, gD l i hi]
    by_cases c : j = i
    · subst c
      rw [List.getElem?_append_right (by omega), hl]
      congr 1
      omega
    · have ih := dt_at l i (by omega) j hj (by omega) m hm
      have hlt : layE l j - 2 * l.length + m < (dt l i).length := by
        rcases Nat.lt_or_ge (layE l j - 2 * l.length + m) (dt l i).length with h1 | h1
        · exact h1
        · rw [List.getElem?_eq_none h1] at ih
          rw [List.getElem?_eq_getElem (by rw [bytesOf_length]; exact hm)] at ih
          cases ih
      rw [List.getElem?_append_left hlt]
      exact ih
theorem layC_eq (l : List ByteArray) (hfit : layE l l.length ≤ 4072) : layC l l.length = hd l l.length ++ dt l l.length ++ List.replicate (4072 - layE l l.length) 0 := by
  obtain ⟨i1, i2, i3⟩ := layC_inv l hfit l.length (Nat.le_refl _)
  have h1 := hd_len l l.length
  have h2 := dt_len l l.length (Nat.le_refl _)
  have e3 : 2 * l.length ≤ layE l l.length := by unfold layE; omega
  refine List.ext_getElem? fun k => ?_
  by_cases c1 : k < 2 * l.length
  · have hj : k / 2 < l.length := by omega
    obtain ⟨a1, a2⟩ := i1 (k / 2) hj
    obtain ⟨b1, b2⟩ := hd_at l l.length (k / 2) hj
    rw [List.append_assoc, List.getElem?_append_left (by omega)]
    by_cases par : k = 2 * (k / 2)
    · rw [← par] at a1 b1
      rw [a1, b1]
    · have par : k = 2 * (k / 2) + 1 := by omega
      rw [← par] at a2 b2
      rw [a2, b2]
  · by_cases c2 : k < layE l l.length
    · obtain ⟨j, hj1, hj2, hj3⟩ := find_cell l k (by simp [layE]; omega) l.length (Nat.le_refl _) c2
      have e1 := layE_succ l j hj1
      rw [gD l j hj1] at e1
      have e4 : 2 * l.length ≤ layE l j := by unfold layE; omega
      have a1 := i2 j hj1 hj1 (k - layE l j) (by omega)
      have a2 := dt_at l l.length (Nat.le_refl _) j hj1 hj1 (k - layE l j) (by omega)
      rw [show layE l j + (k - layE l j) = k by omega] at a1
      rw [show layE l j - 2 * l.length + (k - layE l j) = k - 2 * l.length by omega] at a2
      rw [List.append_assoc, List.getElem?_append_right (by omega), h1, List.getElem?_append_left (by omega), a1, a2]
    · rw [List.getElem?_append_right (by rw [List.length_append]; omega), List.length_append, h1, h2]
      by_cases c3 : k < 4072
      · rw [i3 k (.inl (by omega)) c3, List.getElem?_replicate, if_pos (by omega)]
      · rw [List.getElem?_eq_none (by rw [layC_len l hfit _ (Nat.le_refl _)]; omega), List.getElem?_eq_none (by rw [List.length_replicate]; omega)]
def totR (l : List ByteArray) (i : Nat) : Nat := 2 * i + ((l.take i).map (·.size)).sum
theorem totR_succ (l : List ByteArray) (i : Nat) (h : i < l.length) : totR l (i + 1) = totR l i + 2 + l[i].size := by
  unfold totR
  rw [List.take_succ_eq_append_getElem h, List.map_append, List.sum_append]
  simp
  omega
theorem size_w2 (s a : Int) : wrap64 (wrap64 (wrap64 s + 2) + a) = wrap64 (s + 2 + a) := by unfold wrap64; omega
theorem enc2 (E : Nat) (h : E ≤ 4072) : (wrap64 (Int.tdiv (E : Int) 256)) % 256 = (E : Int) / 256 % 256 ∧ (Int.tmod (E : Int) 256) % 256 = (E : Int) % 256 := by
  rw [Int.tdiv_eq_ediv_of_nonneg (by omega), Int.tmod_eq_emod_of_nonneg (by omega), w64 (by omega) (by omega)]
  exact ⟨rfl, by omega⟩
theorem add_w (a b c : Nat) (h : a + b = c) (hc : c ≤ 4072) : wrap64 ((a : Int) + (b : Int)) = (c : Int) := by rw [w64 (by omega) (by omega)]; omega
theorem inc_w (i : Nat) (h : i ≤ 8796093022208) : wrap64 ((i : Int) + 1) = ((i + 1 : Nat) : Int) := w64 (by omega) (by omega)
theorem RSizeC_ev (l : List ByteArray) (hl : l.length ≤ 8796093022208) : Ev (fun k => copseref6_Size.f k l) (wrap64 ((layE l l.length : Nat) : Int)) := by
  have h0 := Ev.loop (σ := fun i k => copseref6_Size.l0 k l (wrap64 ((totR l i : Nat) : Int)) (i : Int)) (r := wrap64 ((layE l l.length : Nat) : Int)) (n := l.length) (fun i hi k => by
    have e := totR_succ l i hi
    have c1 : (i : Int) < (l.length : Int) := by omega
    have c2 : (0 : Int) ≤ (i : Int) := by omega
    have e2 : ((totR l (i + 1) : Nat) : Int) = ((totR l i : Nat) : Int) + 2 + (l[i].size : Int) := by omega
    have w1 := inc_w i (by omega)
    simp only [copseref6_Size.l0]
    rw [if_pos c1, if_pos c2, rdO l i hi, size_w2, w1, e2]) (Ev.done fun k => by
    simp only [copseref6_Size.l0]
    rw [if_neg (by omega)]
    rfl) 0 (by omega)
  rw [show totR l 0 = 0 by simp [totR], show wrap64 ((0 : Nat) : Int) = 0 by simp [wrap64]] at h0
  exact h0
theorem RLay_ev (l : List ByteArray) (hl : l.length ≤ 8796093022208) (hfit : layE l l.length ≤ 4072) : Ev (fun k => copseref6_Lay.f k l) (layS l, 0) := by
  have hS := RSizeC_ev l hl
  rw [w64 (by omega) (by omega)] at hS
  have hn : l.length ≤ 2036 := by unfold layE at hfit; omega
  have e0 : layE l 0 = 2 * l.length := by simp [layE]
  unfold copseref6_Lay.f
  refine Ev.bind hS (Ev.congr (f := fun k => copseref6_Lay.l0 k l ((layE l l.length : Nat) : Int) ([] : List Int) ((layE l 0 : Nat) : Int) 0) (fun k => ?_) ?_)
  · rw [if_neg (by omega), w64 (by omega) (by omega), e0]
    rfl
  have l2 := Ev.loop (σ := fun i k => copseref6_Lay.l2 k (hd l l.length ++ dt l l.length ++ List.replicate i 0) ((layE l l.length + i : Nat) : Int)) (r := (layS l, 0)) (n := 4072 - layE l l.length) (fun i hi k => by
    have h1 := hd_len l l.length
    have h2 := dt_len l l.length (Nat.le_refl _)
    have hlen : (hd l l.length ++ dt l l.length ++ List.replicate i 0).length < 140737488355328 := by
      rw [List.length_append, List.length_append, List.length_replicate]; omega
    have c1 : ((layE l l.length + i : Nat) : Int) < 4072 := by omega
    have w1 : wrap64 (((layE l l.length + i : Nat) : Int) + 1) = ((layE l l.length + (i + 1) : Nat) : Int) := inc_w (layE l l.length + i) (by omega)
    simp only [copseref6_Lay.l2]
    rw [if_pos c1, if_pos hlen, w1, List.append_assoc _ _ [0], ← List.replicate_succ']) (Ev.done fun k => by
    simp only [copseref6_Lay.l2]
    rw [if_neg (by omega), ← layC_eq l hfit]
    rfl) 0 (by omega)
  have l1 := Ev.loop (σ := fun i k => copseref6_Lay.l1 k l ((layE l l.length : Nat) : Int) (hd l l.length ++ dt l i) (i : Int)) (r := (layS l, 0)) (n := l.length) (fun i hi k => by
    have h1 := hd_len l l.length
    have h2 := dt_len l i (by omega)
    have e1 := layE_succ l i hi
    have e2 := layE_le l (i + 1) hi
    rw [gD l i hi] at e1
    have hlen : (hd l l.length ++ dt l i).length + l[i].size < 140737488355328 := by rw [List.length_append]; omega
    have c1 : (i : Int) < (l.length : Int) := by omega
    have c2 : (0 : Int) ≤ (i : Int) := by omega
    have w1 := inc_w i (by omega)
    simp only [copseref6_Lay.l1]
    rw [if_pos c1, if_pos c2, rdO l i hi, if_pos hlen, w1, List.append_assoc, show dt l i ++ bytesOf l[i] = dt l (i + 1) by rw [dt, gD l i hi]]) (Ev.step (fun k => by
    simp only [copseref6_Lay.l1]
    rw [if_neg (by omega)]) (by simpa using l2)) 0 (by omega)
  have l0 := Ev.loop (σ := fun i k => copseref6_Lay.l0 k l ((layE l l.length : Nat) : Int) (hd l i) ((layE l i : Nat) : Int) (i : Int)) (r := (layS l, 0)) (n := l.length) (fun i hi k => by
    have h1 := hd_len l i
    have e1 := layE_succ l i hi
    have e2 := layE_le l (i + 1) hi
    rw [gD l i hi] at e1
    have c1 : (i : Int) < (l.length : Int) := by omega
    have c2 : (0 : Int) ≤ (i : Int) := by omega
    have c3 : ∀ a b : Int, (hd l i).length + [a, b].length < 140737488355328 := fun a b => by rw [h1]; simp; omega
    have d := enc2 (layE l (i + 1)) (by omega)
    have w1 := inc_w i (by omega)
    have w3 := add_w (layE l i) l[i].size (layE l (i + 1)) (by omega) (by omega)
    simp only [copseref6_Lay.l0]
    rw [if_pos c1, if_pos c2, rdO l i hi, w3, d.1, d.2, Option.bind_some, if_pos (c3 _ _), w1]
    rfl) (Ev.step (fun k => by
    simp only [copseref6_Lay.l0]
    rw [if_neg (by omega)]) (by simpa [dt] using l1)) 0 (by omega)
  exact l0

theorem bulk_E (l : List ByteArray) : layE l l.length = 2 * l.length + (l.map (·.size)).sum := by unfold layE; rw [List.take_of_length_le (Nat.le_refl _)]
theorem bulk_sum (l : List ByteArray) : (l.map fun z => z.size + 1).sum = l.length + (l.map (·.size)).sum := by
  induction l with
  | nil => rfl
  | cons a l ih => simp only [List.map_cons, List.sum_cons, List.length_cons, ih]; omega
theorem Texts_eq (l : List ByteArray) (h : l.length < 8796093022208) : copselaw6_texts.f l = some l := by
  unfold copselaw6_texts.f
  rw [if_pos (by simpa using h)]
  rfl
theorem SameStrings_ev (l : List ByteArray) (hl : l.length ≤ 8796093022208) : Ev (fun k => copseref0_SameStrings.f k l l) true := by
  have h := Ev.loop (σ := fun i k => copseref0_SameStrings.l0 k l l (i : Int)) (r := true) (n := l.length) (fun i hi k => by
    simp only [copseref0_SameStrings.l0]
    rw [if_pos (by omega), if_pos (by omega), if_pos (by omega), if_pos trivial, w64 (by omega) (by omega)]
    rfl) (Ev.done fun k => by
    simp only [copseref0_SameStrings.l0]
    rw [if_neg (by omega)]) 0 (by omega)
  exact Ev.congr (fun k => by simp [copseref0_SameStrings.f]) h
noncomputable def rlayP (l : List ByteArray) : ByteArray × Int := if layE l l.length ≤ 4072 then (layS l, 0) else ((⟨#[]⟩ : ByteArray), 3)
noncomputable def layP (l : List ByteArray) : ByteArray × Option Int := if layE l l.length ≤ 4072 then (layS l, none) else ((⟨#[]⟩ : ByteArray), some 3)
theorem RLayP_ev (l : List ByteArray) (hl : l.length ≤ 8796093022208) (ht : layE l l.length < 4611686018427387904) : Ev (fun k => copseref6_Lay.f k l) (rlayP l) := by
  unfold rlayP
  by_cases c : layE l l.length ≤ 4072
  · rw [if_pos c]
    exact RLay_ev l hl c
  · rw [if_neg c]
    have hS := RSizeC_ev l hl
    rw [w64 (by omega) (by omega)] at hS
    unfold copseref6_Lay.f
    exact Ev.bind hS (Ev.const fun k => if_pos (by omega))
theorem lay_same (l : List ByteArray) : (layP l).1 = (rlayP l).1 ∧ copsekit_Num.f (layP l).2 = some (rlayP l).2 := by
  unfold layP rlayP
  by_cases c : layE l l.length ≤ 4072
  · rw [if_pos c, if_pos c]
    exact ⟨rfl, by simp [copsekit_Num.f]⟩
  · rw [if_neg c, if_neg c]
    exact ⟨rfl, by simp [copsekit_Num.f, en]⟩
theorem rdO_mem (l : List ByteArray) (i : Nat) (h : i < l.length) : rdOf ByteArray.empty l (i : Int) ∈ l := by
  rw [rdO l i h]
  exact List.getElem_mem h
def tn (l : List ByteArray) : Nat → List ByteArray
  | 0 => l
  | i + 1 => ((tn l i).set i (rdOf ByteArray.empty (tn l i) ((l.length - 1 - i : Nat) : Int))).set (l.length - 1 - i) (rdOf ByteArray.empty (tn l i) (i : Int))
theorem tn_len (l : List ByteArray) : ∀ i, (tn l i).length = l.length
  | 0 => rfl
  | i + 1 => by rw [tn, List.length_set, List.length_set, tn_len l i]
theorem tn_bd (l : List ByteArray) (M : Nat) (h : ∀ z ∈ l, z.size ≤ M) : ∀ i, i ≤ l.length / 2 → ∀ z ∈ tn l i, z.size ≤ M
  | 0, _, z, hz => h z hz
  | i + 1, hi, z, hz => by
    have ih := tn_bd l M h i (by omega)
    have hl := tn_len l i
    rw [tn] at hz
    rcases List.mem_or_eq_of_mem_set hz with hz | rfl
    · rcases List.mem_or_eq_of_mem_set hz with hz | rfl
      · exact ih z hz
      · exact ih _ (rdO_mem _ _ (by omega))
    · exact ih _ (rdO_mem _ _ (by omega))
theorem size_snoc (s : ByteArray) : (s ++ (⟨#[122]⟩ : ByteArray)).size = s.size + 1 := by
  show (s ++ (⟨#[122]⟩ : ByteArray)).data.size = s.data.size + 1
  rw [ByteArray.data_append, Array.size_append]
  rfl
theorem Turn_ev (l : List ByteArray) (M : Nat) (hl : l.length ≤ 8796093022208) (hM : M ≤ 140737488351232) (h : ∀ z ∈ l, z.size ≤ M) : ∃ r, r.length = l.length ∧ (∀ z ∈ r, z.size ≤ M + 1) ∧ Ev (fun k => copselaw6_turn.f k l) r := by
  have hlen := tn_len l (l.length / 2)
  have hbd := tn_bd l M h (l.length / 2) (Nat.le_refl _)
  have hloop : ∀ r, Ev (fun k => copselaw6_turn.l0 k (tn l (l.length / 2)) ((l.length / 2 : Nat) : Int)) r → Ev (fun k => copselaw6_turn.f k l) r := fun r he => by
    refine Ev.loop (σ := fun i k => copselaw6_turn.l0 k (tn l i) (i : Int)) (n := l.length / 2) (fun i hi k => ?_) he 0 (by omega)
    have hti := tn_len l i
    have c1 : (i : Int) < ((l.length / 2 : Nat) : Int) := by omega
    have c2 : (0 : Int) ≤ (i : Int) := by omega
    have c3 : (i : Int) < (l.length : Int) := by omega
    have c4 : (0 : Int) ≤ ((l.length - 1 - i : Nat) : Int) := by omega
    have c5 : ((l.length - 1 - i : Nat) : Int) < (l.length : Int) := by omega
    have w1 : wrap64 ((l.length : Int) / 2) = ((l.length / 2 : Nat) : Int) := by rw [w64 (by omega) (by omega)]; omega
    have w2 : wrap64 ((wrap64 ((l.length : Int) - 1)) - (i : Int)) = ((l.length - 1 - i : Nat) : Int) := by
      rw [w64 (n := (l.length : Int) - 1) (by omega) (by omega), w64 (by omega) (by omega)]
      omega
    have w3 : wrap64 ((i : Int) + 1) = ((i + 1 : Nat) : Int) := w64 (by omega) (by omega)
    simp only [copselaw6_turn.l0, hti, w1, w2, w3]
    rw [if_pos c1, if_pos c2, if_pos c3, if_pos c4, if_pos c5, Int.toNat_natCast, Int.toNat_natCast]
    rfl
  have w1 : wrap64 ((l.length : Int) / 2) = ((l.length / 2 : Nat) : Int) := by rw [w64 (by omega) (by omega)]; omega
  by_cases c : l.length = 0
  · refine ⟨tn l (l.length / 2), hlen, fun z hz => Nat.le_succ_of_le (hbd z hz), hloop _ (Ev.done fun k => ?_)⟩
    have c2 : ¬ (l.length : Int) > 0 := by omega
    simp only [copselaw6_turn.l0, hlen, w1]
    rw [if_neg (Int.lt_irrefl _), if_neg c2]
  · have hs := hbd _ (rdO_mem (tn l (l.length / 2)) (l.length - 1) (by omega))
    refine ⟨(tn l (l.length / 2)).set (l.length - 1) (rdOf ByteArray.empty (tn l (l.length / 2)) ((l.length - 1 : Nat) : Int) ++ (⟨#[122]⟩ : ByteArray)), by rw [List.length_set, hlen], fun z hz => ?_, hloop _ (Ev.done fun k => ?_)⟩
    · rcases List.mem_or_eq_of_mem_set hz with hz | rfl
      · exact Nat.le_succ_of_le (hbd z hz)
      · rw [size_snoc]
        omega
    · have c2 : (l.length : Int) > 0 := by omega
      have c3 : (0 : Int) ≤ ((l.length - 1 : Nat) : Int) := by omega
      have c4 : ((l.length - 1 : Nat) : Int) < (l.length : Int) := by omega
      have c5 : (rdOf ByteArray.empty (tn l (l.length / 2)) ((l.length - 1 : Nat) : Int)).size + 1 ≤ 9223372036854775807 := by omega
      have w2 : wrap64 ((l.length : Int) - 1) = ((l.length - 1 : Nat) : Int) := by rw [w64 (by omega) (by omega)]; omega
      simp only [copselaw6_turn.l0, hlen, w1, w2]
      rw [if_neg (Int.lt_irrefl _), if_pos c2, if_pos c3, if_pos c4, if_pos c5, Int.toNat_natCast]
theorem sum_le (l : List ByteArray) (M : Nat) (h : ∀ z ∈ l, z.size ≤ M) : (l.map (·.size)).sum ≤ l.length * M := by
  induction l with
  | nil => simp
  | cons a l ih =>
    have h1 := h a (by simp)
    have h2 := ih (fun z hz => h z (by simp [hz]))
    simp only [List.map_cons, List.sum_cons, List.length_cons, Nat.add_mul, Nat.one_mul]
    omega
theorem mem_le (l : List ByteArray) : ∀ z ∈ l, z.size ≤ (l.map (·.size)).sum := by
  induction l with
  | nil => simp
  | cons a l ih =>
    intro z hz
    simp only [List.map_cons, List.sum_cons]
    rcases List.mem_cons.1 hz with rfl | hz
    · omega
    · have := ih z hz
      omega
theorem pure_side : ∀ (l0 : List ByteArray), (l0.length * 16 ≤ 140737488351232 ∧ ∀ z ∈ l0, z.size ≤ 140737488351232) → ((l0.map fun z => (z.size + 1)).sum + 1) ≤ 1048576 → ∃ k, copselaw6_CellsLays.f k l0 = some true := by
  intro l hl hb
  refine Ev.rounds (g := fun k => copselaw6_CellsLays.f k l) ?_
  have hl := hl.1
  rw [bulk_sum] at hb
  have hE := bulk_E l
  have hM : ∀ z ∈ l, z.size ≤ 1048576 := fun z hz => by
    have := mem_le l z hz
    omega
  obtain ⟨u, u1, u2, hu⟩ := Turn_ev l 1048576 (by omega) (by omega) hM
  have hEu := bulk_E u
  have hsu := sum_le u _ u2
  have hmul : u.length * (1048576 + 1) ≤ 1048576 * (1048576 + 1) := Nat.mul_le_mul_right _ (by omega)
  have hEu2 : layE u u.length ≤ 4398046511104 := by omega
  have hEl2 : layE l l.length ≤ 4398046511104 := by omega
  have hT := Texts_eq l (by omega)
  have hS := SizeC_ev l (by omega)
  have hRS := RSizeC_ev l (by omega)
  have hL := Lay_ev l (by omega) (by omega)
  have hRL := RLayP_ev l (by omega) (by omega)
  have hSu := SizeC_ev u (by omega)
  have hRSu := RSizeC_ev u (by omega)
  have hLu := Lay_ev u (by omega) (by omega)
  have hRLu := RLayP_ev u (by omega) (by omega)
  have hSS := SameStrings_ev l (by omega)
  obtain ⟨n1, n2⟩ := lay_same l
  obtain ⟨m1, m2⟩ := lay_same u
  change Ev (fun k => cells_Lay.f k l) (layP l) at hL
  change Ev (fun k => cells_Lay.f k u) (layP u) at hLu
  have hlen : (l ++ [(⟨#[98, 101, 104, 105, 110, 100]⟩ : ByteArray)]).length = l.length + 1 := by rw [List.length_append, List.length_singleton]
  have htake : (l ++ [(⟨#[98, 101, 104, 105, 110, 100]⟩ : ByteArray)]).take l.length = l := by rw [List.take_append_of_le_length (Nat.le_refl _), List.take_of_length_le (Nat.le_refl _)]
  have hlast : rdOf ByteArray.empty (l ++ [(⟨#[98, 101, 104, 105, 110, 100]⟩ : ByteArray)]) (l.length : Int) = (⟨#[98, 101, 104, 105, 110, 100]⟩ : ByteArray) := by
    rw [rdO _ l.length (by omega), List.getElem_append_right (Nat.le_refl _)]
    simp
  have d0 : l.length < 8796093022208 := by omega
  have d1 : (0 : Int) ≤ (l.length : Int) := by omega
  have d2 : (l.length : Int) ≤ ((l ++ [(⟨#[98, 101, 104, 105, 110, 100]⟩ : ByteArray)]).length : Int) := by omega
  have d3 : (l.length : Int) < ((l ++ [(⟨#[98, 101, 104, 105, 110, 100]⟩ : ByteArray)]).length : Int) := by omega
  obtain ⟨F, hF⟩ : ∃ F, F = l ++ [(⟨#[98, 101, 104, 105, 110, 100]⟩ : ByteArray)] := ⟨_, rfl⟩
  rcases hp : layP l with ⟨s, e⟩
  rcases hq : rlayP l with ⟨t, f⟩
  rcases hp2 : layP u with ⟨s2, e2⟩
  rcases hq2 : rlayP u with ⟨t2, f2⟩
  rw [hp, hq] at n1 n2
  rw [hp2, hq2] at m1 m2
  rw [hp] at hL
  rw [hq] at hRL
  rw [hp2] at hLu
  rw [hq2] at hRLu
  simp only [] at n1 n2 m1 m2
  subst n1 m1
  have hj1 : Ev (fun k => copselaw6_CellsLays.j1 k l F false) true := by
    refine Ev.step (f := fun k => (copselaw6_turn.f k l).bind fun t161 => ((cells_Size.f k t161).bind fun t164 => ((cells_Lay.f k t161).bind fun bt165 => ((copselaw6_turn.f k l).bind fun t170 => ((copseref6_Lay.f k t170).bind fun bt173 => ((copselaw6_turn.f k l).bind fun t178 => ((copseref6_Size.f k t178).bind fun t181 => (if t164 = t181 then (if bt165.1.toList = bt173.1.toList then ((copsekit_Num.f bt165.2).bind fun t182 => (some (t182 == bt173.2))) else (some false)) else (some false))))))))) (fun k => ?_) ?_
    · simp only [copselaw6_CellsLays.j1]
      rw [if_neg (by simp), hF, htake]
      simp only [hT, Option.bind_some]
    · refine Ev.bind hu (Ev.bind hSu (Ev.bind hLu (Ev.bind hu (Ev.bind hRLu (Ev.bind hu (Ev.bind hRSu (Ev.const fun k => ?_)))))))
      rw [if_pos rfl, if_pos rfl, m2]
      simp
  have hj0 : Ev (fun k => copselaw6_CellsLays.j0 k l F (wrap64 ((layE l l.length : Nat) : Int)) s e s f true) true := by
    refine Ev.step (f := fun k => (copseref6_Size.f k l).bind fun t159 => (if wrap64 ((layE l l.length : Nat) : Int) = t159 then (copselaw6_CellsLays.j1 k l F false) else (copselaw6_CellsLays.j1 k l F true))) (fun k => ?_) (Ev.bind hRS (Ev.congr (fun k => if_pos rfl) hj1))
    simp only [copselaw6_CellsLays.j0, hT, Option.bind_some, n2]
    simp
  unfold copselaw6_CellsLays.f
  simp only [hT, Option.bind_some, if_pos d0, if_pos d1, if_pos d2, Int.toNat_natCast, htake]
  refine Ev.bind hS (Ev.bind hL (Ev.bind hRL (Ev.bind hSS (Ev.congr (fun k => ?_) hj0))))
  rw [if_pos rfl, if_pos d3, hlast, ← hF, show ((⟨#[98, 101, 104, 105, 110, 100]⟩ : ByteArray).toList == ([98, 101, 104, 105, 110, 100] : List UInt8)) = true by decide +kernel]
end Go.Proofs.YtmjdkddpfcfepaaDoor.XCellsLays
