/- The pure side of CellsReads (upto). -/
import Derived.Test.YtmjdkddpfcfepaaDoorXCellsReadsx
import Derived.Laws.BitsLemmas
set_option linter.unusedVariables false
set_option linter.unusedSimpArgs false
namespace Go.Proofs.YtmjdkddpfcfepaaDoor.XCellsReads
open Go.RowKit Go.Proofs.YtmjdkddpfcfepaaDoorW.PrintWords Go.Proofs.YtmjdkddpfcfepaaDoorW.PrintLast
theorem w64 {n : Int} (h0 : -9223372036854775808 ≤ n) (h1 : n < 9223372036854775808) : wrap64 n = n := by unfold wrap64; omega
theorem Ev.loop {α : Type} {σ : Nat → Nat → Option α} {r : α} {n : Nat} (h : ∀ i, i < n → ∀ k, σ i (k + 1) = σ (i + 1) k) (he : Ev (σ n) r) : ∀ i, i ≤ n → Ev (σ i) r := by
  have : ∀ d i, i + d = n → Ev (σ i) r := by
    intro d
    induction d with
    | zero => intro i hi; obtain rfl : i = n := by omega
              exact he
    | succ d ih => intro i hi; exact Ev.step (h i (by omega)) (ih (i + 1) (by omega))
  intro i hi
  exact this (n - i) i (by omega)
theorem Ev.loop' {α : Type} {σ : Nat → Nat → Option α} {r : α} {n : Nat} (h : ∀ i, i < n → Ev (σ (i + 1)) r → Ev (σ i) r) (he : Ev (σ n) r) : ∀ i, i ≤ n → Ev (σ i) r := by
  have : ∀ d i, i + d = n → Ev (σ i) r := by
    intro d
    induction d with
    | zero => intro i hi; obtain rfl : i = n := by omega
              exact he
    | succ d ih => intro i hi; exact h i (by omega) (ih (i + 1) (by omega))
  intro i hi
  exact this (n - i) i (by omega)
theorem Ev.done {α : Type} {g : Nat → Option α} {r : α} (h : ∀ k, g (k + 1) = some r) : Ev g r := Ev.step h (Ev.now r)
theorem Ev.const {α : Type} {g : Nat → Option α} {r : α} (h : ∀ k, g k = some r) : Ev g r := ⟨0, fun k _ => h k⟩
theorem Ev.bindc {α β : Type} {o : Option α} {f : Nat → α → Option β} {a : α} {r : β} (h : o = some a) (k : Ev (fun n => f n a) r) : Ev (fun n => o.bind (f n)) r := by subst h; exact k
theorem bt_nat (s : ByteArray) (i : Nat) (h : i < s.size) : bt s (i : Int) = (bytesOf s)[i]'(by rw [bytesOf_length]; exact h) := by
  unfold bt bytesOf
  rw [dif_pos (by simpa using h)]
  simp only [Int.toNat_natCast, List.getElem_map, Array.getElem_toList]
  rfl
theorem rd_nat (l : List Int) (i : Nat) (h : i < l.length) : rd l (i : Int) = l[i] := by
  unfold rd
  rw [Int.toNat_natCast, List.getD_eq_getElem?_getD, List.getElem?_eq_getElem h]
  rfl
theorem bytesOf_range (s : ByteArray) : ∀ z ∈ bytesOf s, 0 ≤ z ∧ z < 256 := by
  intro z hz
  unfold bytesOf at hz
  obtain ⟨b, _, rfl⟩ := List.mem_map.1 hz
  have := b.toNat_lt
  omega
theorem take_snoc {α : Type} (l : List α) (i : Nat) (h : i < l.length) : l.take i ++ [l[i]] = l.take (i + 1) := by
  rw [List.take_succ_eq_append_getElem h]
theorem rd_getD (l : List Int) (i : Nat) : rd l (i : Int) = l.getD i 0 := by unfold rd; rw [Int.toNat_natCast]
theorem rd_left (l m : List Int) (i : Nat) (h : i < l.length) : rd (l ++ m) (i : Int) = rd l (i : Int) := by
  rw [rd_getD, rd_getD, List.getD_eq_getElem?_getD, List.getD_eq_getElem?_getD, List.getElem?_append_left h]
theorem rd_right (l m : List Int) (i : Nat) (h : l.length ≤ i) : rd (l ++ m) (i : Int) = rd m ((i - l.length : Nat) : Int) := by
  rw [rd_getD, rd_getD, List.getD_eq_getElem?_getD, List.getD_eq_getElem?_getD, List.getElem?_append_right h]
theorem rd_drop0 (l : List Int) (i : Nat) (h : i < l.length) : rd (l.drop i) ((0 : Nat) : Int) = l[i] := by
  rw [List.drop_eq_getElem_cons h]; rfl

theorem rdO (l : List ByteArray) (i : Nat) (h : i < l.length) : rdOf ByteArray.empty l (i : Int) = l[i] := by
  unfold rdOf
  rw [Int.toNat_natCast, List.getD_eq_getElem?_getD, List.getElem?_eq_getElem h]
  rfl
/-! bodies: laid out and read -/
theorem bx_bytes (s : ByteArray) (a b : Nat) : bytesOf (s.extract a b) = ((bytesOf s).take b).drop a := by
  unfold bytesOf
  rw [ByteArray.data_extract, Array.toList_extract, List.extract_eq_take_drop]
  rw [← List.map_take, ← List.map_drop, List.drop_take]
theorem str_bytes (s : ByteArray) : strOfNums (bytesOf s) = s := by
  unfold strOfNums bytesOf
  rw [List.map_map, show ((fun n : Int => UInt8.ofNat n.toNat) ∘ fun b : UInt8 => (b.toNat : Int)) = id from by
    funext b
    simp]
  simp
theorem bytes_inj {s t : ByteArray} (h : bytesOf s = bytesOf t) : s = t := by rw [← str_bytes s, ← str_bytes t, h]
theorem bytes_str (l : List Int) (h : ∀ z ∈ l, 0 ≤ z ∧ z < 256) : bytesOf (strOfNums l) = l := by
  unfold strOfNums bytesOf
  rw [List.map_map]
  refine (List.map_congr_left (g := id) fun z hz => ?_).trans (List.map_id l)
  have := h z hz
  simp only [Function.comp_apply, id]
  rw [UInt8.toNat_ofNat']
  omega
/-- The byte at a place. -/
def b_ (s : ByteArray) (k : Nat) : Nat := ((bytesOf s).getD k 0).toNat
theorem b_lt (s : ByteArray) (k : Nat) : b_ s k < 256 := by
  unfold b_
  rw [List.getD_eq_getElem?_getD]
  rcases h : (bytesOf s)[k]? with _ | z
  · decide
  · have hz := bytesOf_range s z (List.mem_of_getElem? h)
    simp only [Option.getD_some]
    omega
theorem bt_b (s : ByteArray) (k : Nat) (h : k < s.size) : bt s (k : Int) = (b_ s k : Int) := by
  rw [bt_nat s k h]
  have hz := bytesOf_range s _ (List.getElem_mem (l := bytesOf s) (n := k) (by rw [bytesOf_length]; exact h))
  unfold b_
  rw [List.getD_eq_getElem?_getD, List.getElem?_eq_getElem (by rw [bytesOf_length]; exact h)]
  simp only [Option.getD_some]
  omega
theorem b_get (s : ByteArray) (k : Nat) (h : k < s.size) : (bytesOf s)[k]? = some (b_ s k : Int) := by
  have hz := bytesOf_range s _ (List.getElem_mem (l := bytesOf s) (n := k) (by rw [bytesOf_length]; exact h))
  unfold b_
  rw [List.getD_eq_getElem?_getD, List.getElem?_eq_getElem (by rw [bytesOf_length]; exact h)]
  simp only [Option.getD_some]
  congr 1
  omega
/-- The slot of that number. -/
def slot (s : ByteArray) (i : Nat) : Nat := b_ s (2 * i) * 256 + b_ s (2 * i + 1)
def readL (s : ByteArray) : Nat → Nat → Nat → Option (List ByteArray × Nat)
  | 0, _, at_ => some ([], at_)
  | d + 1, i, at_ => if slot s i < at_ ∨ 4072 < slot s i then none else (readL s d (i + 1) (slot s i)).map fun x => (s.extract at_ (slot s i) :: x.1, x.2)
def clean (s : ByteArray) (t : Nat) : Prop := ∀ k, t ≤ k → k < 4072 → b_ s k = 0
open Classical in
noncomputable def readv (count : Int) (s : ByteArray) : List ByteArray × Option Int :=
  if count < 0 ∨ 2036 < count ∨ s.size ≠ 4072 then ([], some 2)
  else match readL s count.toNat 0 (2 * count.toNat) with
    | none => ([], some 2)
    | some (l, t) => if clean s t then (l, none) else ([], some 2)
theorem or_slot (x y : Nat) (hx : x < 256) (hy : y < 256) : Go.bits .or .i64 (wrap64 ((wrap64 (x : Int)) * 256)) (wrap64 (y : Int)) = ((x * 256 + y : Nat) : Int) := by
  rw [w64 (n := (x : Int)) (by omega) (by omega), w64 (by omega) (by omega), w64 (by omega) (by omega)]
  rw [bits_join .i64 16 (by decide) (fun n a b => by
    have h16 : (2 : Int) ^ 16 = 65536 := by decide
    rw [h16] at b
    exact (i64_w n).trans (w64 (by omega) (by omega))) 8 _ _ (by omega) (by simp) (by
    have h16 : (2 : Int) ^ 16 = 65536 := by decide
    omega) (by omega) (by simpa using (by omega : (y : Int) < 256)) (by
    have h16 : (2 : Int) ^ 16 = 65536 := by decide
    omega)]
  omega
theorem clean_ev (s : ByteArray) (hs : s.size = 4072) (l : List ByteArray) (t : Nat) (r : List ByteArray × Option Int) (hc : clean s t → r = (l, none)) (hn : ¬ clean s t → r = ([], some 2)) (ht : t ≤ 4072) :
    Ev (fun k => cells_Read.l1 k s l (t : Int)) r := by
  by_cases h : clean s t
  · rw [hc h]
    have := Ev.loop (σ := fun i k => cells_Read.l1 k s l ((t + i : Nat) : Int)) (r := (l, none)) (n := 4072 - t) (fun i hi k => by
      have hb : b_ s (t + i) = 0 := h (t + i) (by omega) (by omega)
      simp only [cells_Read.l1]
      rw [if_pos (by omega), if_pos (by omega), bt_b s (t + i) (by omega), hb, if_pos (by rfl), w64 (by omega) (by omega)]
      rfl) (Ev.done fun k => by
      simp only [cells_Read.l1]
      rw [if_neg (by omega)]) 0 (by omega)
    exact this
  · rw [hn h]
    have : ∃ k, t ≤ k ∧ k < 4072 ∧ b_ s k ≠ 0 := by
      refine Classical.byContradiction fun hne => h fun k h1 h2 => Classical.byContradiction fun hb => hne ⟨k, h1, h2, hb⟩
    obtain ⟨k0, h1, h2, h3⟩ := this
    have hbad : ∀ k, k < 4072 → b_ s k ≠ 0 → Ev (fun f => cells_Read.l1 f s l (k : Int)) ([], some 2) := fun k hk hb => Ev.done fun f => by
      simp only [cells_Read.l1]
      rw [if_pos (by omega), if_pos (by omega), bt_b s k (by omega), if_neg (by omega)]
    have := Ev.loop' (σ := fun i k => cells_Read.l1 k s l ((t + i : Nat) : Int)) (r := (([], some 2) : List ByteArray × Option Int)) (n := k0 - t) (fun i hi hnx => by
      by_cases hb : b_ s (t + i) = 0
      · refine Ev.step (fun k => ?_) hnx
        simp only [cells_Read.l1]
        rw [if_pos (by omega), if_pos (by omega), bt_b s (t + i) (by omega), hb, if_pos (by rfl), w64 (by omega) (by omega)]
        rfl
      · exact hbad (t + i) (by omega) hb) (by
      have := hbad k0 h2 h3
      rwa [show t + (k0 - t) = k0 by omega]) 0 (by omega)
    exact this
theorem readL_bd (s : ByteArray) : ∀ (d i at_ : Nat) (l : List ByteArray) (t : Nat), at_ ≤ 4072 → readL s d i at_ = some (l, t) → t ≤ 4072
  | 0, i, at_, l, t, ha, h => by simp only [readL, Option.some.injEq, Prod.mk.injEq] at h; omega
  | d + 1, i, at_, l, t, ha, h => by
    unfold readL at h
    by_cases c : slot s i < at_ ∨ 4072 < slot s i
    · rw [if_pos c] at h; cases h
    · rw [if_neg c] at h
      obtain ⟨x, hx, he⟩ := Option.map_eq_some_iff.1 h
      simp only [Prod.mk.injEq] at he
      have := readL_bd s d (i + 1) (slot s i) x.1 x.2 (by omega) hx
      omega
theorem read_loop (s : ByteArray) (hs : s.size = 4072) (n : Nat) (hn : n ≤ 2036) : ∀ (d i at_ : Nat) (acc : List ByteArray) (r : List ByteArray × Option Int), i + d = n → at_ ≤ 4072 → acc.length ≤ i →
    (match readL s d i at_ with | none => r = ([], some 2) | some (l, t) => (clean s t → r = (acc ++ l, none)) ∧ (¬ clean s t → r = ([], some 2))) →
    Ev (fun k => cells_Read.l0 k s acc (at_ : Int) (n : Int) (i : Int)) r := by
  intro d
  induction d with
  | zero =>
    intro i at_ acc r hi ha hl hr
    simp only [readL] at hr
    rw [List.append_nil] at hr
    refine Ev.step (fun k => ?_) (clean_ev s hs acc at_ r hr.1 hr.2 ha)
    simp only [cells_Read.l0]
    rw [if_neg (by omega)]
  | succ d ih =>
    intro i at_ acc r hi ha hl hr
    have hb1 := b_lt s (2 * i)
    have hb2 := b_lt s (2 * i + 1)
    have w1 : wrap64 (2 * (i : Int)) = ((2 * i : Nat) : Int) := by rw [w64 (by omega) (by omega)]; omega
    have w2 : wrap64 (((2 * i : Nat) : Int) + 1) = ((2 * i + 1 : Nat) : Int) := by rw [w64 (by omega) (by omega)]; omega
    have hs1 : Go.bits .or .i64 (wrap64 ((wrap64 (bt s ((2 * i : Nat) : Int))) * 256)) (wrap64 (bt s ((2 * i + 1 : Nat) : Int))) = ((slot s i : Nat) : Int) := by
      rw [bt_b s (2 * i) (by omega), bt_b s (2 * i + 1) (by omega), or_slot _ _ hb1 hb2]
      rfl
    unfold readL at hr
    have c1 : (i : Int) < (n : Int) := by omega
    have c2 : (0 : Int) ≤ ((2 * i : Nat) : Int) := by omega
    have c3 : ((2 * i : Nat) : Int) < (s.size : Int) := by omega
    have c4 : (0 : Int) ≤ ((2 * i + 1 : Nat) : Int) := by omega
    have c5 : ((2 * i + 1 : Nat) : Int) < (s.size : Int) := by omega
    by_cases c : slot s i < at_ ∨ 4072 < slot s i
    · rw [if_pos c] at hr
      simp only at hr
      rw [hr]
      refine Ev.done fun k => ?_
      simp only [cells_Read.l0, w1, w2, hs1]
      rw [if_pos c1, if_pos c2, if_pos c3, if_pos c4, if_pos c5]
      by_cases e : slot s i < at_
      · rw [if_pos (by omega)]
      · rw [if_neg (by omega), if_pos (by omega)]
    · rw [if_neg c] at hr
      have hstep : ∀ k, cells_Read.l0 (k + 1) s acc (at_ : Int) (n : Int) (i : Int) = cells_Read.l0 k s (acc ++ [s.extract at_ (slot s i)]) ((slot s i : Nat) : Int) (n : Int) ((i + 1 : Nat) : Int) := fun k => by
        have d1 : ¬ ((slot s i : Nat) : Int) < (at_ : Int) := by omega
        have d2 : ¬ ((slot s i : Nat) : Int) > (s.size : Int) := by omega
        have d3 : (0 : Int) ≤ (at_ : Int) := by omega
        have d4 : (at_ : Int) ≤ ((slot s i : Nat) : Int) := by omega
        have d5 : ((slot s i : Nat) : Int) ≤ (s.size : Int) := by omega
        have d6 : acc.length < 8796093022208 := by omega
        have w3 : wrap64 ((i : Int) + 1) = ((i + 1 : Nat) : Int) := w64 (by omega) (by omega)
        simp only [cells_Read.l0, w1, w2, hs1, w3]
        rw [if_pos c1, if_pos c2, if_pos c3, if_pos c4, if_pos c5, if_neg d1, if_neg d2, if_pos d3, if_pos d4, if_pos d5, if_pos d6, Int.toNat_natCast, Int.toNat_natCast]
      refine Ev.step hstep (ih (i + 1) (slot s i) _ r (by omega) (by omega) (by simp; omega) ?_)
      rcases hq : readL s d (i + 1) (slot s i) with _ | ⟨l, t⟩
      · rw [hq] at hr
        simpa using hr
      · rw [hq] at hr
        simp only [Option.map_some] at hr
        show (clean s t → r = (acc ++ [s.extract at_ (slot s i)] ++ l, none)) ∧ (¬clean s t → r = ([], some 2))
        rw [List.append_assoc]
        exact hr
theorem Read_ev (count : Int) (s : ByteArray) : Ev (fun k => cells_Read.f k count s) (readv count s) := by
  have hbad : Ev (fun k => cells_Read.j0 k count s true) ([], some 2) := Ev.done fun k => by simp [cells_Read.j0]
  unfold readv
  by_cases c1 : count < 0
  · rw [if_pos (.inl c1)]
    exact Ev.congr (fun k => by unfold cells_Read.f; rw [if_pos c1]) hbad
  by_cases c2 : 2036 < count
  · rw [if_pos (.inr (.inl c2))]
    exact Ev.congr (fun k => by unfold cells_Read.f; rw [if_neg c1, if_pos c2]) hbad
  by_cases c3 : s.size = 4072
  · rw [if_neg (by omega)]
    obtain ⟨n, rfl⟩ := Int.eq_ofNat_of_zero_le (show 0 ≤ count by omega)
    have hw : wrap64 (2 * (n : Int)) = ((2 * n : Nat) : Int) := by rw [w64 (by omega) (by omega)]; omega
    refine Ev.congr (f := fun k => cells_Read.j0 k (n : Int) s false) (fun k => by
      unfold cells_Read.f
      rw [if_neg c1, if_neg c2, c3]
      rfl) (Ev.step (f := fun k => cells_Read.l0 k s ([] : List ByteArray) ((2 * n : Nat) : Int) (n : Int) 0) (fun k => by
      simp only [cells_Read.j0, hw]
      rw [if_neg (by simp), if_pos (by omega), if_pos (by omega)]) ?_)
    refine read_loop s c3 n (by omega) n 0 (2 * n) [] _ (by omega) (by omega) (by simp) ?_
    rw [Int.toNat_natCast]
    rcases hq : readL s n 0 (2 * n) with _ | ⟨l, t⟩
    · rfl
    · exact ⟨fun h => by simp [h], fun h => by simp [h]⟩
  · rw [if_pos (.inr (.inr c3))]
    exact Ev.congr (fun k => by
      unfold cells_Read.f
      rw [if_neg c1, if_neg c2, show ((s.size : Int) != 4072) = true by rw [bne_iff_ne]; omega]) hbad

/-! the document's Read -/
noncomputable def rreadv (count : Int) (s : ByteArray) : List ByteArray × Int := ((readv count s).1, (readv count s).2.getD 0)
theorem sum_slot (x y : Nat) (hx : x < 256) (hy : y < 256) : wrap64 ((wrap64 ((wrap64 (x : Int)) * 256)) + (wrap64 (y : Int))) = ((x * 256 + y : Nat) : Int) := by
  rw [w64 (n := (x : Int)) (by omega) (by omega), w64 (n := (x : Int) * 256) (by omega) (by omega), w64 (n := (y : Int)) (by omega) (by omega), w64 (by omega) (by omega)]
  omega
theorem rclean_ev (s : ByteArray) (hs : s.size = 4072) (l : List ByteArray) (t : Nat) (r : List ByteArray × Int) (hc : clean s t → r = (l, 0)) (hn : ¬ clean s t → r = ([], 2)) (ht : t ≤ 4072) :
    Ev (fun k => copseref6_Read.l1 k s l (t : Int)) r := by
  by_cases h : clean s t
  · rw [hc h]
    have := Ev.loop (σ := fun i k => copseref6_Read.l1 k s l ((t + i : Nat) : Int)) (r := (l, 0)) (n := 4072 - t) (fun i hi k => by
      have hb : b_ s (t + i) = 0 := h (t + i) (by omega) (by omega)
      simp only [copseref6_Read.l1]
      rw [if_pos (by omega), if_pos (by omega), if_pos (by omega), bt_b s (t + i) (by omega), hb, if_pos (by rfl), w64 (by omega) (by omega)]
      rfl) (Ev.done fun k => by
      simp only [copseref6_Read.l1]
      rw [if_neg (by omega)]) 0 (by omega)
    exact this
  · rw [hn h]
    have : ∃ k, t ≤ k ∧ k < 4072 ∧ b_ s k ≠ 0 := by
      refine Classical.byContradiction fun hne => h fun k h1 h2 => Classical.byContradiction fun hb => hne ⟨k, h1, h2, hb⟩
    obtain ⟨k0, h1, h2, h3⟩ := this
    have hbad : ∀ k, k < 4072 → b_ s k ≠ 0 → Ev (fun f => copseref6_Read.l1 f s l (k : Int)) ([], 2) := fun k hk hb => Ev.done fun f => by
      simp only [copseref6_Read.l1]
      rw [if_pos (by omega), if_pos (by omega), if_pos (by omega), bt_b s k (by omega), if_neg (by omega)]
    have := Ev.loop' (σ := fun i k => copseref6_Read.l1 k s l ((t + i : Nat) : Int)) (r := (([], 2) : List ByteArray × Int)) (n := k0 - t) (fun i hi hnx => by
      by_cases hb : b_ s (t + i) = 0
      · refine Ev.step (fun k => ?_) hnx
        simp only [copseref6_Read.l1]
        rw [if_pos (by omega), if_pos (by omega), if_pos (by omega), bt_b s (t + i) (by omega), hb, if_pos (by rfl), w64 (by omega) (by omega)]
        rfl
      · exact hbad (t + i) (by omega) hb) (by
      have := hbad k0 h2 h3
      rwa [show t + (k0 - t) = k0 by omega]) 0 (by omega)
    exact this
theorem rread_loop (s : ByteArray) (hs : s.size = 4072) (n : Nat) (hn : n ≤ 2036) : ∀ (d i at_ : Nat) (acc : List ByteArray) (r : List ByteArray × Int), i + d = n → at_ ≤ 4072 → acc.length ≤ i →
    (match readL s d i at_ with | none => r = ([], 2) | some (l, t) => (clean s t → r = (acc ++ l, 0)) ∧ (¬ clean s t → r = ([], 2))) →
    Ev (fun k => copseref6_Read.l0 k (n : Int) s acc (at_ : Int) (i : Int)) r := by
  intro d
  induction d with
  | zero =>
    intro i at_ acc r hi ha hl hr
    simp only [readL] at hr
    rw [List.append_nil] at hr
    refine Ev.step (fun k => ?_) (rclean_ev s hs acc at_ r hr.1 hr.2 ha)
    simp only [copseref6_Read.l0]
    rw [if_neg (by omega)]
  | succ d ih =>
    intro i at_ acc r hi ha hl hr
    have hb1 := b_lt s (2 * i)
    have hb2 := b_lt s (2 * i + 1)
    have w1 : wrap64 (2 * (i : Int)) = ((2 * i : Nat) : Int) := by rw [w64 (by omega) (by omega)]; omega
    have w2 : wrap64 (((2 * i : Nat) : Int) + 1) = ((2 * i + 1 : Nat) : Int) := by rw [w64 (by omega) (by omega)]; omega
    have hs1 : wrap64 ((wrap64 ((wrap64 (bt s ((2 * i : Nat) : Int))) * 256)) + (wrap64 (bt s ((2 * i + 1 : Nat) : Int)))) = ((slot s i : Nat) : Int) := by
      rw [bt_b s (2 * i) (by omega), bt_b s (2 * i + 1) (by omega), sum_slot _ _ hb1 hb2]
      rfl
    unfold readL at hr
    have c1 : (i : Int) < (n : Int) := by omega
    have c2 : (0 : Int) ≤ ((2 * i : Nat) : Int) := by omega
    have c3 : ((2 * i : Nat) : Int) < (s.size : Int) := by omega
    have c4 : (0 : Int) ≤ ((2 * i + 1 : Nat) : Int) := by omega
    have c5 : ((2 * i + 1 : Nat) : Int) < (s.size : Int) := by omega
    by_cases c : slot s i < at_ ∨ 4072 < slot s i
    · rw [if_pos c] at hr
      simp only at hr
      rw [hr]
      refine Ev.done fun k => ?_
      simp only [copseref6_Read.l0, w1, w2, hs1]
      rw [if_pos c1, if_pos c2, if_pos c3, if_pos c4, if_pos c5]
      by_cases e : slot s i < at_
      · rw [if_pos (by omega)]
      · rw [if_neg (by omega), if_pos (by omega)]
    · rw [if_neg c] at hr
      have hstep : ∀ k, copseref6_Read.l0 (k + 1) (n : Int) s acc (at_ : Int) (i : Int) = copseref6_Read.l0 k (n : Int) s (acc ++ [s.extract at_ (slot s i)]) ((slot s i : Nat) : Int) ((i + 1 : Nat) : Int) := fun k => by
        have d1 : ¬ ((slot s i : Nat) : Int) < (at_ : Int) := by omega
        have d2 : ¬ ((slot s i : Nat) : Int) > 4072 := by omega
        have d3 : (0 : Int) ≤ (at_ : Int) := by omega
        have d4 : (at_ : Int) ≤ ((slot s i : Nat) : Int) := by omega
        have d5 : ((slot s i : Nat) : Int) ≤ (s.size : Int) := by omega
        have d6 : acc.length < 8796093022208 := by omega
        have w3 : wrap64 ((i : Int) + 1) = ((i + 1 : Nat) : Int) := w64 (by omega) (by omega)
        simp only [copseref6_Read.l0, w1, w2, hs1, w3]
        rw [if_pos c1, if_pos c2, if_pos c3, if_pos c4, if_pos c5, if_neg d1, if_neg d2, if_pos d3, if_pos d4, if_pos d5, if_pos d6, Int.toNat_natCast, Int.toNat_natCast]
      refine Ev.step hstep (ih (i + 1) (slot s i) _ r (by omega) (by omega) (by simp; omega) ?_)
      rcases hq : readL s d (i + 1) (slot s i) with _ | ⟨l, t⟩
      · rw [hq] at hr
        simpa using hr
      · rw [hq] at hr
        simp only [Option.map_some] at hr
        show (clean s t → r = (acc ++ [s.extract at_ (slot s i)] ++ l, 0)) ∧ (¬clean s t → r = ([], 2))
        rw [List.append_assoc]
        exact hr
theorem RRead_ev (count : Int) (s : ByteArray) : Ev (fun k => copseref6_Read.f k count s) (rreadv count s) := by
  have hbad : Ev (fun k => copseref6_Read.j0 k count s true) ([], 2) := Ev.done fun k => by simp [copseref6_Read.j0]
  unfold rreadv readv
  by_cases c1 : count < 0
  · rw [if_pos (.inl c1)]
    exact Ev.congr (fun k => by unfold copseref6_Read.f; rw [if_pos c1]) hbad
  by_cases c2 : 2036 < count
  · rw [if_pos (.inr (.inl c2))]
    exact Ev.congr (fun k => by unfold copseref6_Read.f; rw [if_neg c1, if_pos c2]) hbad
  by_cases c3 : s.size = 4072
  · rw [if_neg (by omega)]
    obtain ⟨n, rfl⟩ := Int.eq_ofNat_of_zero_le (show 0 ≤ count by omega)
    have hw : wrap64 (2 * (n : Int)) = ((2 * n : Nat) : Int) := by rw [w64 (by omega) (by omega)]; omega
    refine Ev.congr (f := fun k => copseref6_Read.j0 k (n : Int) s false) (fun k => by
      unfold copseref6_Read.f
      rw [if_neg c1, if_neg c2, c3]
      rfl) (Ev.step (f := fun k => copseref6_Read.l0 k (n : Int) s ([] : List ByteArray) ((2 * n : Nat) : Int) 0) (fun k => by
      simp only [copseref6_Read.j0, hw]
      rw [if_neg (by simp)]) ?_)
    refine rread_loop s c3 n (by omega) n 0 (2 * n) [] _ (by omega) (by omega) (by simp) ?_
    rw [Int.toNat_natCast]
    rcases hq : readL s n 0 (2 * n) with _ | ⟨l, t⟩
    · rfl
    · exact ⟨fun h => by simp [h], fun h => by simp [h]⟩
  · rw [if_pos (.inr (.inr c3))]
    exact Ev.congr (fun k => by
      unfold copseref6_Read.f
      rw [if_neg c1, if_neg c2, show ((s.size : Int) != 4072) = true by rw [bne_iff_ne]; omega]) hbad

theorem SameStrings_ev (l : List ByteArray) (hl : l.length ≤ 8796093022208) : Ev (fun k => copseref0_SameStrings.f k l l) true := by
  have h := Ev.loop (σ := fun i k => copseref0_SameStrings.l0 k l l (i : Int)) (r := true) (n := l.length) (fun i hi k => by
    simp only [copseref0_SameStrings.l0]
    rw [if_pos (by omega), if_pos (by omega), if_pos (by omega), if_pos trivial, w64 (by omega) (by omega)]
    rfl) (Ev.done fun k => by
    simp only [copseref0_SameStrings.l0]
    rw [if_neg (by omega)]) 0 (by omega)
  exact Ev.congr (fun k => by simp [copseref0_SameStrings.f]) h
theorem readL_len (s : ByteArray) : ∀ (d i at_ : Nat) (l : List ByteArray) (t : Nat), readL s d i at_ = some (l, t) → l.length = d
  | 0, i, at_, l, t, h => by
    simp only [readL, Option.some.injEq, Prod.mk.injEq] at h
    rw [← h.1]
    rfl
  | d + 1, i, at_, l, t, h => by
    unfold readL at h
    by_cases c : slot s i < at_ ∨ 4072 < slot s i
    · rw [if_pos c] at h; cases h
    · rw [if_neg c] at h
      obtain ⟨x, hx, he⟩ := Option.map_eq_some_iff.1 h
      simp only [Prod.mk.injEq] at he
      have := readL_len s d (i + 1) (slot s i) x.1 x.2 hx
      rw [← he.1, List.length_cons, this]
theorem readv_len (count : Int) (s : ByteArray) : (readv count s).1.length ≤ 2036 := by
  unfold readv
  by_cases c : count < 0 ∨ 2036 < count ∨ s.size ≠ 4072
  · rw [if_pos c]; simp
  · rw [if_neg c]
    rcases hq : readL s count.toNat 0 (2 * count.toNat) with _ | ⟨l, t⟩
    · simp
    · have := readL_len s _ _ _ l t hq
      simp only []
      split
      · simp only []; omega
      · simp
theorem readv_num (count : Int) (s : ByteArray) : copsekit_Num.f (readv count s).2 = some (rreadv count s).2 := by
  unfold rreadv readv
  split
  · simp [copsekit_Num.f, en]
  · split
    · simp [copsekit_Num.f, en]
    · split
      · simp [copsekit_Num.f]
      · simp [copsekit_Num.f, en]
theorem pure_side : ∀ (a0_0 : Int) (a0_1 : ByteArray), (Lit.int .i64 a0_0).wf = true → a0_1.size ≤ 140737488351232 → (1 + (a0_1.size + 1) + 1) ≤ 1048576 → ∃ k, copselaw6_CellsReads.f k a0_0 a0_1 = some true := by
  intro c s _ hs _
  have r1 := Read_ev c s
  have r2 := Read_ev c (s ++ s)
  have q1 := RRead_ev c s
  have q2 := RRead_ev c (s ++ s)
  have l1 := readv_len c s
  have l2 := readv_len c (s ++ s)
  have n1 := readv_num c s
  have n2 := readv_num c (s ++ s)
  have e1 : Ev (fun k => copseref0_SameStrings.f k (readv c s).1 (rreadv c s).1) true := SameStrings_ev (readv c s).1 (by omega)
  have e2 : Ev (fun k => copseref0_SameStrings.f k (readv c (s ++ s)).1 (rreadv c (s ++ s)).1) true := SameStrings_ev (readv c (s ++ s)).1 (by omega)
  have hlens : ∃ K, ∀ k, K ≤ k → copselaw6_CellsReads.lens k c s := by
    obtain ⟨K1, h1⟩ := r1
    obtain ⟨K2, h2⟩ := r2
    refine ⟨K1 + K2, fun k hk => ⟨fun l e h => ?_, fun l e h => ?_⟩⟩
    · have := h1 k (by omega)
      simp only [] at this
      rw [this] at h
      have h3 := congrArg Prod.fst (Option.some.inj h)
      simp only [] at h3
      rw [← h3]
      omega
    · have := h2 k (by omega)
      simp only [] at this
      rw [this] at h
      have h3 := congrArg Prod.fst (Option.some.inj h)
      simp only [] at h3
      rw [← h3]
      omega
  have hsz : s.size + s.size ≤ 9223372036854775807 := by omega
  have hj : Ev (fun k => copselaw6_CellsReads.j0 k (rreadv c s).1 (rreadv c s).2 false c s) true := by
    refine Ev.step (f := fun k => (cells_Read.f k c s).bind fun bt147 => ((copsekit_Num.f bt147.2).bind fun t151 => (if t151 = (rreadv c s).2 then ((copseref0_SameStrings.f k bt147.1 (rreadv c s).1).bind fun t152 => (some t152)) else (some false)))) (fun k => ?_) (Ev.bind r1 (Ev.congr (fun k => by rw [n1, Option.bind_some, if_pos rfl]) (Ev.bind e1 (Ev.const fun k => rfl))))
    simp only [copselaw6_CellsReads.j0]
    rw [if_neg (by simp)]
  have h0 : Ev (fun k => copselaw6_CellsReads.f0 k c s) true := by
    unfold copselaw6_CellsReads.f0
    refine Ev.bind r1 (Ev.congr (fun k => if_pos hsz) (Ev.bind r2 (Ev.bind r1 (Ev.bind q1 (Ev.bind q2 (Ev.congr (f := fun k => (copseref0_SameStrings.f k (readv c s).1 (rreadv c s).1).bind fun t144 => (if t144 = true then ((copseref0_SameStrings.f k (readv c s).1 (rreadv c s).1).bind fun t145 => (if t145 = true then ((copseref0_SameStrings.f k (readv c (s ++ s)).1 (rreadv c (s ++ s)).1).bind fun t146 => (copselaw6_CellsReads.j0 k (rreadv c s).1 (rreadv c s).2 (!t146) c s)) else (copselaw6_CellsReads.j0 k (rreadv c s).1 (rreadv c s).2 true c s))) else (copselaw6_CellsReads.j0 k (rreadv c s).1 (rreadv c s).2 true c s))) (fun k => by rw [n1, Option.bind_some, if_pos rfl, Option.bind_some, if_pos rfl, n2, Option.bind_some, if_pos rfl]) (Ev.bind e1 (Ev.congr (fun k => if_pos rfl) (Ev.bind e1 (Ev.congr (fun k => if_pos rfl) (Ev.bind e2 hj)))))))))))
  obtain ⟨K1, h1⟩ := hlens
  obtain ⟨K2, h2⟩ := h0
  refine ⟨K1 + K2, ?_⟩
  unfold copselaw6_CellsReads.f
  rw [if_pos (h1 _ (by omega))]
  exact h2 _ (by omega)
end Go.Proofs.YtmjdkddpfcfepaaDoor.XCellsReads
