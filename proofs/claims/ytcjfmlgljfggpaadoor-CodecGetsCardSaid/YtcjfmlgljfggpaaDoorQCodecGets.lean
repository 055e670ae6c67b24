/- The pure side of CodecGets: Get, byte by byte, is the document's Get. -/
import Derived.Test.YtcjfmlgljfggpaaDoorXCodecGetsx
import Derived.Laws.BitsLemmas
set_option linter.unusedVariables false
namespace Go.Proofs.YtcjfmlgljfggpaaDoor.XCodecGets
open Go.RowKit Go.Proofs.YtcjfmlgljfggpaaDoorW.PrintWords Go.Proofs.YtcjfmlgljfggpaaDoorW.PrintLast
theorem w64 {n : Int} (h0 : -9223372036854775808 ≤ n) (h1 : n < 9223372036854775808) : wrap64 n = n := by unfold wrap64; omega
theorem Ev.loop {α : Type} {σ : Nat → Nat → Option α} {r : α} {n : Nat} (h : ∀ i, i < n → ∀ k, σ i (k + 1) = σ (i + 1) k) (he : Ev (σ n) r) : ∀ i, i ≤ n → Ev (σ i) r := by
  have : ∀ d i, i + d = n → Ev (σ i) r := by
    intro d
    induction d with
    | zero => intro i hi; obtain rfl : i = n := by omega
              exact he
    | succ d ih => intro i hi; exact Ev.step (h i (by omega)) (ih (i + 1) (by omega))
  intro i hi
  exact this (n - i) i (by omega)
theorem Ev.loop' {α : Type} {σ : Nat → Nat → Option α} {r : α} {n : Nat} (h : ∀ i, i < n → Ev (σ (i + 1)) r → Ev (σ i) r) (he : Ev (σ n) r) : ∀ i, i ≤ n → Ev (σ i) r := by
  have : ∀ d i, i + d = n → Ev (σ i) r := by
    intro d
    induction d with
    | zero => intro i hi; obtain rfl : i = n := by omega
              exact he
    | succ d ih => intro i hi; exact h i (by omega) (ih (i + 1) (by omega))
  intro i hi
  exact this (n - i) i (by omega)
theorem Ev.done {α : Type} {g : Nat → Option α} {r : α} (h : ∀ k, g (k + 1) = some r) : Ev g r := Ev.step h (Ev.now r)
theorem Ev.const {α : Type} {g : Nat → Option α} {r : α} (h : ∀ k, g k = some r) : Ev g r := ⟨0, fun k _ => h k⟩
theorem Ev.bindc {α β : Type} {o : Option α} {f : Nat → α → Option β} {a : α} {r : β} (h : o = some a) (k : Ev (fun n => f n a) r) : Ev (fun n => o.bind (f n)) r := by subst h; exact k
theorem bt_nat (s : ByteArray) (i : Nat) (h : i < s.size) : bt s (i : Int) = (bytesOf s)[i]'(by rw [bytesOf_length]; exact h) := by
  unfold bt bytesOf
  rw [dif_pos (by simpa using h)]
  simp only [Int.toNat_natCast, List.getElem_map, Array.getElem_toList]
  rfl
theorem rd_nat (l : List Int) (i : Nat) (h : i < l.length) : rd l (i : Int) = l[i] := by
  unfold rd
  rw [Int.toNat_natCast, List.getD_eq_getElem?_getD, List.getElem?_eq_getElem h]
  rfl
theorem bytesOf_range (s : ByteArray) : ∀ z ∈ bytesOf s, 0 ≤ z ∧ z < 256 := by
  intro z hz
  unfold bytesOf at hz
  obtain ⟨b, _, rfl⟩ := List.mem_map.1 hz
  have := b.toNat_lt
  omega
theorem take_snoc {α : Type} (l : List α) (i : Nat) (h : i < l.length) : l.take i ++ [l[i]] = l.take (i + 1) := by
  rw [List.take_succ_eq_append_getElem h]
theorem rd_getD (l : List Int) (i : Nat) : rd l (i : Int) = l.getD i 0 := by unfold rd; rw [Int.toNat_natCast]
theorem rd_left (l m : List Int) (i : Nat) (h : i < l.length) : rd (l ++ m) (i : Int) = rd l (i : Int) := by
  rw [rd_getD, rd_getD, List.getD_eq_getElem?_getD, List.getD_eq_getElem?_getD, List.getElem?_append_left h]
theorem rd_right (l m : List Int) (i : Nat) (h : l.length ≤ i) : rd (l ++ m) (i : Int) = rd m ((i - l.length : Nat) : Int) := by
  rw [rd_getD, rd_getD, List.getD_eq_getElem?_getD, List.getD_eq_getElem?_getD, List.getElem?_append_right h]
theorem rd_drop0 (l : List Int) (i : Nat) (h : i < l.length) : rd (l.drop i) ((0 : Nat) : Int) = l[i] := by
  rw [List.drop_eq_getElem_cons h]; rfl

theorem Bytes_ev (s : ByteArray) (hs : s.size ≤ 140737488351232) : Ev (fun k => copsekit_Bytes.f k s) (bytesOf s) := by
  have h := Ev.loop (σ := fun i k => copsekit_Bytes.l0 k s ((bytesOf s).take i) (i : Int)) (r := bytesOf s) (n := s.size) (fun i hi k => by
    have hl : ((bytesOf s).take i).length = i := by rw [List.length_take, bytesOf_length]; omega
    simp only [copsekit_Bytes.l0]
    rw [if_pos (by omega), if_pos (by omega), if_pos (by omega), bt_nat s i hi, take_snoc _ _ (by rw [bytesOf_length]; exact hi), w64 (by omega) (by omega)]
    rfl) (Ev.done fun k => by
    simp only [copsekit_Bytes.l0]
    rw [if_neg (by omega), List.take_of_length_le (by rw [bytesOf_length]; omega)]) 0 (by omega)
  exact h

def marks : List Int := (List.range 64).map fun j => 200 + ((j % 7 : Nat) : Int)
theorem marks_len : marks.length = 64 := rfl
theorem marks_at (j : Nat) (h : j < 64) : marks[j]'(by rw [marks_len]; exact h) = 200 + ((j % 7 : Nat) : Int) := by simp [marks]
theorem mark_val (j : Nat) (h : j < 64) : (wrap64 (200 + (Int.tmod (j : Int) 7))) % 256 = 200 + ((j % 7 : Nat) : Int) := by
  rw [show Int.tmod (j : Int) 7 = ((j % 7 : Nat) : Int) from rfl, w64 (by omega) (by omega)]
  omega
theorem spare_ev (s : ByteArray) (hs : s.size ≤ 140737488351232) : Ev (fun k => copselaw1_spare.f k s) (bytesOf s ++ marks) := by
  have h := Ev.loop (σ := fun i k => copselaw1_spare.l0 k (bytesOf s ++ marks.take i) (i : Int)) (r := bytesOf s ++ marks) (n := 64) (fun i hi k => by
    have hl : (bytesOf s ++ marks.take i).length = s.size + i := by rw [List.length_append, List.length_take, bytesOf_length, marks_len]; omega
    simp only [copselaw1_spare.l0]
    rw [if_pos (by omega), if_pos (by omega), mark_val i hi, ← marks_at i hi, List.append_assoc, take_snoc _ _ (by rw [marks_len]; exact hi), w64 (by omega) (by omega)]
    rfl) (Ev.done fun k => by
    simp only [copselaw1_spare.l0]
    rw [if_neg (by omega), List.take_of_length_le (by rw [marks_len]; omega)]) 0 (by omega)
  exact Ev.bind (Bytes_ev s hs) (by simpa using h)
theorem kept_ev (s : ByteArray) (hs : s.size ≤ 140737488351232) : Ev (fun k => copselaw1_kept.f k (bytesOf s ++ marks) s) true := by
  have hlen : (bytesOf s ++ marks).length = s.size + 64 := by rw [List.length_append, bytesOf_length, marks_len]
  have h := Ev.loop (σ := fun i k => copselaw1_kept.l0 k (bytesOf s ++ marks) s (i : Int)) (r := true) (n := s.size + 64) (fun i hi k => by
    simp only [copselaw1_kept.l0]
    rw [if_pos (by omega)]
    by_cases h1 : i < s.size
    · have e1 : rd (bytesOf s ++ marks) (i : Int) = bt s (i : Int) := by
        rw [rd_nat _ _ (by omega), bt_nat s i h1, List.getElem_append_left]
      rw [if_pos (by omega), if_pos (by omega), if_pos e1, if_neg (by omega), w64 (by omega) (by omega)]
      rfl
    · have e1 : rd (bytesOf s ++ marks) (i : Int) = (wrap64 (200 + (Int.tmod (wrap64 ((i : Int) - (s.size : Int))) 7))) % 256 := by
        rw [w64 (n := (i : Int) - (s.size : Int)) (by omega) (by omega), show (i : Int) - (s.size : Int) = ((i - s.size : Nat) : Int) by omega, mark_val _ (by omega), rd_nat _ _ (by omega), List.getElem_append_right (by rw [bytesOf_length]; omega), ← marks_at _ (by omega)]
        simp only [bytesOf_length]
      rw [if_neg (by omega), if_pos (by omega), if_pos (by omega), if_pos e1, w64 (by omega) (by omega)]
      rfl) (Ev.done fun k => by
    simp only [copselaw1_kept.l0]
    rw [if_neg (by omega), hlen, w64 (by omega) (by omega)]
    simp) 0 (by omega)
  exact h

theorem u64_in {n : Int} (h0 : 0 ≤ n) (h1 : n < 18446744073709551616) : IntKind.u64.wrap n = n := by
  simp [IntKind.wrap, IntKind.bits, IntKind.signed]
  omega
/-- The number that bytes say, so far. -/
def val (l : List Int) : Int := l.foldl (fun a b => a * 256 + b) 0
theorem val_snoc (l : List Int) (b : Int) : val (l ++ [b]) = val l * 256 + b := by simp [val]
theorem foldl_bd (l : List Int) : ∀ (a : Int) (n : Nat), (∀ z ∈ l, 0 ≤ z ∧ z < 256) → 0 ≤ a → a < 256 ^ n → 0 ≤ l.foldl (fun a b => a * 256 + b) a ∧ l.foldl (fun a b => a * 256 + b) a < 256 ^ (n + l.length) := by
  induction l with
  | nil => intro a n _ h0 h1; exact ⟨h0, h1⟩
  | cons b l ih =>
    intro a n h h0 h1
    have hb := h b (by simp)
    have := ih (a * 256 + b) (n + 1) (fun z hz => h z (by simp [hz])) (by omega) (by rw [Int.pow_succ]; omega)
    rw [List.foldl_cons, List.length_cons, show n + (l.length + 1) = n + 1 + l.length by omega]
    exact this
theorem val_bd (l : List Int) (h : ∀ z ∈ l, 0 ≤ z ∧ z < 256) : 0 ≤ val l ∧ val l < 256 ^ l.length := by
  have := foldl_bd l 0 0 h (by omega) (by decide)
  rwa [Nat.zero_add] at this
theorem pow_le8 (n : Nat) (h : n ≤ 7) : (256 : Int) ^ n ≤ 72057594037927936 := by
  have : n = 0 ∨ n = 1 ∨ n = 2 ∨ n = 3 ∨ n = 4 ∨ n = 5 ∨ n = 6 ∨ n = 7 := by omega
  rcases this with rfl | rfl | rfl | rfl | rfl | rfl | rfl | rfl <;> decide
theorem or_join (x y : Int) (h0 : 0 ≤ x) (h1 : x < 72057594037927936) (hy : 0 ≤ y) (hy1 : y < 256) : Go.bits .or .u64 (x * 256) y = x * 256 + y :=
  bits_join .u64 64 (by decide) (fun n a b => u64_in a (by simpa using b)) 8 _ _ (by omega) (by simp) (by simp; omega) hy (by simpa using hy1) (by simp; omega)
/-- What Get answers. -/
def getv (l : List Int) : Int × Option Int := if l.length < 1 ∨ 8 < l.length then (0, some 1) else (val l, none)
def getr (l : List Int) : Int × Int := if l.length < 1 ∨ 8 < l.length then (0, 1) else (val l, 0)
theorem Get_ev (l : List Int) (h : ∀ z ∈ l, 0 ≤ z ∧ z < 256) : Ev (fun k => codec_Get.f k l) (getv l) := by
  unfold getv
  by_cases h1 : l.length < 1
  · rw [if_pos (Or.inl h1)]
    refine Ev.done fun k => ?_
    simp only [codec_Get.f]
    rw [if_pos (by omega)]
    simp [codec_Get.j0]
  · by_cases h8 : 8 < l.length
    · rw [if_pos (Or.inr h8)]
      refine Ev.done fun k => ?_
      simp only [codec_Get.f]
      rw [if_neg (by omega)]
      simp only [codec_Get.j0]
      rw [if_pos (by simp; omega)]
    · rw [if_neg (by omega)]
      have hp : ∀ i, i ≤ l.length → 0 ≤ val (l.take i) ∧ val (l.take i) < 256 ^ i := fun i hi => by
        have := val_bd (l.take i) (fun z hz => h z (List.mem_of_mem_take hz))
        rw [List.length_take, Nat.min_eq_left hi] at this
        exact this
      have hL := Ev.loop (σ := fun i k => codec_Get.l0 k l (val (l.take i)) (l.length : Int) (i : Int)) (r := (val l, none)) (n := l.length) (fun i hi k => by
        have hb := hp i (by omega)
        have h7 := pow_le8 i (by omega)
        have hz := h _ (List.getElem_mem hi)
        simp only [codec_Get.l0]
        rw [if_pos (by omega), if_pos (by omega), if_pos (by omega), rd_nat l i hi, u64_in (n := val (l.take i) * 256) (by omega) (by omega), u64_in (n := l[i]) (by omega) (by omega), or_join _ _ (by omega) (by omega) (by omega) (by omega), ← val_snoc, take_snoc _ _ hi, w64 (by omega) (by omega)]
        rfl) (Ev.done fun k => by
        simp only [codec_Get.l0]
        rw [if_neg (by omega), List.take_length]) 0 (by omega)
      refine Ev.congr (f := fun k => codec_Get.j0 k l false) (fun k => ?_) (Ev.step (f := fun k => codec_Get.l0 k l 0 (l.length : Int) 0) (fun k => ?_) ?_)
      · simp only [codec_Get.f]
        rw [if_neg (by omega), decide_eq_false (by omega)]
      · simp [codec_Get.j0]
      · simpa [val] using hL
theorem RGet_ev (l : List Int) (h : ∀ z ∈ l, 0 ≤ z ∧ z < 256) : Ev (fun k => copseref1_Get.f k l) (getr l) := by
  unfold getr
  by_cases h1 : l.length < 1
  · rw [if_pos (Or.inl h1)]
    refine Ev.done fun k => ?_
    simp only [copseref1_Get.f]
    rw [if_pos (by omega)]
    simp [copseref1_Get.j0]
  · by_cases h8 : 8 < l.length
    · rw [if_pos (Or.inr h8)]
      refine Ev.done fun k => ?_
      simp only [copseref1_Get.f]
      rw [if_neg (by omega)]
      simp only [copseref1_Get.j0]
      rw [if_pos (by simp; omega)]
    · rw [if_neg (by omega)]
      have hp : ∀ i, i ≤ l.length → 0 ≤ val (l.take i) ∧ val (l.take i) < 256 ^ i := fun i hi => by
        have := val_bd (l.take i) (fun z hz => h z (List.mem_of_mem_take hz))
        rw [List.length_take, Nat.min_eq_left hi] at this
        exact this
      have hL := Ev.loop (σ := fun i k => copseref1_Get.l0 k l (val (l.take i)) (i : Int)) (r := (val l, 0)) (n := l.length) (fun i hi k => by
        have hb := hp i (by omega)
        have h7 := pow_le8 i (by omega)
        have hz := h _ (List.getElem_mem hi)
        simp only [copseref1_Get.l0]
        rw [if_pos (by omega), if_pos (by omega), rd_nat l i hi, u64_in (n := val (l.take i) * 256) (by omega) (by omega), u64_in (n := l[i]) (by omega) (by omega), u64_in (by omega) (by omega), ← val_snoc, take_snoc _ _ hi, w64 (by omega) (by omega)]
        rfl) (Ev.done fun k => by
        simp only [copseref1_Get.l0]
        rw [if_neg (by omega), List.take_length]) 0 (by omega)
      refine Ev.congr (f := fun k => copseref1_Get.j0 k l false) (fun k => ?_) (Ev.step (f := fun k => copseref1_Get.l0 k l 0 0) (fun k => ?_) ?_)
      · simp only [copseref1_Get.f]
        rw [if_neg (by omega), decide_eq_false (by omega)]
      · simp [copseref1_Get.j0]
      · simpa [val] using hL
theorem Num_get (l : List Int) : copsekit_Num.f (getv l).2 = some (getr l).2 := by
  unfold getv getr
  split <;> simp [copsekit_Num.f, en]
theorem get_fst (l : List Int) : (getv l).1 = (getr l).1 := by
  unfold getv getr
  split <;> rfl
/-- Each byte one more. -/
def bump (l : List Int) : List Int := l.map fun z => (z + 1) % 256
theorem bump_range (l : List Int) : ∀ z ∈ bump l, 0 ≤ z ∧ z < 256 := by
  intro z hz
  obtain ⟨y, _, rfl⟩ := List.mem_map.1 hz
  omega
theorem bump_at (l m : List Int) (i : Nat) (hi : i < l.length) : (bump (l.take i) ++ l.drop i ++ m).set i ((rd (bump (l.take i) ++ l.drop i ++ m) (i : Int) + 1) % 256) = bump (l.take (i + 1)) ++ l.drop (i + 1) ++ m := by
  have hl : (bump (l.take i)).length = i := by simp [bump]; omega
  have e : rd (bump (l.take i) ++ l.drop i ++ m) (i : Int) = l[i] := by
    rw [List.append_assoc, rd_right _ _ _ (by omega), hl, Nat.sub_self, rd_left _ _ _ (by simp; omega), rd_drop0 _ _ hi]
  rw [e, List.append_assoc, List.set_append_right _ _ (by omega), hl, Nat.sub_self, List.drop_eq_getElem_cons hi, List.cons_append, List.set_cons_zero, ← take_snoc _ _ hi, show bump (l.take i ++ [l[i]]) = bump (l.take i) ++ [(l[i] + 1) % 256] by simp only [bump, List.map_append, List.map_cons, List.map_nil]]
  simp only [List.append_assoc, List.cons_append, List.nil_append]
theorem pure_side : ∀ (a0 : ByteArray), a0.size ≤ 140737488351232 → ∃ k, copselaw1_CodecGets.f k a0 = some true := by
  intro s hs
  refine Ev.rounds (g := fun k => copselaw1_CodecGets.f k s) ?_
  have hlen : (bytesOf s ++ marks).length = s.size + 64 := by rw [List.length_append, bytesOf_length, marks_len]
  have ht : (bytesOf s ++ marks).take ((s.size : Int)).toNat = bytesOf s := by
    rw [Int.toNat_natCast, List.take_append_of_le_length (by rw [bytesOf_length]; omega), List.take_of_length_le (by rw [bytesOf_length]; omega)]
  have hb := bytesOf_range s
  -- behind the writing
  have hlast : Ev (fun k => copselaw1_CodecGets.l0 k s (bump (bytesOf s) ++ marks) (bump (bytesOf s)) (s.size : Int)) true := by
    have hbl : (bump (bytesOf s)).length = s.size := by simp [bump, bytesOf_length]
    have ht2 : (bump (bytesOf s) ++ marks).take ((s.size : Int)).toNat = bump (bytesOf s) := by
      rw [Int.toNat_natCast, List.take_append_of_le_length (by omega), List.take_of_length_le (by omega)]
    refine Ev.step (f := fun k => (codec_Get.f k (bump (bytesOf s))).bind fun b1 => (copseref1_Get.f k (bump (bytesOf s))).bind fun b2 => if b1.1 = b2.1 then ((copsekit_Num.f b1.2).bind fun t => some (t == b2.2)) else some false) (fun k => ?_) ?_
    · simp only [copselaw1_CodecGets.l0]
      rw [if_neg (by omega), if_pos (by omega), if_pos (by rw [List.length_append, marks_len]; omega), ht2]
    · refine Ev.bind (Get_ev _ (bump_range _)) (Ev.bind (RGet_ev _ (bump_range _)) (Ev.const fun k => ?_))
      rw [if_pos (get_fst _), Num_get]
      simp
  have hloop := Ev.loop (σ := fun i k => copselaw1_CodecGets.l0 k s (bump ((bytesOf s).take i) ++ (bytesOf s).drop i ++ marks) (bump ((bytesOf s).take i) ++ (bytesOf s).drop i ++ []) (i : Int)) (r := true) (n := s.size) (fun i hi k => by
    have hi' : i < (bytesOf s).length := by rw [bytesOf_length]; exact hi
    have hl1 : (bump ((bytesOf s).take i) ++ (bytesOf s).drop i ++ []).length = s.size := by simp [bump, bytesOf_length]; omega
    have hl2 : (bump ((bytesOf s).take i) ++ (bytesOf s).drop i ++ marks).length = s.size + 64 := by simp [bump, bytesOf_length, marks_len]; omega
    simp only [copselaw1_CodecGets.l0]
    rw [if_pos (by rw [hl1]; omega), if_pos (by omega), if_pos (by rw [hl2]; omega), Int.toNat_natCast, bump_at _ _ _ hi', bump_at _ _ _ hi', w64 (by omega) (by omega)]
    rfl) (by
    have e : (bytesOf s).take s.size = bytesOf s := List.take_of_length_le (by rw [bytesOf_length]; omega)
    have e2 : (bytesOf s).drop s.size = [] := List.drop_of_length_le (by rw [bytesOf_length]; omega)
    simpa [e, e2] using hlast) 0 (by omega)
  refine Ev.bind (spare_ev s hs) ?_
  refine Ev.congr (f := fun k => (codec_Get.f k (bytesOf s)).bind fun b1 => (copselaw1_kept.f k (bytesOf s ++ marks) s).bind fun t => (copsekit_Bytes.f k s).bind fun q => (copseref1_Get.f k q).bind fun b2 => (if t = true then (if b1.1 = b2.1 then ((copsekit_Num.f b1.2).bind fun t133 => (copselaw1_CodecGets.j0 k s (bytesOf s ++ marks) (t133 != b2.2))) else (copselaw1_CodecGets.j0 k s (bytesOf s ++ marks) true)) else (copselaw1_CodecGets.j0 k s (bytesOf s ++ marks) true))) (fun k => ?_) ?_
  · rw [if_pos (by omega), if_pos (by omega), ht]
  · refine Ev.bind (Get_ev _ hb) (Ev.bind (kept_ev s hs) (Ev.bind (Bytes_ev s hs) (Ev.bind (RGet_ev _ hb) ?_)))
    refine Ev.congr (f := fun k => copselaw1_CodecGets.j0 k s (bytesOf s ++ marks) false) (fun k => ?_) ?_
    · rw [if_pos rfl, if_pos (get_fst _), Num_get]
      simp
    · refine Ev.step (f := fun k => (copsekit_Bytes.f k s).bind fun t => copselaw1_CodecGets.l0 k s (bytesOf s ++ marks) t 0) (fun k => by simp [copselaw1_CodecGets.j0]) ?_
      refine Ev.bind (Bytes_ev s hs) ?_
      simpa [bump] using hloop
end Go.Proofs.YtcjfmlgljfggpaaDoor.XCodecGets
