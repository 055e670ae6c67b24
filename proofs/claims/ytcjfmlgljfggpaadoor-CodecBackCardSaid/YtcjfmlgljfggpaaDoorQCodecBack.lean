/- The pure side of CodecBack. -/
import Derived.Test.YtcjfmlgljfggpaaDoorXCodecBackx
import Derived.Laws.BitsLemmas
set_option linter.unusedVariables false
set_option linter.unusedSimpArgs false
namespace Go.Proofs.YtcjfmlgljfggpaaDoor.XCodecBack
open Go.RowKit Go.Proofs.YtcjfmlgljfggpaaDoorW.PrintWords Go.Proofs.YtcjfmlgljfggpaaDoorW.PrintLast
theorem w64 {n : Int} (h0 : -9223372036854775808 ≤ n) (h1 : n < 9223372036854775808) : wrap64 n = n := by unfold wrap64; omega
theorem Ev.loop {α : Type} {σ : Nat → Nat → Option α} {r : α} {n : Nat} (h : ∀ i, i < n → ∀ k, σ i (k + 1) = σ (i + 1) k) (he : Ev (σ n) r) : ∀ i, i ≤ n → Ev (σ i) r := by
  have : ∀ d i, i + d = n → Ev (σ i) r := by
    intro d
    induction d with
    | zero => intro i hi; obtain rfl : i = n := by omega
              exact he
    | succ d ih => intro i hi; exact Ev.step (h i (by omega)) (ih (i + 1) (by omega))
  intro i hi
  exact this (n - i) i (by omega)
theorem Ev.loop' {α : Type} {σ : Nat → Nat → Option α} {r : α} {n : Nat} (h : ∀ i, i < n → Ev (σ (i + 1)) r → Ev (σ i) r) (he : Ev (σ n) r) : ∀ i, i ≤ n → Ev (σ i) r := by
  have : ∀ d i, i + d = n → Ev (σ i) r := by
    intro d
    induction d with
    | zero => intro i hi; obtain rfl : i = n := by omega
              exact he
    | succ d ih => intro i hi; exact h i (by omega) (ih (i + 1) (by omega))
  intro i hi
  exact this (n - i) i (by omega)
theorem Ev.done {α : Type} {g : Nat → Option α} {r : α} (h : ∀ k, g (k + 1) = some r) : Ev g r := Ev.step h (Ev.now r)
theorem Ev.const {α : Type} {g : Nat → Option α} {r : α} (h : ∀ k, g k = some r) : Ev g r := ⟨0, fun k _ => h k⟩
theorem Ev.bindc {α β : Type} {o : Option α} {f : Nat → α → Option β} {a : α} {r : β} (h : o = some a) (k : Ev (fun n => f n a) r) : Ev (fun n => o.bind (f n)) r := by subst h; exact k
theorem bt_nat (s : ByteArray) (i : Nat) (h : i < s.size) : bt s (i : Int) = (bytesOf s)[i]'(by rw [bytesOf_length]; exact h) := by
  unfold bt bytesOf
  rw [dif_pos (by simpa using h)]
  simp only [Int.toNat_natCast, List.getElem_map, Array.getElem_toList]
  rfl
theorem rd_nat (l : List Int) (i : Nat) (h : i < l.length) : rd l (i : Int) = l[i] := by
  unfold rd
  rw [Int.toNat_natCast, List.getD_eq_getElem?_getD, List.getElem?_eq_getElem h]
  rfl
theorem bytesOf_range (s : ByteArray) : ∀ z ∈ bytesOf s, 0 ≤ z ∧ z < 256 := by
  intro z hz
  unfold bytesOf at hz
  obtain ⟨b, _, rfl⟩ := List.mem_map.1 hz
  have := b.toNat_lt
  omega
theorem take_snoc {α : Type} (l : List α) (i : Nat) (h : i < l.length) : l.take i ++ [l[i]] = l.take (i + 1) := by
  rw [List.take_succ_eq_append_getElem h]
theorem rd_getD (l : List Int) (i : Nat) : rd l (i : Int) = l.getD i 0 := by unfold rd; rw [Int.toNat_natCast]
theorem rd_left (l m : List Int) (i : Nat) (h : i < l.length) : rd (l ++ m) (i : Int) = rd l (i : Int) := by
  rw [rd_getD, rd_getD, List.getD_eq_getElem?_getD, List.getD_eq_getElem?_getD, List.getElem?_append_left h]
theorem rd_right (l m : List Int) (i : Nat) (h : l.length ≤ i) : rd (l ++ m) (i : Int) = rd m ((i - l.length : Nat) : Int) := by
  rw [rd_getD, rd_getD, List.getD_eq_getElem?_getD, List.getD_eq_getElem?_getD, List.getElem?_append_right h]
theorem rd_drop0 (l : List Int) (i : Nat) (h : i < l.length) : rd (l.drop i) ((0 : Nat) : Int) = l[i] := by
  rw [List.drop_eq_getElem_cons h]; rfl

theorem Bytes_ev (s : ByteArray) (hs : s.size ≤ 140737488351232) : Ev (fun k => copsekit_Bytes.f k s) (bytesOf s) := by
  have h := Ev.loop (σ := fun i k => copsekit_Bytes.l0 k s ((bytesOf s).take i) (i : Int)) (r := bytesOf s) (n := s.size) (fun i hi k => by
    have hl : ((bytesOf s).take i).length = i := by rw [List.length_take, bytesOf_length]; omega
    simp only [copsekit_Bytes.l0]
    rw [if_pos (by omega), if_pos (by omega), if_pos (by omega), bt_nat s i hi, take_snoc _ _ (by rw [bytesOf_length]; exact hi), w64 (by omega) (by omega)]
    rfl) (Ev.done fun k => by
    simp only [copsekit_Bytes.l0]
    rw [if_neg (by omega), List.take_of_length_le (by rw [bytesOf_length]; omega)]) 0 (by omega)
  exact h

theorem u64_in {n : Int} (h0 : 0 ≤ n) (h1 : n < 18446744073709551616) : IntKind.u64.wrap n = n := by
  simp [IntKind.wrap, IntKind.bits, IntKind.signed]
  omega
/-- The number that bytes say, so far. -/
def val (l : List Int) : Int := l.foldl (fun a b => a * 256 + b) 0
theorem val_snoc (l : List Int) (b : Int) : val (l ++ [b]) = val l * 256 + b := by simp [val]
theorem foldl_bd (l : List Int) : ∀ (a : Int) (n : Nat), (∀ z ∈ l, 0 ≤ z ∧ z < 256) → 0 ≤ a → a < 256 ^ n → 0 ≤ l.foldl (fun a b => a * 256 + b) a ∧ l.foldl (fun a b => a * 256 + b) a < 256 ^ (n + l.length) := by
  induction l with
  | nil => intro a n _ h0 h1; exact ⟨h0, h1⟩
  | cons b l ih =>
    intro a n h h0 h1
    have hb := h b (by simp)
    have := ih (a * 256 + b) (n + 1) (fun z hz => h z (by simp [hz])) (by omega) (by rw [Int.pow_succ]; omega)
    rw [List.foldl_cons, List.length_cons, show n + (l.length + 1) = n + 1 + l.length by omega]
    exact this
theorem val_bd (l : List Int) (h : ∀ z ∈ l, 0 ≤ z ∧ z < 256) : 0 ≤ val l ∧ val l < 256 ^ l.length := by
  have := foldl_bd l 0 0 h (by omega) (by decide)
  rwa [Nat.zero_add] at this
theorem pow_le8 (n : Nat) (h : n ≤ 7) : (256 : Int) ^ n ≤ 72057594037927936 := by
  have : n = 0 ∨ n = 1 ∨ n = 2 ∨ n = 3 ∨ n = 4 ∨ n = 5 ∨ n = 6 ∨ n = 7 := by omega
  rcases this with rfl | rfl | rfl | rfl | rfl | rfl | rfl | rfl <;> decide
theorem or_join (x y : Int) (h0 : 0 ≤ x) (h1 : x < 72057594037927936) (hy : 0 ≤ y) (hy1 : y < 256) : Go.bits .or .u64 (x * 256) y = x * 256 + y :=
  bits_join .u64 64 (by decide) (fun n a b => u64_in a (by simpa using b)) 8 _ _ (by omega) (by simp) (by simp; omega) hy (by simpa using hy1) (by simp; omega)
/-- What Get answers. -/
def getv (l : List Int) : Int × Option Int := if l.length < 1 ∨ 8 < l.length then (0, some 1) else (val l, none)
theorem Get_ev (l : List Int) (h : ∀ z ∈ l, 0 ≤ z ∧ z < 256) : Ev (fun k => codec_Get.f k l) (getv l) := by
  unfold getv
  by_cases h1 : l.length < 1
  · rw [if_pos (Or.inl h1)]
    refine Ev.done fun k => ?_
    simp only [codec_Get.f]
    rw [if_pos (by omega)]
    simp [codec_Get.j0]
  · by_cases h8 : 8 < l.length
    · rw [if_pos (Or.inr h8)]
      refine Ev.done fun k => ?_
      simp only [codec_Get.f]
      rw [if_neg (by omega)]
      simp only [codec_Get.j0]
      rw [if_pos (by simp; omega)]
    · rw [if_neg (by omega)]
      have hp : ∀ i, i ≤ l.length → 0 ≤ val (l.take i) ∧ val (l.take i) < 256 ^ i := fun i hi => by
        have := val_bd (l.take i) (fun z hz => h z (List.mem_of_mem_take hz))
        rw [List.length_take, Nat.min_eq_left hi] at this
        exact this
      have hL := Ev.loop (σ := fun i k => codec_Get.l0 k l (val (l.take i)) (l.length : Int) (i : Int)) (r := (val l, none)) (n := l.length) (fun i hi k => by
        have hb := hp i (by omega)
        have h7 := pow_le8 i (by omega)
        have hz := h _ (List.getElem_mem hi)
        simp only [codec_Get.l0]
        rw [if_pos (by omega), if_pos (by omega), if_pos (by omega), rd_nat l i hi, u64_in (n := val (l.take i) * 256) (by omega) (by omega), u64_in (n := l[i]) (by omega) (by omega), or_join _ _ (by omega) (by omega) (by omega) (by omega), ← val_snoc, take_snoc _ _ hi, w64 (by omega) (by omega)]
        rfl) (Ev.done fun k => by
        simp only [codec_Get.l0]
        rw [if_neg (by omega), List.take_length]) 0 (by omega)
      refine Ev.congr (f := fun k => codec_Get.j0 k l false) (fun k => ?_) (Ev.step (f := fun k => codec_Get.l0 k l 0 (l.length : Int) 0) (fun k => ?_) ?_)
      · simp only [codec_Get.f]
        rw [if_neg (by omega), decide_eq_false (by omega)]
      · simp [codec_Get.j0]
      · simpa [val] using hL

/-- What Put answers. -/
def putbad (a0 a1 : Int) : Prop := a1 < 1 ∨ 8 < a1 ∨ (a1 < 8 ∧ a0 / 2 ^ (8 * a1).toNat ≠ 0)
instance (a0 a1 : Int) : Decidable (putbad a0 a1) := by unfold putbad; exact inferInstance
def putrow (a0 a1 : Int) : List Int := (codec_Put.row a0 8).drop (8 - a1.toNat)
theorem Put_eq (a0 a1 : Int) (h0 : 0 ≤ a0) (h1 : a0 < 18446744073709551616) : codec_Put.f a0 a1 = some (if putbad a0 a1 then ([], some 1) else (putrow a0 a1, none)) := by
  by_cases h : putbad a0 a1
  · rw [if_pos h]
    unfold codec_Put.f
    rw [if_pos ⟨h0, h1⟩]
    exact if_pos h
  · rw [if_neg h]
    unfold codec_Put.f
    rw [if_pos ⟨h0, h1⟩]
    exact if_neg h
theorem putrow_len (a0 a1 : Int) (h : ¬ putbad a0 a1) : (putrow a0 a1).length = a1.toNat := by
  unfold putbad at h
  unfold putrow
  rw [List.length_drop, show (codec_Put.row a0 8).length = 8 from rfl]
  omega
theorem wid8 {a1 : Int} (h : 1 ≤ a1) (h' : a1 ≤ 8) : a1 = 1 ∨ a1 = 2 ∨ a1 = 3 ∨ a1 = 4 ∨ a1 = 5 ∨ a1 = 6 ∨ a1 = 7 ∨ a1 = 8 := by omega
theorem u64_wf {a : Int} (h : (Lit.int .u64 a).wf = true) : 0 ≤ a ∧ a < 18446744073709551616 := by
  simp [Lit.wf, IntKind.min, IntKind.max, IntKind.bits, IntKind.signed] at h
  omega
theorem i64_wf {a : Int} (h : (Lit.int .i64 a).wf = true) : -9223372036854775808 ≤ a ∧ a < 9223372036854775808 := by
  simp [Lit.wf, IntKind.min, IntKind.max, IntKind.bits, IntKind.signed] at h
  omega

theorem val_row (a b : Int) (h0 : 0 ≤ a) (h1 : a < 18446744073709551616) (hb : ¬ putbad a b) : val (putrow a b) = a := by
  have hw := wid8 (a1 := b) (by unfold putbad at hb; omega) (by unfold putbad at hb; omega)
  unfold putbad at hb
  rcases hw with rfl | rfl | rfl | rfl | rfl | rfl | rfl | rfl <;> simp [val, putrow, codec_Put.row] at hb ⊢ <;> omega
theorem row_range (a b : Int) (h0 : 0 ≤ a) (h1 : a < 18446744073709551616) : ∀ z ∈ putrow a b, 0 ≤ z ∧ z < 256 := by
  intro z hz
  have hz := List.mem_of_mem_drop hz
  simp [codec_Put.row] at hz
  omega
theorem row_val (l : List Int) (h1 : 1 ≤ l.length) (h8 : l.length ≤ 8) (h : ∀ z ∈ l, 0 ≤ z ∧ z < 256) : 0 ≤ val l ∧ val l < 18446744073709551616 ∧ ¬ putbad (val l) (l.length : Int) ∧ putrow (val l) (l.length : Int) = l := by
  match l, h1, h8, h with
  | [b0], _, _, h => simp [val, putrow, codec_Put.row, putbad] at h ⊢; omega
  | [b0, b1], _, _, h => simp [val, putrow, codec_Put.row, putbad] at h ⊢; omega
  | [b0, b1, b2], _, _, h => simp [val, putrow, codec_Put.row, putbad] at h ⊢; omega
  | [b0, b1, b2, b3], _, _, h => simp [val, putrow, codec_Put.row, putbad] at h ⊢; omega
  | [b0, b1, b2, b3, b4], _, _, h => simp [val, putrow, codec_Put.row, putbad] at h ⊢; omega
  | [b0, b1, b2, b3, b4, b5], _, _, h => simp [val, putrow, codec_Put.row, putbad] at h ⊢; omega
  | [b0, b1, b2, b3, b4, b5, b6], _, _, h => simp [val, putrow, codec_Put.row, putbad] at h ⊢; omega
  | [b0, b1, b2, b3, b4, b5, b6, b7], _, _, h => simp [val, putrow, codec_Put.row, putbad] at h ⊢; omega
  | _ :: _ :: _ :: _ :: _ :: _ :: _ :: _ :: _ :: t, _, h8, _ => simp at h8
theorem str_bytes (s : ByteArray) : strOfNums (bytesOf s) = s := by
  unfold strOfNums bytesOf
  rw [List.map_map, show ((fun n : Int => UInt8.ofNat n.toNat) ∘ fun b : UInt8 => (b.toNat : Int)) = id from by
    funext b
    simp]
  simp
@[reducible] def backT (j : Nat → ByteArray → Int → Option Int → Bool → Option Bool) (k : Nat) (s : ByteArray) : Option Bool := (copsekit_Bytes.f k s).bind fun t => (codec_Get.f k t).bind fun bt125 => (if bt125.2.isNone = true then (if (s.size : Int) ≥ 1 then (j k s bt125.1 none (true != (decide ((s.size : Int) ≤ 8)))) else (j k s bt125.1 none (true != false))) else (if (s.size : Int) ≥ 1 then (j k s bt125.1 (some (bt125.2.getD 0)) (false != (decide ((s.size : Int) ≤ 8)))) else (j k s bt125.1 (some (bt125.2.getD 0)) (false != false))))
theorem tail_ev (j : Nat → ByteArray → Int → Option Int → Bool → Option Bool) (s : ByteArray) (hs : s.size ≤ 140737488351232)
    (hj : ∀ k x11 x12 x88, j (k + 1) s x11 x12 x88 = if x88 = true then (some false) else (if x12.isNone = true then ((codec_Put.f x11 (s.size : Int)).bind fun bt129 => (if bt129.2.isNone = true then (some ((strOfNums bt129.1).toList == s.toList)) else (some false))) else (some true))) :
    Ev (fun k => backT j k s) true := by
  have hlen := bytesOf_length s
  have hr := bytesOf_range s
  refine Ev.bind (Bytes_ev s hs) (Ev.bind (Get_ev _ hr) ?_)
  unfold getv
  by_cases h1 : s.size < 1
  · rw [if_pos (.inl (by omega))]
    refine Ev.congr (f := fun k => j k s 0 (some 1) false) (fun k => ?_) (Ev.done fun k => ?_)
    · rw [if_neg (by simp), if_neg (by omega)]
      rfl
    · rw [hj]
      simp
  by_cases h8 : 8 < s.size
  · rw [if_pos (.inr (by omega))]
    refine Ev.congr (f := fun k => j k s 0 (some 1) false) (fun k => ?_) (Ev.done fun k => ?_)
    · rw [if_neg (by simp), if_pos (by omega), decide_eq_false (by omega)]
      rfl
    · rw [hj]
      simp
  · rw [if_neg (by omega)]
    obtain ⟨v0, v1, v2, v3⟩ := row_val (bytesOf s) (by omega) (by omega) hr
    rw [hlen] at v2 v3
    refine Ev.congr (f := fun k => j k s (val (bytesOf s)) none false) (fun k => ?_) (Ev.done fun k => ?_)
    · rw [if_pos (by simp), if_pos (by omega), decide_eq_true (by omega)]
      rfl
    · rw [hj, Put_eq _ _ v0 v1, if_neg v2, v3]
      simp [str_bytes]
theorem pure_side : ∀ (a0_0 : Int) (a0_1 : Int) (a0_2 : ByteArray), (Lit.int .u64 a0_0).wf = true → (Lit.int .i64 a0_1).wf = true → a0_2.size ≤ 140737488351232 → ∃ k, copselaw1_CodecBack.f k a0_0 a0_1 a0_2 = some true := by
  intro a b s ha hb hs
  have h0 := u64_wf ha
  refine Ev.rounds (g := fun k => copselaw1_CodecBack.f k a b s) ?_
  have hP := Put_eq a b h0.1 h0.2
  have hK : codec_Put.f 258 2 = some ([1, 2], none) := by decide
  unfold copselaw1_CodecBack.f
  refine Ev.bindc hK ?_
  refine Ev.congr (f := fun k => copselaw1_CodecBack.j0 k s false a b) (fun k => by simp [rd]) ?_
  by_cases hb : putbad a b
  · rw [if_pos hb] at hP
    refine Ev.step (fun k => ?_) (tail_ev copselaw1_CodecBack.j2 s hs (fun k x11 x12 x88 => by simp only [copselaw1_CodecBack.j2]))
    simp only [copselaw1_CodecBack.j0]
    rw [if_neg (by simp), hP, Option.bind_some, if_neg (by simp)]
  · rw [if_neg hb] at hP
    have hpl := putrow_len a b hb
    have hg : getv (putrow a b) = (a, none) := by
      unfold getv
      rw [if_neg (by unfold putbad at hb; omega), val_row a b h0.1 h0.2 hb]
    have hG := Get_ev (putrow a b) (row_range a b h0.1 h0.2)
    rw [hg] at hG
    refine Ev.step (f := fun k => (codec_Get.f k (putrow a b)).bind fun bt119 => if bt119.2.isNone = true then (if bt119.1 = a then (if ((putrow a b).length : Int) = b then backT copselaw1_CodecBack.j1 k s else (some false)) else (some false)) else (some false)) (fun k => ?_) (Ev.bind hG (Ev.congr (f := fun k => backT copselaw1_CodecBack.j1 k s) (fun k => ?_) (tail_ev copselaw1_CodecBack.j1 s hs (fun k x11 x12 x88 => by simp only [copselaw1_CodecBack.j1]))))
    · simp only [copselaw1_CodecBack.j0]
      rw [if_neg (by simp), hP, Option.bind_some, if_pos (by simp)]
    · rw [if_pos (by simp), if_pos rfl, if_pos (by rw [hpl]; unfold putbad at hb; omega)]
end Go.Proofs.YtcjfmlgljfggpaaDoor.XCodecBack
