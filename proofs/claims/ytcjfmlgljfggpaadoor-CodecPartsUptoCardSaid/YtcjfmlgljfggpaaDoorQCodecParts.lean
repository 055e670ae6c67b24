/- The pure side of CodecParts: a sum goes on over any cut. -/
import Derived.Test.YtcjfmlgljfggpaaDoorXCodecPartsx
import Derived.Laws.BitsLemmas
set_option linter.unusedVariables false
namespace Go.Proofs.YtcjfmlgljfggpaaDoor.XCodecParts
open Go.RowKit Go.Proofs.YtcjfmlgljfggpaaDoorW.PrintWords Go.Proofs.YtcjfmlgljfggpaaDoorW.PrintLast
theorem w64 {n : Int} (h0 : -9223372036854775808 ≤ n) (h1 : n < 9223372036854775808) : wrap64 n = n := by unfold wrap64; omega
theorem Ev.loop {α : Type} {σ : Nat → Nat → Option α} {r : α} {n : Nat} (h : ∀ i, i < n → ∀ k, σ i (k + 1) = σ (i + 1) k) (he : Ev (σ n) r) : ∀ i, i ≤ n → Ev (σ i) r := by
  have : ∀ d i, i + d = n → Ev (σ i) r := by
    intro d
    induction d with
    | zero => intro i hi; obtain rfl : i = n := by omega
              exact he
    | succ d ih => intro i hi; exact Ev.step (h i (by omega)) (ih (i + 1) (by omega))
  intro i hi
  exact this (n - i) i (by omega)
theorem Ev.loop' {α : Type} {σ : Nat → Nat → Option α} {r : α} {n : Nat} (h : ∀ i, i < n → Ev (σ (i + 1)) r → Ev (σ i) r) (he : Ev (σ n) r) : ∀ i, i ≤ n → Ev (σ i) r := by
  have : ∀ d i, i + d = n → Ev (σ i) r := by
    intro d
    induction d with
    | zero => intro i hi; obtain rfl : i = n := by omega
              exact he
    | succ d ih => intro i hi; exact h i (by omega) (ih (i + 1) (by omega))
  intro i hi
  exact this (n - i) i (by omega)
theorem Ev.done {α : Type} {g : Nat → Option α} {r : α} (h : ∀ k, g (k + 1) = some r) : Ev g r := Ev.step h (Ev.now r)
theorem Ev.const {α : Type} {g : Nat → Option α} {r : α} (h : ∀ k, g k = some r) : Ev g r := ⟨0, fun k _ => h k⟩
theorem Ev.bindc {α β : Type} {o : Option α} {f : Nat → α → Option β} {a : α} {r : β} (h : o = some a) (k : Ev (fun n => f n a) r) : Ev (fun n => o.bind (f n)) r := by subst h; exact k
theorem bt_nat (s : ByteArray) (i : Nat) (h : i < s.size) : bt s (i : Int) = (bytesOf s)[i]'(by rw [bytesOf_length]; exact h) := by
  unfold bt bytesOf
  rw [dif_pos (by simpa using h)]
  simp only [Int.toNat_natCast, List.getElem_map, Array.getElem_toList]
  rfl
theorem rd_nat (l : List Int) (i : Nat) (h : i < l.length) : rd l (i : Int) = l[i] := by
  unfold rd
  rw [Int.toNat_natCast, List.getD_eq_getElem?_getD, List.getElem?_eq_getElem h]
  rfl
theorem bytesOf_range (s : ByteArray) : ∀ z ∈ bytesOf s, 0 ≤ z ∧ z < 256 := by
  intro z hz
  unfold bytesOf at hz
  obtain ⟨b, _, rfl⟩ := List.mem_map.1 hz
  have := b.toNat_lt
  omega
theorem take_snoc {α : Type} (l : List α) (i : Nat) (h : i < l.length) : l.take i ++ [l[i]] = l.take (i + 1) := by
  rw [List.take_succ_eq_append_getElem h]
theorem rd_getD (l : List Int) (i : Nat) : rd l (i : Int) = l.getD i 0 := by unfold rd; rw [Int.toNat_natCast]
theorem rd_left (l m : List Int) (i : Nat) (h : i < l.length) : rd (l ++ m) (i : Int) = rd l (i : Int) := by
  rw [rd_getD, rd_getD, List.getD_eq_getElem?_getD, List.getD_eq_getElem?_getD, List.getElem?_append_left h]
theorem rd_right (l m : List Int) (i : Nat) (h : l.length ≤ i) : rd (l ++ m) (i : Int) = rd m ((i - l.length : Nat) : Int) := by
  rw [rd_getD, rd_getD, List.getD_eq_getElem?_getD, List.getD_eq_getElem?_getD, List.getElem?_append_right h]
theorem rd_drop0 (l : List Int) (i : Nat) (h : i < l.length) : rd (l.drop i) ((0 : Nat) : Int) = l[i] := by
  rw [List.drop_eq_getElem_cons h]; rfl

theorem Bytes_ev (s : ByteArray) (hs : s.size ≤ 140737488351232) : Ev (fun k => copsekit_Bytes.f k s) (bytesOf s) := by
  have h := Ev.loop (σ := fun i k => copsekit_Bytes.l0 k s ((bytesOf s).take i) (i : Int)) (r := bytesOf s) (n := s.size) (fun i hi k => by
    have hl : ((bytesOf s).take i).length = i := by rw [List.length_take, bytesOf_length]; omega
    simp only [copsekit_Bytes.l0]
    rw [if_pos (by omega), if_pos (by omega), if_pos (by omega), bt_nat s i hi, take_snoc _ _ (by rw [bytesOf_length]; exact hi), w64 (by omega) (by omega)]
    rfl) (Ev.done fun k => by
    simp only [copsekit_Bytes.l0]
    rw [if_neg (by omega), List.take_of_length_le (by rw [bytesOf_length]; omega)]) 0 (by omega)
  exact h

/-! The sum, on bits: one step, and what follows of it. -/
def st (r : BitVec 32) : BitVec 32 := (r >>> 1) ^^^ (if r.getLsbD 0 then 0x82F63B78#32 else 0#32)
theorem st_xor (a b : BitVec 32) : st (a ^^^ b) = st a ^^^ st b := by
  unfold st
  rw [BitVec.ushiftRight_xor_distrib, BitVec.getLsbD_xor]
  cases a.getLsbD 0 <;> cases b.getLsbD 0 <;> simp <;> (try ac_rfl)
  rw [BitVec.xor_assoc (a >>> 1), ← BitVec.xor_assoc 0x82F63B78#32 (b >>> 1), BitVec.xor_comm 0x82F63B78#32 (b >>> 1), BitVec.xor_assoc (b >>> 1)]
  simp
def it : Nat → BitVec 32 → BitVec 32
  | 0, r => r
  | n + 1, r => it n (st r)
theorem it_xor (n : Nat) : ∀ a b, it n (a ^^^ b) = it n a ^^^ it n b := by
  induction n with
  | zero => intro a b; rfl
  | succ n ih => intro a b; simp only [it]; rw [st_xor, ih]
theorem it_add (m : Nat) : ∀ n r, it (m + n) r = it n (it m r) := by
  induction m with
  | zero => intro n r; rw [Nat.zero_add]; rfl
  | succ m ih => intro n r; rw [show m + 1 + n = (m + n) + 1 by omega]; simp only [it]; exact ih n (st r)
theorem st_shl (z : BitVec 32) (h : z.toNat < 2147483648) : st (z <<< 1) = z := by
  unfold st
  have e : (z <<< 1).getLsbD 0 = false := by simp
  rw [e]
  simp only [Bool.false_eq_true, if_false, BitVec.xor_zero]
  apply BitVec.eq_of_toNat_eq
  rw [BitVec.toNat_ushiftRight, BitVec.toNat_shiftLeft, Nat.shiftRight_eq_div_pow, Nat.shiftLeft_eq]
  omega
theorem it_shl (n : Nat) : ∀ y : BitVec 32, y.toNat * 2 ^ n < 4294967296 → it n (y <<< n) = y := by
  induction n with
  | zero => intro y _; simp [it]
  | succ n ih =>
    intro y h
    have h1 : y.toNat * 2 ^ n < 2147483648 := by rw [Nat.pow_succ, ← Nat.mul_assoc] at h; omega
    simp only [it]
    rw [show y <<< (n + 1) = (y <<< n) <<< 1 by rw [BitVec.shiftLeft_add], st_shl, ih y (by omega)]
    rw [BitVec.toNat_shiftLeft, Nat.shiftLeft_eq, Nat.mod_eq_of_lt (by omega)]
    exact h1
theorem st_zero (r : BitVec 32) (h : st r = 0#32) : r = 0#32 := by
  unfold st at h
  have hb := r.isLt
  have hm : r.getLsbD 0 = decide (r.toNat % 2 = 1) := by
    rw [BitVec.getLsbD, Nat.testBit_zero]
  by_cases c : r.toNat % 2 = 1
  · exfalso
    rw [hm, decide_eq_true c, if_pos rfl] at h
    have h2 := (BitVec.xor_eq_zero_iff).1 h
    have h3 := congrArg BitVec.toNat h2
    rw [BitVec.toNat_ushiftRight, Nat.shiftRight_eq_div_pow] at h3
    have : (0x82F63B78#32).toNat = 2197175160 := rfl
    omega
  · rw [hm, decide_eq_false c, if_neg (by decide), BitVec.xor_zero] at h
    have h3 := congrArg BitVec.toNat h
    rw [BitVec.toNat_ushiftRight, Nat.shiftRight_eq_div_pow] at h3
    have : (0#32).toNat = 0 := rfl
    apply BitVec.eq_of_toNat_eq
    omega
theorem it_zero (n : Nat) : ∀ r, it n r = 0#32 → r = 0#32 := by
  induction n with
  | zero => intro r h; exact h
  | succ n ih => intro r h; exact st_zero r (ih _ h)
theorem it_zero_eq (n : Nat) : it n 0#32 = 0#32 := by
  induction n with
  | zero => rfl
  | succ n ih => exact ih
/-- The register, over bytes. -/
def F (r : BitVec 32) (l : List Int) : BitVec 32 := l.foldl (fun r b => it 8 (r ^^^ BitVec.ofInt 32 b)) r
theorem F_append (r : BitVec 32) (l m : List Int) : F r (l ++ m) = F (F r l) m := by simp [F]
theorem F_cons (r : BitVec 32) (b : Int) (l : List Int) : F r (b :: l) = F (it 8 (r ^^^ BitVec.ofInt 32 b)) l := rfl
theorem F_snoc (r : BitVec 32) (b : Int) (l : List Int) : F r (l ++ [b]) = it 8 (F r l ^^^ BitVec.ofInt 32 b) := by simp [F]
theorem F_xor (l : List Int) : ∀ r d, F (r ^^^ d) l = F r l ^^^ it (8 * l.length) d := by
  induction l with
  | nil => intro r d; rfl
  | cons b l ih =>
    intro r d
    rw [F_cons, F_cons, show r ^^^ d ^^^ BitVec.ofInt 32 b = (r ^^^ BitVec.ofInt 32 b) ^^^ d by ac_rfl, it_xor, ih, List.length_cons, show 8 * (l.length + 1) = 8 + 8 * l.length by omega, it_add]
/-! The numbers of the printed text as bits. -/
theorem u32_in (n : Nat) (h : n < 4294967296) : IntKind.u32.wrap (n : Int) = n := by rw [IntKind.wrap_u32]; omega
theorem ofInt_toNat (a : BitVec 32) : BitVec.ofInt 32 (a.toNat : Int) = a := by rw [BitVec.ofInt_natCast, BitVec.ofNat_toNat]; simp
theorem bxor (a b : BitVec 32) : Go.bits .xor .u32 (a.toNat : Int) (b.toNat : Int) = ((a ^^^ b).toNat : Int) := by
  show IntKind.u32.wrap (((BitVec.ofInt 32 (a.toNat : Int)) ^^^ (BitVec.ofInt 32 (b.toNat : Int))).toNat : Int) = _
  rw [ofInt_toNat, ofInt_toNat, u32_in _ (a ^^^ b).isLt]
theorem band (a b : BitVec 32) : Go.bits .and .u32 (a.toNat : Int) (b.toNat : Int) = ((a &&& b).toNat : Int) := by
  show IntKind.u32.wrap (((BitVec.ofInt 32 (a.toNat : Int)) &&& (BitVec.ofInt 32 (b.toNat : Int))).toNat : Int) = _
  rw [ofInt_toNat, ofInt_toNat, u32_in _ (a &&& b).isLt]
theorem byte_in (z : Int) (h : 0 ≤ z ∧ z < 256) : z % 4294967296 = ((BitVec.ofInt 32 z).toNat : Int) := by
  rw [BitVec.toNat_ofInt]
  omega
theorem word_in (z : Int) (h : 0 ≤ z ∧ z < 4294967296) : z = ((BitVec.ofInt 32 z).toNat : Int) := by
  rw [BitVec.toNat_ofInt]
  omega
theorem div16 (a : BitVec 32) : (a.toNat : Int) / (16 : Int) = ((a >>> 4).toNat : Int) := by
  rw [BitVec.toNat_ushiftRight, Nat.shiftRight_eq_div_pow]
  omega
theorem div2 (a : BitVec 32) : (a.toNat : Int) / (2 : Int) = ((a >>> 1).toNat : Int) := by
  rw [BitVec.toNat_ushiftRight, Nat.shiftRight_eq_div_pow]
  omega
theorem and15 (a : BitVec 32) : (a &&& 15#32).toNat < 16 := by
  rw [BitVec.toNat_and]
  have := Nat.and_lt_two_pow (x := a.toNat) (n := 4) (y := 15) (by decide)
  simpa using this
theorem tab_all : ∀ n : Fin 16, rd tab17 (n.val : Int) = ((it 4 (BitVec.ofNat 32 n.val)).toNat : Int) := by decide +kernel
theorem tab_at (a : BitVec 32) (h : a.toNat < 16) : rd tab17 (a.toNat : Int) = ((it 4 a).toNat : Int) := by
  have := tab_all ⟨a.toNat, h⟩
  simpa using this
theorem nib (r : BitVec 32) : (r >>> 4) ^^^ it 4 (r &&& 15#32) = it 4 r := by
  have e : r = (r &&& 15#32) ^^^ ((r >>> 4) <<< 4) := by
    apply BitVec.eq_of_getLsbD_eq
    intro i hi
    have h15 : (15#32).getLsbD i = decide (i < 4) := by
      have : ∀ j : Fin 32, (15#32).getLsbD j.val = decide (j.val < 4) := by decide +kernel
      exact this ⟨i, hi⟩
    simp only [BitVec.getLsbD_xor, BitVec.getLsbD_and, h15, BitVec.getLsbD_shiftLeft, BitVec.getLsbD_ushiftRight]
    by_cases c : i < 4
    · simp [c]
    · simp [c, hi, show 4 + (i - 4) = i by omega]
  have hs : it 4 ((r >>> 4) <<< 4) = r >>> 4 := it_shl 4 _ (by
    rw [BitVec.toNat_ushiftRight, Nat.shiftRight_eq_div_pow]
    have := r.isLt
    omega)
  conv => rhs; rw [e, it_xor, hs]
  exact BitVec.xor_comm _ _
def ones : BitVec 32 := 0xFFFFFFFF#32
theorem ones_val : (4294967295 : Int) = ((ones.toNat : Nat) : Int) := by decide
/-- What the sum is. -/
def crcMore (s : Int) (l : List Int) : Int := (((F (BitVec.ofInt 32 s ^^^ ones) l) ^^^ ones).toNat : Int)
theorem crc_range (s : Int) (l : List Int) : 0 ≤ crcMore s l ∧ crcMore s l < 4294967296 := by
  unfold crcMore
  have := ((F (BitVec.ofInt 32 s ^^^ ones) l) ^^^ ones).isLt
  omega
theorem half (r : BitVec 32) : Go.bits .xor .u32 ((r.toNat : Int) / 16) (rd tab17 (Go.bits .and .u32 (r.toNat : Int) 15)) = ((it 4 r).toNat : Int) := by
  have e15 : (15 : Int) = (((15#32).toNat : Nat) : Int) := by decide
  rw [e15, band, div16, tab_at _ (and15 r), bxor, nib]
theorem low15 (r : BitVec 32) : 0 ≤ Go.bits .and .u32 (r.toNat : Int) 15 ∧ Go.bits .and .u32 (r.toNat : Int) 15 < 16 := by
  have e15 : (15 : Int) = (((15#32).toNat : Nat) : Int) := by decide
  rw [e15, band]
  have := and15 r
  omega
theorem CrcMore_ev (s : Int) (l : List Int) (hs : 0 ≤ s ∧ s < 4294967296) (hl : ∀ z ∈ l, 0 ≤ z ∧ z < 256) (hn : l.length ≤ 9223372036854775000) : Ev (fun k => codec_CrcMore.f k s l) (crcMore s l) := by
  have e0 : Go.bits .xor .u32 4294967295 s = ((F (BitVec.ofInt 32 s ^^^ ones) (l.take 0)).toNat : Int) := by
    rw [ones_val, word_in s hs, bxor, ofInt_toNat, BitVec.xor_comm]
    rfl
  have h := Ev.loop (σ := fun i k => codec_CrcMore.l0 k ((F (BitVec.ofInt 32 s ^^^ ones) (l.take i)).toNat : Int) l (l.length : Int) (i : Int)) (r := crcMore s l) (n := l.length) (fun i hi k => by
    have hz := hl _ (List.getElem_mem hi)
    have ex : Go.bits .xor .u32 ((F (BitVec.ofInt 32 s ^^^ ones) (l.take i)).toNat : Int) (rd l (i : Int) % 4294967296) = ((F (BitVec.ofInt 32 s ^^^ ones) (l.take i) ^^^ BitVec.ofInt 32 l[i]).toNat : Int) := by
      rw [rd_nat l i hi, byte_in _ hz, bxor]
    have hA := low15 (F (BitVec.ofInt 32 s ^^^ ones) (l.take i) ^^^ BitVec.ofInt 32 l[i])
    have hB := low15 (it 4 (F (BitVec.ofInt 32 s ^^^ ones) (l.take i) ^^^ BitVec.ofInt 32 l[i]))
    simp only [codec_CrcMore.l0]
    rw [if_pos (by omega), if_pos (by omega), if_pos (by omega)]
    simp only [ex, half]
    rw [if_pos hA.1, if_pos hA.2, if_pos hB.1, if_pos hB.2, ← it_add 4 4, ← F_snoc, take_snoc _ _ hi, w64 (by omega) (by omega)]
    rfl) (Ev.done fun k => by
    simp only [codec_CrcMore.l0]
    rw [if_neg (by omega), ones_val, bxor, List.take_length, BitVec.xor_comm]
    rfl) 0 (by omega)
  refine Ev.congr (fun k => ?_) h
  show codec_CrcMore.l0 k (Go.bits .xor .u32 4294967295 s) l (l.length : Int) 0 = _
  rw [e0]
  rfl
theorem Crc_ev (l : List Int) (hl : ∀ z ∈ l, 0 ≤ z ∧ z < 256) (hn : l.length ≤ 9223372036854775000) : Ev (fun k => codec_Crc.f k l) (crcMore 0 l) :=
  Ev.bind (CrcMore_ev 0 l (by omega) hl hn) (Ev.now _)
theorem crc_known_of {p : List Int} {v : Int} (h : ∃ k, codec_Crc.f k p = some v) : Ev (fun k => codec_Crc.f k p) v := by
  obtain ⟨k, h⟩ := h
  exact Ev.of (codec_Crc.mono _) h

theorem known : crcMore 0 (bytesOf (⟨#[49, 50, 51, 52, 53, 54, 55, 56, 57]⟩ : ByteArray)) = 3808858755 := by decide +kernel
theorem bytesOf_append (a b : ByteArray) : bytesOf (a ++ b) = bytesOf a ++ bytesOf b := by
  simp [bytesOf]
theorem more_of (s : Int) (l m : List Int) : crcMore (crcMore s l) m = crcMore s (l ++ m) := by
  unfold crcMore
  rw [ofInt_toNat, BitVec.xor_assoc, BitVec.xor_self, BitVec.xor_zero, F_append]
theorem more_nil (s : Int) (h : 0 ≤ s ∧ s < 4294967296) : crcMore s [] = s := by
  unfold crcMore
  show (((BitVec.ofInt 32 s ^^^ ones) ^^^ ones).toNat : Int) = s
  rw [BitVec.xor_assoc, BitVec.xor_self, BitVec.xor_zero, ← word_in s h]
theorem wf_u32 {n : Int} (h : (Lit.int .u32 n).wf = true) : 0 ≤ n ∧ n < 4294967296 := by
  simp [Lit.wf, IntKind.min, IntKind.max, IntKind.signed, IntKind.bits] at h
  omega
theorem pure_side : ∀ (a0_0 : ByteArray) (a0_1 : ByteArray) (a0_2 : Int), a0_0.size ≤ 140737488351232 → a0_1.size ≤ 140737488351232 → (Lit.int .u32 a0_2).wf = true → ((a0_0.size + 1) + (a0_1.size + 1) + 1 + 1) ≤ 1048576 → ∃ k, copselaw1_CodecParts.f k a0_0 a0_1 a0_2 = some true := by
  intro a b s ha hb hs hm
  refine Ev.rounds (g := fun k => copselaw1_CodecParts.f k a b s) ?_
  have hsm := wf_u32 hs
  have hab : (a ++ b).size = a.size + b.size := by rw [← bytesOf_length, bytesOf_append, List.length_append, bytesOf_length, bytesOf_length]
  have hsmall : (⟨#[49, 50, 51, 52, 53, 54, 55, 56, 57]⟩ : ByteArray).size ≤ 140737488351232 := by decide
  have n1 : ∀ x : ByteArray, x.size ≤ 1048576 → (bytesOf x).length ≤ 9223372036854775000 := fun x hx => by rw [bytesOf_length]; omega
  refine Ev.bind (Bytes_ev _ hsmall) (Ev.bind (Crc_ev _ (bytesOf_range _) (by decide)) ?_)
  refine Ev.congr (f := fun k => (copsekit_Bytes.f k (a ++ b)).bind fun p => (codec_Crc.f k p).bind fun c => (copsekit_Bytes.f k a).bind fun q => (codec_Crc.f k q).bind fun d => (copsekit_Bytes.f k b).bind fun r => (codec_CrcMore.f k d r).bind fun e => if e = c then ((copsekit_Bytes.f k a).bind fun q2 => (codec_CrcMore.f k 0 q2).bind fun g => if g = d then (codec_CrcMore.f k s []).bind fun t => some (t == s) else some false) else some false) (fun k => ?_) ?_
  · rw [if_pos (by omega), known]
    simp only [if_true]
  · refine Ev.bind (Bytes_ev _ (by omega)) (Ev.bind (Crc_ev _ (bytesOf_range _) (n1 _ (by omega))) (Ev.bind (Bytes_ev a ha) (Ev.bind (Crc_ev _ (bytesOf_range _) (n1 _ (by omega))) (Ev.bind (Bytes_ev b hb) (Ev.bind (CrcMore_ev _ _ (crc_range _ _) (bytesOf_range _) (n1 _ (by omega))) ?_)))))
    refine Ev.congr (f := fun k => (copsekit_Bytes.f k a).bind fun q2 => (codec_CrcMore.f k 0 q2).bind fun g => if g = crcMore 0 (bytesOf a) then (codec_CrcMore.f k s []).bind fun t => some (t == s) else some false) (fun k => ?_) ?_
    · rw [if_pos (by rw [more_of, bytesOf_append])]
    · refine Ev.bind (Bytes_ev a ha) (Ev.bind (CrcMore_ev 0 _ (by omega) (bytesOf_range _) (n1 _ (by omega))) ?_)
      refine Ev.congr (f := fun k => (codec_CrcMore.f k s []).bind fun t => some (t == s)) (fun k => if_pos rfl) ?_
      refine Ev.bind (CrcMore_ev s [] hsm (fun z hz => by cases hz) (by simp)) (Ev.const fun k => ?_)
      rw [more_nil s hsm]
      simp
end Go.Proofs.YtcjfmlgljfggpaaDoor.XCodecParts
