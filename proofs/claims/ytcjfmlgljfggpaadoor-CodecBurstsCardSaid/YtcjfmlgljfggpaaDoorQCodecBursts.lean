/- The pure side of CodecBursts: one step of the register loses nothing, so a burst of 32 bits cannot vanish. -/
import Derived.Test.YtcjfmlgljfggpaaDoorXCodecBurstsx
import Derived.Laws.BitsLemmas
set_option linter.unusedVariables false
namespace Go.Proofs.YtcjfmlgljfggpaaDoor.XCodecBursts
open Go.RowKit Go.Proofs.YtcjfmlgljfggpaaDoorW.PrintWords Go.Proofs.YtcjfmlgljfggpaaDoorW.PrintLast Go.Proofs.YtcjfmlgljfggpaaDoorW.PrintMore
theorem w64 {n : Int} (h0 : -9223372036854775808 ≤ n) (h1 : n < 9223372036854775808) : wrap64 n = n := by unfold wrap64; omega
theorem Ev.loop {α : Type} {σ : Nat → Nat → Option α} {r : α} {n : Nat} (h : ∀ i, i < n → ∀ k, σ i (k + 1) = σ (i + 1) k) (he : Ev (σ n) r) : ∀ i, i ≤ n → Ev (σ i) r := by
  have : ∀ d i, i + d = n → Ev (σ i) r := by
    intro d
    induction d with
    | zero => intro i hi; obtain rfl : i = n := by omega
              exact he
    | succ d ih => intro i hi; exact Ev.step (h i (by omega)) (ih (i + 1) (by omega))
  intro i hi
  exact this (n - i) i (by omega)
theorem Ev.loop' {α : Type} {σ : Nat → Nat → Option α} {r : α} {n : Nat} (h : ∀ i, i < n → Ev (σ (i + 1)) r → Ev (σ i) r) (he : Ev (σ n) r) : ∀ i, i ≤ n → Ev (σ i) r := by
  have : ∀ d i, i + d = n → Ev (σ i) r := by
    intro d
    induction d with
    | zero => intro i hi; obtain rfl : i = n := by omega
              exact he
    | succ d ih => intro i hi; exact h i (by omega) (ih (i + 1) (by omega))
  intro i hi
  exact this (n - i) i (by omega)
theorem Ev.done {α : Type} {g : Nat → Option α} {r : α} (h : ∀ k, g (k + 1) = some r) : Ev g r := Ev.step h (Ev.now r)
theorem Ev.const {α : Type} {g : Nat → Option α} {r : α} (h : ∀ k, g k = some r) : Ev g r := ⟨0, fun k _ => h k⟩
theorem Ev.bindc {α β : Type} {o : Option α} {f : Nat → α → Option β} {a : α} {r : β} (h : o = some a) (k : Ev (fun n => f n a) r) : Ev (fun n => o.bind (f n)) r := by subst h; exact k
theorem bt_nat (s : ByteArray) (i : Nat) (h : i < s.size) : bt s (i : Int) = (bytesOf s)[i]'(by rw [bytesOf_length]; exact h) := by
  unfold bt bytesOf
  rw [dif_pos (by simpa using h)]
  simp only [Int.toNat_natCast, List.getElem_map, Array.getElem_toList]
  rfl
theorem rd_nat (l : List Int) (i : Nat) (h : i < l.length) : rd l (i : Int) = l[i] := by
  unfold rd
  rw [Int.toNat_natCast, List.getD_eq_getElem?_getD, List.getElem?_eq_getElem h]
  rfl
theorem bytesOf_range (s : ByteArray) : ∀ z ∈ bytesOf s, 0 ≤ z ∧ z < 256 := by
  intro z hz
  unfold bytesOf at hz
  obtain ⟨b, _, rfl⟩ := List.mem_map.1 hz
  have := b.toNat_lt
  omega
theorem take_snoc {α : Type} (l : List α) (i : Nat) (h : i < l.length) : l.take i ++ [l[i]] = l.take (i + 1) := by
  rw [List.take_succ_eq_append_getElem h]
theorem rd_getD (l : List Int) (i : Nat) : rd l (i : Int) = l.getD i 0 := by unfold rd; rw [Int.toNat_natCast]
theorem rd_left (l m : List Int) (i : Nat) (h : i < l.length) : rd (l ++ m) (i : Int) = rd l (i : Int) := by
  rw [rd_getD, rd_getD, List.getD_eq_getElem?_getD, List.getD_eq_getElem?_getD, List.getElem?_append_left h]
theorem rd_right (l m : List Int) (i : Nat) (h : l.length ≤ i) : rd (l ++ m) (i : Int) = rd m ((i - l.length : Nat) : Int) := by
  rw [rd_getD, rd_getD, List.getD_eq_getElem?_getD, List.getD_eq_getElem?_getD, List.getElem?_append_right h]
theorem rd_drop0 (l : List Int) (i : Nat) (h : i < l.length) : rd (l.drop i) ((0 : Nat) : Int) = l[i] := by
  rw [List.drop_eq_getElem_cons h]; rfl

theorem Bytes_ev (s : ByteArray) (hs : s.size ≤ 140737488351232) : Ev (fun k => copsekit_Bytes.f k s) (bytesOf s) := by
  have h := Ev.loop (σ := fun i k => copsekit_Bytes.l0 k s ((bytesOf s).take i) (i : Int)) (r := bytesOf s) (n := s.size) (fun i hi k => by
    have hl : ((bytesOf s).take i).length = i := by rw [List.length_take, bytesOf_length]; omega
    simp only [copsekit_Bytes.l0]
    rw [if_pos (by omega), if_pos (by omega), if_pos (by omega), bt_nat s i hi, take_snoc _ _ (by rw [bytesOf_length]; exact hi), w64 (by omega) (by omega)]
    rfl) (Ev.done fun k => by
    simp only [copsekit_Bytes.l0]
    rw [if_neg (by omega), List.take_of_length_le (by rw [bytesOf_length]; omega)]) 0 (by omega)
  exact h

/-! The sum, on bits: one step, and what follows of it. -/
def st (r : BitVec 32) : BitVec 32 := (r >>> 1) ^^^ (if r.getLsbD 0 then 0x82F63B78#32 else 0#32)
theorem st_xor (a b : BitVec 32) : st (a ^^^ b) = st a ^^^ st b := by
  unfold st
  rw [BitVec.ushiftRight_xor_distrib, BitVec.getLsbD_xor]
  cases a.getLsbD 0 <;> cases b.getLsbD 0 <;> simp <;> (try ac_rfl)
  rw [BitVec.xor_assoc (a >>> 1), ← BitVec.xor_assoc 0x82F63B78#32 (b >>> 1), BitVec.xor_comm 0x82F63B78#32 (b >>> 1), BitVec.xor_assoc (b >>> 1)]
  simp
def it : Nat → BitVec 32 → BitVec 32
  | 0, r => r
  | n + 1, r => it n (st r)
theorem it_xor (n : Nat) : ∀ a b, it n (a ^^^ b) = it n a ^^^ it n b := by
  induction n with
  | zero => intro a b; rfl
  | succ n ih => intro a b; simp only [it]; rw [st_xor, ih]
theorem it_add (m : Nat) : ∀ n r, it (m + n) r = it n (it m r) := by
  induction m with
  | zero => intro n r; rw [Nat.zero_add]; rfl
  | succ m ih => intro n r; rw [show m + 1 + n = (m + n) + 1 by omega]; simp only [it]; exact ih n (st r)
theorem st_shl (z : BitVec 32) (h : z.toNat < 2147483648) : st (z <<< 1) = z := by
  unfold st
  have e : (z <<< 1).getLsbD 0 = false := by simp
  rw [e]
  simp only [Bool.false_eq_true, if_false, BitVec.xor_zero]
  apply BitVec.eq_of_toNat_eq
  rw [BitVec.toNat_ushiftRight, BitVec.toNat_shiftLeft, Nat.shiftRight_eq_div_pow, Nat.shiftLeft_eq]
  omega
theorem it_shl (n : Nat) : ∀ y : BitVec 32, y.toNat * 2 ^ n < 4294967296 → it n (y <<< n) = y := by
  induction n with
  | zero => intro y _; simp [it]
  | succ n ih =>
    intro y h
    have h1 : y.toNat * 2 ^ n < 2147483648 := by rw [Nat.pow_succ, ← Nat.mul_assoc] at h; omega
    simp only [it]
    rw [show y <<< (n + 1) = (y <<< n) <<< 1 by rw [BitVec.shiftLeft_add], st_shl, ih y (by omega)]
    rw [BitVec.toNat_shiftLeft, Nat.shiftLeft_eq, Nat.mod_eq_of_lt (by omega)]
    exact h1
theorem st_zero (r : BitVec 32) (h : st r = 0#32) : r = 0#32 := by
  unfold st at h
  have hb := r.isLt
  have hm : r.getLsbD 0 = decide (r.toNat % 2 = 1) := by
    rw [BitVec.getLsbD, Nat.testBit_zero]
  by_cases c : r.toNat % 2 = 1
  · exfalso
    rw [hm, decide_eq_true c, if_pos rfl] at h
    have h2 := (BitVec.xor_eq_zero_iff).1 h
    have h3 := congrArg BitVec.toNat h2
    rw [BitVec.toNat_ushiftRight, Nat.shiftRight_eq_div_pow] at h3
    have : (0x82F63B78#32).toNat = 2197175160 := rfl
    omega
  · rw [hm, decide_eq_false c, if_neg (by decide), BitVec.xor_zero] at h
    have h3 := congrArg BitVec.toNat h
    rw [BitVec.toNat_ushiftRight, Nat.shiftRight_eq_div_pow] at h3
    have : (0#32).toNat = 0 := rfl
    apply BitVec.eq_of_toNat_eq
    omega
theorem it_zero (n : Nat) : ∀ r, it n r = 0#32 → r = 0#32 := by
  induction n with
  | zero => intro r h; exact h
  | succ n ih => intro r h; exact st_zero r (ih _ h)
theorem it_zero_eq (n : Nat) : it n 0#32 = 0#32 := by
  induction n with
  | zero => rfl
  | succ n ih => exact ih
/-- The register, over bytes. -/
def F (r : BitVec 32) (l : List Int) : BitVec 32 := l.foldl (fun r b => it 8 (r ^^^ BitVec.ofInt 32 b)) r
theorem F_append (r : BitVec 32) (l m : List Int) : F r (l ++ m) = F (F r l) m := by simp [F]
theorem F_cons (r : BitVec 32) (b : Int) (l : List Int) : F r (b :: l) = F (it 8 (r ^^^ BitVec.ofInt 32 b)) l := rfl
theorem F_snoc (r : BitVec 32) (b : Int) (l : List Int) : F r (l ++ [b]) = it 8 (F r l ^^^ BitVec.ofInt 32 b) := by simp [F]
theorem F_xor (l : List Int) : ∀ r d, F (r ^^^ d) l = F r l ^^^ it (8 * l.length) d := by
  induction l with
  | nil => intro r d; rfl
  | cons b l ih =>
    intro r d
    rw [F_cons, F_cons, show r ^^^ d ^^^ BitVec.ofInt 32 b = (r ^^^ BitVec.ofInt 32 b) ^^^ d by ac_rfl, it_xor, ih, List.length_cons, show 8 * (l.length + 1) = 8 + 8 * l.length by omega, it_add]
/-! The numbers of the printed text as bits. -/
theorem u32_in (n : Nat) (h : n < 4294967296) : IntKind.u32.wrap (n : Int) = n := by rw [IntKind.wrap_u32]; omega
theorem ofInt_toNat (a : BitVec 32) : BitVec.ofInt 32 (a.toNat : Int) = a := by rw [BitVec.ofInt_natCast, BitVec.ofNat_toNat]; simp
theorem bxor (a b : BitVec 32) : Go.bits .xor .u32 (a.toNat : Int) (b.toNat : Int) = ((a ^^^ b).toNat : Int) := by
  show IntKind.u32.wrap (((BitVec.ofInt 32 (a.toNat : Int)) ^^^ (BitVec.ofInt 32 (b.toNat : Int))).toNat : Int) = _
  rw [ofInt_toNat, ofInt_toNat, u32_in _ (a ^^^ b).isLt]
theorem band (a b : BitVec 32) : Go.bits .and .u32 (a.toNat : Int) (b.toNat : Int) = ((a &&& b).toNat : Int) := by
  show IntKind.u32.wrap (((BitVec.ofInt 32 (a.toNat : Int)) &&& (BitVec.ofInt 32 (b.toNat : Int))).toNat : Int) = _
  rw [ofInt_toNat, ofInt_toNat, u32_in _ (a &&& b).isLt]
theorem byte_in (z : Int) (h : 0 ≤ z ∧ z < 256) : z % 4294967296 = ((BitVec.ofInt 32 z).toNat : Int) := by
  rw [BitVec.toNat_ofInt]
  omega
theorem word_in (z : Int) (h : 0 ≤ z ∧ z < 4294967296) : z = ((BitVec.ofInt 32 z).toNat : Int) := by
  rw [BitVec.toNat_ofInt]
  omega
theorem div16 (a : BitVec 32) : (a.toNat : Int) / (16 : Int) = ((a >>> 4).toNat : Int) := by
  rw [BitVec.toNat_ushiftRight, Nat.shiftRight_eq_div_pow]
  omega
theorem div2 (a : BitVec 32) : (a.toNat : Int) / (2 : Int) = ((a >>> 1).toNat : Int) := by
  rw [BitVec.toNat_ushiftRight, Nat.shiftRight_eq_div_pow]
  omega
theorem and15 (a : BitVec 32) : (a &&& 15#32).toNat < 16 := by
  rw [BitVec.toNat_and]
  have := Nat.and_lt_two_pow (x := a.toNat) (n := 4) (y := 15) (by decide)
  simpa using this
theorem tab_all : ∀ n : Fin 16, rd tab17 (n.val : Int) = ((it 4 (BitVec.ofNat 32 n.val)).toNat : Int) := by decide +kernel
theorem tab_at (a : BitVec 32) (h : a.toNat < 16) : rd tab17 (a.toNat : Int) = ((it 4 a).toNat : Int) := by
  have := tab_all ⟨a.toNat, h⟩
  simpa using this
theorem nib (r : BitVec 32) : (r >>> 4) ^^^ it 4 (r &&& 15#32) = it 4 r := by
  have e : r = (r &&& 15#32) ^^^ ((r >>> 4) <<< 4) := by
    apply BitVec.eq_of_getLsbD_eq
    intro i hi
    have h15 : (15#32).getLsbD i = decide (i < 4) := by
      have : ∀ j : Fin 32, (15#32).getLsbD j.val = decide (j.val < 4) := by decide +kernel
      exact this ⟨i, hi⟩
    simp only [BitVec.getLsbD_xor, BitVec.getLsbD_and, h15, BitVec.getLsbD_shiftLeft, BitVec.getLsbD_ushiftRight]
    by_cases c : i < 4
    · simp [c]
    · simp [c, hi, show 4 + (i - 4) = i by omega]
  have hs : it 4 ((r >>> 4) <<< 4) = r >>> 4 := it_shl 4 _ (by
    rw [BitVec.toNat_ushiftRight, Nat.shiftRight_eq_div_pow]
    have := r.isLt
    omega)
  conv => rhs; rw [e, it_xor, hs]
  exact BitVec.xor_comm _ _
def ones : BitVec 32 := 0xFFFFFFFF#32
theorem ones_val : (4294967295 : Int) = ((ones.toNat : Nat) : Int) := by decide
/-- What the sum is. -/
def crcMore (s : Int) (l : List Int) : Int := (((F (BitVec.ofInt 32 s ^^^ ones) l) ^^^ ones).toNat : Int)
theorem crc_range (s : Int) (l : List Int) : 0 ≤ crcMore s l ∧ crcMore s l < 4294967296 := by
  unfold crcMore
  have := ((F (BitVec.ofInt 32 s ^^^ ones) l) ^^^ ones).isLt
  omega
theorem half (r : BitVec 32) : Go.bits .xor .u32 ((r.toNat : Int) / 16) (rd tab17 (Go.bits .and .u32 (r.toNat : Int) 15)) = ((it 4 r).toNat : Int) := by
  have e15 : (15 : Int) = (((15#32).toNat : Nat) : Int) := by decide
  rw [e15, band, div16, tab_at _ (and15 r), bxor, nib]
theorem low15 (r : BitVec 32) : 0 ≤ Go.bits .and .u32 (r.toNat : Int) 15 ∧ Go.bits .and .u32 (r.toNat : Int) 15 < 16 := by
  have e15 : (15 : Int) = (((15#32).toNat : Nat) : Int) := by decide
  rw [e15, band]
  have := and15 r
  omega
theorem CrcMore_ev (s : Int) (l : List Int) (hs : 0 ≤ s ∧ s < 4294967296) (hl : ∀ z ∈ l, 0 ≤ z ∧ z < 256) (hn : l.length ≤ 9223372036854775000) : Ev (fun k => codec_CrcMore.f k s l) (crcMore s l) := by
  have e0 : Go.bits .xor .u32 4294967295 s = ((F (BitVec.ofInt 32 s ^^^ ones) (l.take 0)).toNat : Int) := by
    rw [ones_val, word_in s hs, bxor, ofInt_toNat, BitVec.xor_comm]
    rfl
  have h := Ev.loop (σ := fun i k => codec_CrcMore.l0 k ((F (BitVec.ofInt 32 s ^^^ ones) (l.take i)).toNat : Int) l (l.length : Int) (i : Int)) (r := crcMore s l) (n := l.length) (fun i hi k => by
    have hz := hl _ (List.getElem_mem hi)
    have ex : Go.bits .xor .u32 ((F (BitVec.ofInt 32 s ^^^ ones) (l.take i)).toNat : Int) (rd l (i : Int) % 4294967296) = ((F (BitVec.ofInt 32 s ^^^ ones) (l.take i) ^^^ BitVec.ofInt 32 l[i]).toNat : Int) := by
      rw [rd_nat l i hi, byte_in _ hz, bxor]
    have hA := low15 (F (BitVec.ofInt 32 s ^^^ ones) (l.take i) ^^^ BitVec.ofInt 32 l[i])
    have hB := low15 (it 4 (F (BitVec.ofInt 32 s ^^^ ones) (l.take i) ^^^ BitVec.ofInt 32 l[i]))
    simp only [codec_CrcMore.l0]
    rw [if_pos (by omega), if_pos (by omega), if_pos (by omega)]
    simp only [ex, half]
    rw [if_pos hA.1, if_pos hA.2, if_pos hB.1, if_pos hB.2, ← it_add 4 4, ← F_snoc, take_snoc _ _ hi, w64 (by omega) (by omega)]
    rfl) (Ev.done fun k => by
    simp only [codec_CrcMore.l0]
    rw [if_neg (by omega), ones_val, bxor, List.take_length, BitVec.xor_comm]
    rfl) 0 (by omega)
  refine Ev.congr (fun k => ?_) h
  show codec_CrcMore.l0 k (Go.bits .xor .u32 4294967295 s) l (l.length : Int) 0 = _
  rw [e0]
  rfl
theorem Crc_ev (l : List Int) (hl : ∀ z ∈ l, 0 ≤ z ∧ z < 256) (hn : l.length ≤ 9223372036854775000) : Ev (fun k => codec_Crc.f k l) (crcMore 0 l) :=
  Ev.bind (CrcMore_ev 0 l (by omega) hl hn) (Ev.now _)
theorem crc_known_of {p : List Int} {v : Int} (h : ∃ k, codec_Crc.f k p = some v) : Ev (fun k => codec_Crc.f k p) v := by
  obtain ⟨k, h⟩ := h
  exact Ev.of (codec_Crc.mono _) h

/-! Bytes xored. -/
theorem u8_in (n : Nat) (h : n < 256) : IntKind.u8.wrap (n : Int) = n := by rw [IntKind.wrap_u8]; omega
theorem xor8 (x y : Nat) (hx : x < 256) (hy : y < 256) : Go.bits .xor .u8 (x : Int) (y : Int) = ((x ^^^ y : Nat) : Int) := by
  have h8 : x ^^^ y < 256 := Nat.xor_lt_two_pow (n := 8) hx hy
  show IntKind.u8.wrap (((BitVec.ofInt 8 (x : Int)) ^^^ (BitVec.ofInt 8 (y : Int))).toNat : Int) = _
  rw [BitVec.toNat_xor, BitVec.ofInt_natCast, BitVec.ofInt_natCast, BitVec.toNat_ofNat, BitVec.toNat_ofNat, Nat.mod_eq_of_lt (by omega), Nat.mod_eq_of_lt (by omega), u8_in _ h8]
theorem ofInt_xor (x y : Nat) (hx : x < 256) (hy : y < 256) : BitVec.ofInt 32 ((x ^^^ y : Nat) : Int) = BitVec.ofInt 32 (x : Int) ^^^ BitVec.ofInt 32 (y : Int) := by
  have h8 : x ^^^ y < 256 := Nat.xor_lt_two_pow (n := 8) hx hy
  apply BitVec.eq_of_toNat_eq
  rw [BitVec.toNat_xor, BitVec.ofInt_natCast, BitVec.ofInt_natCast, BitVec.ofInt_natCast, BitVec.toNat_ofNat, BitVec.toNat_ofNat, BitVec.toNat_ofNat, Nat.mod_eq_of_lt (by omega), Nat.mod_eq_of_lt (by omega), Nat.mod_eq_of_lt (by omega)]
theorem xor8_int (x y : Int) (hx : 0 ≤ x ∧ x < 256) (hy : 0 ≤ y ∧ y < 256) : (0 ≤ Go.bits .xor .u8 x y ∧ Go.bits .xor .u8 x y < 256) ∧ BitVec.ofInt 32 (Go.bits .xor .u8 x y) = BitVec.ofInt 32 x ^^^ BitVec.ofInt 32 y := by
  obtain ⟨m, rfl⟩ := Int.eq_ofNat_of_zero_le hx.1
  obtain ⟨n, rfl⟩ := Int.eq_ofNat_of_zero_le hy.1
  have hm : m < 256 := by omega
  have hn : n < 256 := by omega
  have h8 : m ^^^ n < 256 := Nat.xor_lt_two_pow (n := 8) hm hn
  rw [xor8 m n hm hn, ofInt_xor m n hm hn]
  exact ⟨by omega, rfl⟩

theorem known_a : crcMore 0 (bytesOf (⟨#[97]⟩ : ByteArray)) = 3251651376 := by decide +kernel
theorem Copy_ev (l : List Int) (hl : l.length ≤ 140737488351232) : Ev (fun k => copsekit_Copy.f k l) l := by
  have h := Ev.loop (σ := fun i k => copsekit_Copy.l0 k l (l.take i) (i : Int)) (r := l) (n := l.length) (fun i hi k => by
    simp only [copsekit_Copy.l0]
    rw [if_pos (by omega), if_pos (by omega), if_pos (by rw [List.length_take]; omega), rd_nat l i hi, take_snoc _ _ hi, w64 (by omega) (by omega)]
    rfl) (Ev.done fun k => by
    simp only [copsekit_Copy.l0]
    rw [if_neg (by omega), List.take_length]) 0 (by omega)
  exact h
/-- Bit number b of the bytes turned. -/
def flip (q : List Int) (b : Nat) : List Int := q.set (b / 8) (Go.bits .xor .u8 (q.getD (b / 8) 0) ((2 ^ (b % 8) : Nat) : Int))
theorem pow_lt8 (m : Nat) (h : m < 8) : 2 ^ m < 256 := by
  have : m = 0 ∨ m = 1 ∨ m = 2 ∨ m = 3 ∨ m = 4 ∨ m = 5 ∨ m = 6 ∨ m = 7 := by omega
  rcases this with rfl | rfl | rfl | rfl | rfl | rfl | rfl | rfl <;> decide
theorem pow_le32 (m : Nat) (h : m < 32) : 2 ^ m < 4294967296 := Nat.pow_lt_pow_right (by decide) (show m < 32 from h)
theorem one_shl (m : Nat) (h : m < 8) : BitVec.ofInt 32 ((2 ^ m : Nat) : Int) = (1#32) <<< m := by
  apply BitVec.eq_of_toNat_eq
  rw [BitVec.ofInt_natCast, BitVec.toNat_ofNat, BitVec.toNat_shiftLeft, Nat.shiftLeft_eq]
  simp
theorem flip_len (q : List Int) (b : Nat) : (flip q b).length = q.length := by simp [flip]
theorem getD_in (q : List Int) (j : Nat) (h : ∀ z ∈ q, 0 ≤ z ∧ z < 256) : 0 ≤ q.getD j 0 ∧ q.getD j 0 < 256 := by
  rw [List.getD_eq_getElem?_getD]
  by_cases c : j < q.length
  · rw [List.getElem?_eq_getElem c]; exact h _ (List.getElem_mem c)
  · rw [List.getElem?_eq_none (by omega)]; simp
theorem pow_in (m : Nat) (h : m < 8) : 0 ≤ ((2 ^ m : Nat) : Int) ∧ ((2 ^ m : Nat) : Int) < 256 := by
  have h1 := pow_lt8 m h
  exact ⟨Int.natCast_nonneg _, Int.ofNat_lt.2 h1⟩
theorem it8_one (m : Nat) (h : m < 8) : it 8 (BitVec.ofInt 32 ((2 ^ m : Nat) : Int)) = it (8 - m) 1#32 := by
  have e := it_add m (8 - m) ((1#32) <<< m)
  rw [show m + (8 - m) = 8 by omega] at e
  rw [one_shl m h, e, it_shl]
  have h1 := pow_le32 m (by omega)
  simpa using h1
theorem flip_range (q : List Int) (b : Nat) (h : ∀ z ∈ q, 0 ≤ z ∧ z < 256) : ∀ z ∈ flip q b, 0 ≤ z ∧ z < 256 := by
  intro z hz
  rcases List.mem_or_eq_of_mem_set hz with hz | rfl
  · exact h z hz
  · exact (xor8_int _ _ (getD_in q _ h) (pow_in (b % 8) (by omega))).1
theorem F_flip (r : BitVec 32) (q : List Int) (b : Nat) (h : ∀ z ∈ q, 0 ≤ z ∧ z < 256) (hb : b < 8 * q.length) : F r (flip q b) = F r q ^^^ it (8 * q.length - b) 1#32 := by
  have hj : b / 8 < q.length := by omega
  have hq : q = q.take (b / 8) ++ q[b / 8] :: q.drop (b / 8 + 1) := by
    rw [← List.drop_eq_getElem_cons hj, List.take_append_drop]
  have hg : q.getD (b / 8) 0 = q[b / 8] := by rw [List.getD_eq_getElem?_getD, List.getElem?_eq_getElem hj]; rfl
  have hs : flip q b = q.take (b / 8) ++ (Go.bits .xor .u8 q[b / 8] ((2 ^ (b % 8) : Nat) : Int)) :: q.drop (b / 8 + 1) := by
    unfold flip
    rw [hg, List.set_eq_take_append_cons_drop, if_pos hj]
  have hx := (xor8_int q[b / 8] ((2 ^ (b % 8) : Nat) : Int) (h _ (List.getElem_mem hj)) (pow_in (b % 8) (by omega))).2
  have h1 := it8_one (b % 8) (by omega)
  conv => rhs; rw [hq]
  rw [hs, F_append, F_append, F_cons, F_cons, hx, ← BitVec.xor_assoc, it_xor, h1, F_xor, ← it_add, List.length_drop]
  congr 2
  simp
  omega
/-- The bytes and the mark, behind so many of the 32 bits. -/
def St (p : List Int) (at_ : Nat) (B : Nat → Prop) [DecidablePred B] : Nat → List Int × Bool
  | 0 => (p, false)
  | i + 1 => if B i ∧ at_ + i < 8 * p.length then (flip (St p at_ B i).1 (at_ + i), true) else St p at_ B i
/-- The bits turned, as a word. -/
def Tw (n at_ : Nat) (B : Nat → Prop) [DecidablePred B] : Nat → BitVec 32
  | 0 => 0#32
  | i + 1 => if B i ∧ at_ + i < n then Tw n at_ B i ^^^ (1#32 <<< i) else Tw n at_ B i
section
variable (p : List Int) (at_ : Nat) (B : Nat → Prop) [DecidablePred B]
theorem St_len (i : Nat) : (St p at_ B i).1.length = p.length := by
  induction i with
  | zero => rfl
  | succ i ih => simp only [St]; split
                 · rw [flip_len, ih]
                 · exact ih
theorem St_range (h : ∀ z ∈ p, 0 ≤ z ∧ z < 256) (i : Nat) : ∀ z ∈ (St p at_ B i).1, 0 ≤ z ∧ z < 256 := by
  induction i with
  | zero => exact h
  | succ i ih => simp only [St]; split
                 · exact flip_range _ _ ih
                 · exact ih
theorem one_bit (i j : Nat) (hi : i < 32) (hj : j < 32) : (1#32 <<< i).getLsbD j = decide (i = j) := by
  have : ∀ a b : Fin 32, (1#32 <<< a.val).getLsbD b.val = decide (a.val = b.val) := by decide +kernel
  exact this ⟨i, hi⟩ ⟨j, hj⟩
theorem Tw_hi (n : Nat) (i : Nat) (hi : i ≤ 32) : ∀ j, i ≤ j → j < 32 → (Tw n at_ B i).getLsbD j = false := by
  induction i with
  | zero => intro j _ _; simp [Tw]
  | succ i ih =>
    intro j h1 h2
    simp only [Tw]
    split
    · rw [BitVec.getLsbD_xor, ih (by omega) j (by omega) h2, one_bit i j (by omega) h2, decide_eq_false (by omega)]; rfl
    · exact ih (by omega) j (by omega) h2
theorem St_some (i : Nat) (hi : i ≤ 32) : (St p at_ B i).2 = true → ∃ j, j < i ∧ (Tw (8 * p.length) at_ B i).getLsbD j = true := by
  induction i with
  | zero => intro h; cases h
  | succ i ih =>
    intro h
    simp only [St] at h
    simp only [Tw]
    split at h
    · rename_i hc
      rw [if_pos hc]
      refine ⟨i, by omega, ?_⟩
      rw [BitVec.getLsbD_xor, Tw_hi at_ B _ i (by omega) i (by omega) (by omega), one_bit i i (by omega) (by omega)]
      simp
    · rename_i hc
      rw [if_neg hc]
      obtain ⟨j, h1, h2⟩ := ih (by omega) h
      exact ⟨j, by omega, h2⟩
theorem St_F (h : ∀ z ∈ p, 0 ≤ z ∧ z < 256) (r : BitVec 32) (i : Nat) (hi : i ≤ 32) : F r (St p at_ B i).1 = F r p ^^^ it (8 * p.length - at_) (Tw (8 * p.length) at_ B i) := by
  induction i with
  | zero => simp [St, Tw, it_zero_eq]
  | succ i ih =>
    simp only [St, Tw]
    split
    · rename_i hc
      rw [F_flip r _ _ (St_range p at_ B h i) (by rw [St_len]; exact hc.2), St_len, ih (by omega), it_xor, BitVec.xor_assoc]
      congr 2
      rw [show 8 * p.length - at_ = i + (8 * p.length - (at_ + i)) by omega, it_add, it_shl _ _ (by
        have := pow_le32 i (by omega)
        simpa using this)]
    · exact ih (by omega)
end
theorem u64_in {n : Int} (h0 : 0 ≤ n) (h1 : n < 18446744073709551616) : IntKind.u64.wrap n = n := by
  simp [IntKind.wrap, IntKind.bits, IntKind.signed]
  omega
theorem shl8 (m : Nat) (h : m < 8) : shl .u8 1 (m : Int) = ((2 ^ m : Nat) : Int) := by
  have : m = 0 ∨ m = 1 ∨ m = 2 ∨ m = 3 ∨ m = 4 ∨ m = 5 ∨ m = 6 ∨ m = 7 := by omega
  rcases this with rfl | rfl | rfl | rfl | rfl | rfl | rfl | rfl <;> decide
theorem turned_ev (p : List Int) (at_ : Nat) (turn : Int) (hl : p.length ≤ 140737488351232) (ha : at_ ≤ 8 * p.length) :
    Ev (fun k => copselaw1_turned.f k p (at_ : Int) turn) (St p at_ (fun i => Go.bits .and .u32 (shr .u32 turn (i : Int)) 1 = 1) 32) := by
  refine Ev.bind (Copy_ev p hl) ?_
  have h := Ev.loop (σ := fun i k => copselaw1_turned.l0 k (at_ : Int) turn (St p at_ (fun i => Go.bits .and .u32 (shr .u32 turn (i : Int)) 1 = 1) i).1 (St p at_ (fun i => Go.bits .and .u32 (shr .u32 turn (i : Int)) 1 = 1) i).2 (i : Int)) (r := St p at_ (fun i => Go.bits .and .u32 (shr .u32 turn (i : Int)) 1 = 1) 32) (n := 32) (fun i hi k => by
    have hlen := St_len p at_ (fun i => Go.bits .and .u32 (shr .u32 turn (i : Int)) 1 = 1) i
    simp only [copselaw1_turned.l0]
    rw [if_pos (by omega), u64_in (n := (i : Int)) (by omega) (by omega), if_pos (by omega)]
    by_cases hB : Go.bits .and .u32 (shr .u32 turn (i : Int)) 1 = 1
    · rw [if_pos hB, hlen, w64 (n := (at_ : Int) + (i : Int)) (by omega) (by omega), w64 (n := 8 * (p.length : Int)) (by omega) (by omega)]
      by_cases hc : at_ + i < 8 * p.length
      · have e1 : Int.tdiv ((at_ : Int) + (i : Int)) 8 = (((at_ + i) / 8 : Nat) : Int) := rfl
        have e2 : Int.tmod ((at_ : Int) + (i : Int)) 8 = (((at_ + i) % 8 : Nat) : Int) := rfl
        rw [if_pos (by omega), e1, e2, w64 (n := (((at_ + i) / 8 : Nat) : Int)) (by omega) (by omega), if_pos (by omega), if_pos (by omega), u64_in (n := (((at_ + i) % 8 : Nat) : Int)) (by omega) (by omega), if_pos (by omega), w64 (n := (i : Int) + 1) (by omega) (by omega), shl8 _ (by omega), rd_getD, Int.toNat_natCast]
        simp only [St]
        rw [if_pos ⟨hB, hc⟩]
        rfl
      · rw [if_neg (by omega), w64 (n := (i : Int) + 1) (by omega) (by omega)]
        simp only [St]
        rw [if_neg (fun hh => hc hh.2)]
        rfl
    · rw [if_neg hB, w64 (n := (i : Int) + 1) (by omega) (by omega)]
      simp only [St]
      rw [if_neg (fun hh => hB hh.1)]
      rfl) (Ev.done fun k => by
    simp only [copselaw1_turned.l0]
    rw [if_neg (by omega)]) 0 (by omega)
  exact h
theorem pick_in (a : Int) (n : Nat) (hn : (n : Int) ≤ 1125899906809856) (h : (Lit.int .i64 a).wf = true) : ∃ m : Nat, copsekit_Pick.f a (n : Int) = some (m : Int) ∧ m ≤ n := by
  unfold copsekit_Pick.f
  by_cases h1 : (n : Int) < 1
  · exact ⟨0, by rw [if_pos h1]; rfl, by omega⟩
  · rw [if_neg h1, if_neg (by omega)]
    have hb := Int.tmod_lt_of_pos a (b := (n : Int)) (by omega)
    have hb2 : -(n : Int) < Int.tmod a (n : Int) := by
      have h3 := Int.tmod_lt_of_pos (-a) (b := (n : Int)) (by omega)
      rw [Int.neg_tmod] at h3
      omega
    by_cases hneg : Int.tmod a (n : Int) < 0
    · rw [if_pos hneg, w64 (by omega) (by omega)]
      exact ⟨(Int.tmod a (n : Int) + (n : Int)).toNat, by congr 1; omega, by omega⟩
    · rw [if_neg hneg]
      exact ⟨(Int.tmod a (n : Int)).toNat, by congr 1; omega, by omega⟩
theorem pure_side : ∀ (a0_0 : ByteArray) (a0_1 : Int) (a0_2 : Int), a0_0.size ≤ 140737488351232 → (Lit.int .i64 a0_1).wf = true → (Lit.int .u32 a0_2).wf = true → ∃ k, copselaw1_CodecBursts.f k a0_0 a0_1 a0_2 = some true := by
  intro s a t hs ha _
  refine Ev.rounds (g := fun k => copselaw1_CodecBursts.f k s a t) ?_
  have hlen : (bytesOf s).length = s.size := bytesOf_length s
  have hsmall : (⟨#[97]⟩ : ByteArray).size ≤ 140737488351232 := by decide
  obtain ⟨m, hm, hmn⟩ := pick_in a (8 * s.size) (by omega) ha
  refine Ev.bind (Bytes_ev _ hsmall) (Ev.bind (Crc_ev _ (bytesOf_range _) (by decide)) (Ev.bind (Bytes_ev s hs) (Ev.bindc (a := (m : Int)) ?_ (Ev.bind (turned_ev (bytesOf s) m t (by omega) (by omega)) ?_))))
  · rw [hlen, w64 (by omega) (by omega), ← hm]
    rfl
  · rw [known_a]
    have hb := bytesOf_range s
    by_cases hsome : (St (bytesOf s) m (fun i => Go.bits .and .u32 (shr .u32 t (i : Int)) 1 = 1) 32).2 = true
    · refine Ev.congr (f := fun k => (codec_Crc.f k (bytesOf s)).bind fun x => (codec_Crc.f k (St (bytesOf s) m (fun i => Go.bits .and .u32 (shr .u32 t (i : Int)) 1 = 1) 32).1).bind fun y => some (x != y)) (fun k => ?_) ?_
      · rw [if_pos rfl, if_pos hsome]
      · refine Ev.bind (Crc_ev _ hb (by omega)) (Ev.bind (Crc_ev _ (St_range _ _ _ hb 32) (by rw [St_len]; omega)) (Ev.const fun k => ?_))
        have hne : crcMore 0 (bytesOf s) ≠ crcMore 0 (St (bytesOf s) m (fun i => Go.bits .and .u32 (shr .u32 t (i : Int)) 1 = 1) 32).1 := by
          intro e
          obtain ⟨j, _, hj⟩ := St_some (bytesOf s) m (fun i => Go.bits .and .u32 (shr .u32 t (i : Int)) 1 = 1) 32 (Nat.le_refl _) hsome
          unfold crcMore at e
          have e1 := BitVec.eq_of_toNat_eq (Int.ofNat.inj e)
          rw [St_F (bytesOf s) m _ hb _ 32 (Nat.le_refl _)] at e1
          generalize F _ (bytesOf s) = x at e1
          generalize hd : it _ (Tw (8 * (bytesOf s).length) m (fun i => Go.bits .and .u32 (shr .u32 t (i : Int)) 1 = 1) 32) = d at e1
          have e2 : d = 0#32 := by
            have e3 : (x ^^^ ones) ^^^ (x ^^^ d ^^^ ones) = 0#32 := by rw [← e1, BitVec.xor_self]
            rw [show (x ^^^ ones) ^^^ (x ^^^ d ^^^ ones) = d ^^^ ((x ^^^ x) ^^^ (ones ^^^ ones)) by ac_rfl, BitVec.xor_self, BitVec.xor_self] at e3
            simpa using e3
          rw [e2] at hd
          have e4 := it_zero _ _ hd
          rw [e4] at hj
          simp at hj
        simp [bne_iff_ne.2 hne]
    · refine Ev.const fun k => ?_
      rw [if_pos rfl, if_neg hsome]
end Go.Proofs.YtcjfmlgljfggpaaDoor.XCodecBursts
