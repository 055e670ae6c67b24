/- The pure side of LeafEncodes. -/
import Derived.Test.YtdailhlghlledaaDoorXLeafEncodesx
import Derived.Laws.BitsLemmas
set_option linter.unusedVariables false
set_option linter.unusedSimpArgs false
namespace Go.Proofs.YtdailhlghlledaaDoor.XLeafEncodes
open Go.RowKit Go.Proofs.YtdailhlghlledaaDoorW.PrintWords Go.Proofs.YtdailhlghlledaaDoorW.PrintLast
theorem w64 {n : Int} (h0 : -9223372036854775808 ≤ n) (h1 : n < 9223372036854775808) : wrap64 n = n := by unfold wrap64; omega
theorem Ev.loop {α : Type} {σ : Nat → Nat → Option α} {r : α} {n : Nat} (h : ∀ i, i < n → ∀ k, σ i (k + 1) = σ (i + 1) k) (he : Ev (σ n) r) : ∀ i, i ≤ n → Ev (σ i) r := by
  have : ∀ d i, i + d = n → Ev (σ i) r := by
    intro d
    induction d with
    | zero => intro i hi; obtain rfl : i = n := by omega
              exact he
    | succ d ih => intro i hi; exact Ev.step (h i (by omega)) (ih (i + 1) (by omega))
  intro i hi
  exact this (n - i) i (by omega)
theorem Ev.loop' {α : Type} {σ : Nat → Nat → Option α} {r : α} {n : Nat} (h : ∀ i, i < n → Ev (σ (i + 1)) r → Ev (σ i) r) (he : Ev (σ n) r) : ∀ i, i ≤ n → Ev (σ i) r := by
  have : ∀ d i, i + d = n → Ev (σ i) r := by
    intro d
    induction d with
    | zero => intro i hi; obtain rfl : i = n := by omega
              exact he
    | succ d ih => intro i hi; exact h i (by omega) (ih (i + 1) (by omega))
  intro i hi
  exact this (n - i) i (by omega)
theorem Ev.done {α : Type} {g : Nat → Option α} {r : α} (h : ∀ k, g (k + 1) = some r) : Ev g r := Ev.step h (Ev.now r)
theorem Ev.const {α : Type} {g : Nat → Option α} {r : α} (h : ∀ k, g k = some r) : Ev g r := ⟨0, fun k _ => h k⟩
theorem Ev.bindc {α β : Type} {o : Option α} {f : Nat → α → Option β} {a : α} {r : β} (h : o = some a) (k : Ev (fun n => f n a) r) : Ev (fun n => o.bind (f n)) r := by subst h; exact k
theorem bt_nat (s : ByteArray) (i : Nat) (h : i < s.size) : bt s (i : Int) = (bytesOf s)[i]'(by rw [bytesOf_length]; exact h) := by
  unfold bt bytesOf
  rw [dif_pos (by simpa using h)]
  simp only [Int.toNat_natCast, List.getElem_map, Array.getElem_toList]
  rfl
theorem rd_nat (l : List Int) (i : Nat) (h : i < l.length) : rd l (i : Int) = l[i] := by
  unfold rd
  rw [Int.toNat_natCast, List.getD_eq_getElem?_getD, List.getElem?_eq_getElem h]
  rfl
theorem bytesOf_range (s : ByteArray) : ∀ z ∈ bytesOf s, 0 ≤ z ∧ z < 256 := by
  intro z hz
  unfold bytesOf at hz
  obtain ⟨b, _, rfl⟩ := List.mem_map.1 hz
  have := b.toNat_lt
  omega
theorem take_snoc {α : Type} (l : List α) (i : Nat) (h : i < l.length) : l.take i ++ [l[i]] = l.take (i + 1) := by
  rw [List.take_succ_eq_append_getElem h]
theorem rd_getD (l : List Int) (i : Nat) : rd l (i : Int) = l.getD i 0 := by unfold rd; rw [Int.toNat_natCast]
theorem rd_left (l m : List Int) (i : Nat) (h : i < l.length) : rd (l ++ m) (i : Int) = rd l (i : Int) := by
  rw [rd_getD, rd_getD, List.getD_eq_getElem?_getD, List.getD_eq_getElem?_getD, List.getElem?_append_left h]
theorem rd_right (l m : List Int) (i : Nat) (h : l.length ≤ i) : rd (l ++ m) (i : Int) = rd m ((i - l.length : Nat) : Int) := by
  rw [rd_getD, rd_getD, List.getD_eq_getElem?_getD, List.getD_eq_getElem?_getD, List.getElem?_append_right h]
theorem rd_drop0 (l : List Int) (i : Nat) (h : i < l.length) : rd (l.drop i) ((0 : Nat) : Int) = l[i] := by
  rw [List.drop_eq_getElem_cons h]; rfl

theorem Bytes_ev (s : ByteArray) (hs : s.size ≤ 140737488351232) : Ev (fun k => copsekit_Bytes.f k s) (bytesOf s) := by
  have h := Ev.loop (σ := fun i k => copsekit_Bytes.l0 k s ((bytesOf s).take i) (i : Int)) (r := bytesOf s) (n := s.size) (fun i hi k => by
    have hl : ((bytesOf s).take i).length = i := by rw [List.length_take, bytesOf_length]; omega
    simp only [copsekit_Bytes.l0]
    rw [if_pos (by omega), if_pos (by omega), if_pos (by omega), bt_nat s i hi, take_snoc _ _ (by rw [bytesOf_length]; exact hi), w64 (by omega) (by omega)]
    rfl) (Ev.done fun k => by
    simp only [copsekit_Bytes.l0]
    rw [if_neg (by omega), List.take_of_length_le (by rw [bytesOf_length]; omega)]) 0 (by omega)
  exact h

/-- What Put answers. -/
def putbad (a0 a1 : Int) : Prop := a1 < 1 ∨ 8 < a1 ∨ (a1 < 8 ∧ a0 / 2 ^ (8 * a1).toNat ≠ 0)
instance (a0 a1 : Int) : Decidable (putbad a0 a1) := by unfold putbad; exact inferInstance
def putrow (a0 a1 : Int) : List Int := (codec_Put.row a0 8).drop (8 - a1.toNat)
theorem Put_eq (a0 a1 : Int) (h0 : 0 ≤ a0) (h1 : a0 < 18446744073709551616) : codec_Put.f a0 a1 = some (if putbad a0 a1 then ([], some 1) else (putrow a0 a1, none)) := by
  by_cases h : putbad a0 a1
  · rw [if_pos h]
    unfold codec_Put.f
    rw [if_pos ⟨h0, h1⟩]
    exact if_pos h
  · rw [if_neg h]
    unfold codec_Put.f
    rw [if_pos ⟨h0, h1⟩]
    exact if_neg h
theorem putrow_len (a0 a1 : Int) (h : ¬ putbad a0 a1) : (putrow a0 a1).length = a1.toNat := by
  unfold putbad at h
  unfold putrow
  rw [List.length_drop, show (codec_Put.row a0 8).length = 8 from rfl]
  omega
theorem wid8 {a1 : Int} (h : 1 ≤ a1) (h' : a1 ≤ 8) : a1 = 1 ∨ a1 = 2 ∨ a1 = 3 ∨ a1 = 4 ∨ a1 = 5 ∨ a1 = 6 ∨ a1 = 7 ∨ a1 = 8 := by omega
theorem u64_wf {a : Int} (h : (Lit.int .u64 a).wf = true) : 0 ≤ a ∧ a < 18446744073709551616 := by
  simp [Lit.wf, IntKind.min, IntKind.max, IntKind.bits, IntKind.signed] at h
  omega
theorem i64_wf {a : Int} (h : (Lit.int .i64 a).wf = true) : -9223372036854775808 ≤ a ∧ a < 9223372036854775808 := by
  simp [Lit.wf, IntKind.min, IntKind.max, IntKind.bits, IntKind.signed] at h
  omega

theorem RPut_ev (a0 a1 : Int) (h0 : 0 ≤ a0) (h1 : a0 < 18446744073709551616) : Ev (fun k => copseref1_Put.f k a0 a1) (if putbad a0 a1 then ([], 1) else (putrow a0 a1, 0)) := by
  by_cases c1 : a1 < 1
  · rw [if_pos (.inl c1)]
    refine Ev.done fun k => ?_
    simp [copseref1_Put.f, c1, copseref1_Put.j0]
  by_cases c8 : 8 < a1
  · rw [if_pos (.inr (.inl c8))]
    refine Ev.done fun k => ?_
    simp [copseref1_Put.f, c1, c8, copseref1_Put.j0]
  have hx : a0 / 72057594037927936 % 256 = a0 / 72057594037927936 := by omega
  have hw := wid8 (a1 := a1) (by omega) (by omega)
  rcases hw with rfl | rfl | rfl | rfl | rfl | rfl | rfl | rfl
  all_goals
    refine ⟨12, fun k hk => ?_⟩
    obtain ⟨j, rfl⟩ : ∃ j, k = j + 12 := ⟨k - 12, by omega⟩
    simp [copseref1_Put.f, copseref1_Put.j0, copseref1_Put.l0, wrap64, IntKind.wrap, IntKind.bits, IntKind.signed, putbad, putrow, codec_Put.row, shr, hx]
    try (split <;> simp_all)

/-! pairs, their marks, and whether they are kept -/
theorem rdp (l : List S58) (i : Nat) (h : i < l.length) : rd_T58 l (i : Int) = l[i] := by
  unfold rd_T58
  rw [Int.toNat_natCast, List.getD_eq_getElem?_getD, List.getElem?_eq_getElem h]
  rfl
theorem digit_cut : ∀ d : Nat, d < 10 → (([48, 49, 50, 51, 52, 53, 54, 55, 56, 57] : List Int).take (d + 1)).drop d = [48 + (d : Int)] := by decide
def mk (j : Nat) : S58 := ⟨(⟨#[109, 97, 114, 107]⟩ : ByteArray), strOfNums [48 + ((j % 10 : Nat) : Int)]⟩
theorem mark_ev (j : Nat) (h : j < 64) : Ev (fun k => copselaw7_mark.f k (j : Int)) ((mk j).f0, (mk j).f1) := by
  have hb := Bytes_ev (⟨#[48, 49, 50, 51, 52, 53, 54, 55, 56, 57]⟩ : ByteArray) (by decide)
  refine Ev.bind hb (Ev.const fun k => ?_)
  have e : bytesOf (⟨#[48, 49, 50, 51, 52, 53, 54, 55, 56, 57]⟩ : ByteArray) = [48, 49, 50, 51, 52, 53, 54, 55, 56, 57] := by decide
  rw [e, show Int.tmod (j : Int) 10 = ((j % 10 : Nat) : Int) from rfl, w64 (by omega) (by omega), if_pos (by omega), if_pos (by omega), if_pos (by simp; omega),
    show (((j % 10 : Nat) : Int) + 1).toNat = j % 10 + 1 by omega, Int.toNat_natCast, digit_cut _ (by omega)]
  rfl
def marksP : List S58 := (List.range 64).map mk
theorem marksP_len : marksP.length = 64 := by simp [marksP]
theorem marksP_at (j : Nat) (h : j < 64) : marksP[j]'(by rw [marksP_len]; exact h) = mk j := by simp [marksP]
theorem pairs_ev (l : List S58) (hl : l.length * 32 ≤ 140737488351232) : Ev (fun k => copselaw7_pairs.f k l) (l ++ marksP) := by
  have h1 := Ev.loop' (σ := fun i k => copselaw7_pairs.l1 k (l ++ marksP.take i) (i : Int)) (r := l ++ marksP) (n := 64) (fun i hi hn => by
    have hlen : (l ++ marksP.take i).length = l.length + i := by rw [List.length_append, List.length_take, marksP_len]; omega
    refine Ev.step (f := fun k => (copselaw7_mark.f k (i : Int)).bind fun bt116 => if (l ++ marksP.take i).length < 4398046511104 then copselaw7_pairs.l1 k ((l ++ marksP.take i) ++ [(⟨bt116.1, bt116.2⟩ : S58)]) (wrap64 ((i : Int) + 1)) else none) (fun k => ?_) (Ev.bind (mark_ev i hi) ?_)
    · simp only [copselaw7_pairs.l1]
      rw [if_pos (by omega)]
    · refine Ev.congr (fun k => ?_) hn
      rw [if_pos (by rw [hlen]; omega), w64 (by omega) (by omega), ← take_snoc marksP i (by rw [marksP_len]; exact hi), marksP_at i hi, List.append_assoc]
      rfl) (Ev.done fun k => by
    simp only [copselaw7_pairs.l1]
    rw [if_neg (by omega), List.take_of_length_le (by rw [marksP_len]; omega)]) 0 (by omega)
  have h0 := Ev.loop (σ := fun i k => copselaw7_pairs.l0 k l (l.take i) (i : Int)) (r := l ++ marksP) (n := l.length) (fun i hi k => by
    have hlen : (l.take i).length = i := by rw [List.length_take]; omega
    simp only [copselaw7_pairs.l0]
    rw [if_pos (by omega), if_pos (by omega), if_pos (by omega), rdp l i hi, w64 (by omega) (by omega), take_snoc l i hi]
    rfl) (Ev.step (fun k => by
    simp only [copselaw7_pairs.l0]
    rw [if_neg (by omega), List.take_of_length_le (by omega)]) (by simpa using h1)) 0 (by omega)
  exact h0
theorem kept_ev (l : List S58) (hl : l.length * 32 ≤ 140737488351232) : Ev (fun k => copselaw7_kept.f k (l ++ marksP) l) true := by
  have hlen : (l ++ marksP).length = l.length + 64 := by rw [List.length_append, marksP_len]
  have h := Ev.loop' (σ := fun i k => copselaw7_kept.l0 k (l ++ marksP) l (i : Int)) (r := true) (n := l.length + 64) (fun i hi hn => by
    by_cases h1 : i < l.length
    · refine Ev.step (fun k => ?_) hn
      have e1 : rd_T58 (l ++ marksP) (i : Int) = rd_T58 l (i : Int) := by
        rw [rdp _ _ (by omega), rdp l i h1, List.getElem_append_left]
      simp only [copselaw7_kept.l0]
      rw [if_pos (by omega), if_pos (by omega), if_pos (by omega), e1, if_neg (by simp), if_neg (by omega), w64 (by omega) (by omega)]
      rfl
    · have e1 : rd_T58 (l ++ marksP) (i : Int) = mk (i - l.length) := by
        rw [rdp _ _ (by omega), List.getElem_append_right (by omega), marksP_at _ (by omega)]
      refine Ev.step (f := fun k => (copselaw7_mark.f k (((i - l.length : Nat)) : Int)).bind fun bt136 => if (!((((rd_T58 (l ++ marksP) (i : Int)).f0).toList) == bt136.1.toList) || (!((((rd_T58 (l ++ marksP) (i : Int)).f1).toList) == bt136.2.toList))) = true then (some false) else copselaw7_kept.l0 k (l ++ marksP) l ((i + 1 : Nat) : Int)) (fun k => ?_) (Ev.bind (mark_ev _ (by omega)) (Ev.congr (fun k => ?_) hn))
      · simp only [copselaw7_kept.l0]
        rw [if_pos (by omega), if_neg (by omega), if_pos (by omega), if_pos (by omega), w64 (n := (i : Int) - (l.length : Int)) (by omega) (by omega), w64 (n := (i : Int) + 1) (by omega) (by omega), show (i : Int) - (l.length : Int) = ((i - l.length : Nat) : Int) by omega]
        rfl
      · rw [e1, if_neg (by simp)]) (Ev.done fun k => by
    simp only [copselaw7_kept.l0]
    rw [if_neg (by omega), hlen, w64 (by omega) (by omega)]
    simp) 0 (by omega)
  exact h

/-! the sizes of pairs, and whether they may stand in a leaf -/
theorem wrap_add (a b : Int) : wrap64 (wrap64 a + b) = wrap64 (a + b) := by unfold wrap64; omega
theorem add_wrap (a b : Int) : wrap64 (a + wrap64 b) = wrap64 (a + b) := by unfold wrap64; omega
theorem size_step (s a b : Int) : wrap64 (wrap64 s + wrap64 (wrap64 (5 + a) + b)) = wrap64 (s + (5 + a + b)) := by unfold wrap64; omega
theorem size_step' (s a b : Int) : wrap64 (wrap64 (wrap64 (wrap64 s + 5) + a) + b) = wrap64 (s + (5 + a + b)) := by unfold wrap64; omega
def cost (p : S58) : Int := 5 + (p.f0.size : Int) + (p.f1.size : Int)
def sizeT (l : List S58) : Int := (l.map cost).sum
theorem sizeT_snoc (l : List S58) (p : S58) : sizeT (l ++ [p]) = sizeT l + cost p := by simp [sizeT]
theorem Size_ev (l : List S58) (hl : l.length * 32 ≤ 140737488351232) : Ev (fun k => leaf_Size.f k l) (wrap64 (sizeT l)) := by
  have h0 := Ev.loop (σ := fun i k => leaf_Size.l0 k (wrap64 (sizeT (l.take i))) l (l.length : Int) (i : Int)) (r := wrap64 (sizeT l)) (n := l.length) (fun i hi k => by
    simp only [leaf_Size.l0, leaf_cost.f, Option.bind_some]
    rw [if_pos (by omega), if_pos (by omega), if_pos (by omega), rdp l i hi, w64 (n := (i : Int) + 1) (by omega) (by omega), size_step, ← take_snoc l i hi, sizeT_snoc]
    rfl) (Ev.done fun k => by
    simp only [leaf_Size.l0]
    rw [if_neg (by omega), List.take_of_length_le (by omega)]) 0 (by omega)
  rw [show wrap64 (sizeT (l.take 0)) = 0 by simp [sizeT, wrap64]] at h0
  exact h0
def okp (p : S58) : Prop := 1 ≤ p.f0.size ∧ p.f0.size ≤ 255 ∧ p.f1.size ≤ 700
def Rises (l : List S58) : Prop := ∀ i : Nat, i + 1 < l.length → Op.bytesLess (rd_T58 l (i : Int)).f0.toList (rd_T58 l ((i + 1 : Nat) : Int)).f0.toList = true
open Classical in
noncomputable def chk (l : List S58) (root : Bool) : Option Int :=
  if ∀ p ∈ l, okp p then
    if Rises l then (if wrap64 (sizeT l) > 4072 then some 3 else if l.length = 0 then some 4 else if root = true then none else if wrap64 (sizeT l) < 1556 then some 4 else none)
    else some 12
  else some 1
theorem first_bad {p : Nat → Prop} (h : ¬ ∀ i, p i) : ∃ i, ¬ p i := Classical.byContradiction fun hn => h fun i => Classical.byContradiction fun hi => hn ⟨i, hi⟩
theorem bad_at {l : List S58} (h : ¬ ∀ p ∈ l, okp p) : ∃ i, ∃ hi : i < l.length, ¬ okp l[i] := by
  refine Classical.byContradiction fun hn => h fun p hp => Classical.byContradiction fun hb => hn ?_
  obtain ⟨i, hi, rfl⟩ := List.mem_iff_getElem.1 hp
  exact ⟨i, hi, hb⟩
theorem fall_at {l : List S58} (h : ¬ Rises l) : ∃ i : Nat, i + 1 < l.length ∧ ¬ Op.bytesLess (rd_T58 l (i : Int)).f0.toList (rd_T58 l ((i + 1 : Nat) : Int)).f0.toList = true := by
  refine Classical.byContradiction fun hn => h fun i hi => Classical.byContradiction fun hb => hn ⟨i, hi, hb⟩
theorem Check_ev (l : List S58) (root : Bool) (hl : l.length * 32 ≤ 140737488351232) : Ev (fun k => leaf_Check.f k l root) (chk l root) := by
  have hS := Size_ev l hl
  have hstep : ∀ i (hi : i < l.length), okp l[i] → ∀ k, leaf_Check.l0 (k + 1) l root l (l.length : Int) (i : Int) = leaf_Check.l0 k l root l (l.length : Int) ((i + 1 : Nat) : Int) := fun i hi ho k => by
    obtain ⟨o1, o2, o3⟩ := ho
    simp only [leaf_Check.l0]
    rw [if_pos (by omega), if_pos (by omega), if_pos (by omega), rdp l i hi, if_neg (by omega), if_neg (by omega), if_neg (by omega), w64 (by omega) (by omega)]
    rfl
  by_cases ha : ∀ p ∈ l, okp p
  · have hlast : Ev (fun k => leaf_Check.l1 k l root true (l.length : Int) 0) (chk l root) := by
      have hup : ∀ i : Nat, i < l.length → (i = 0 ∨ Op.bytesLess (rd_T58 l ((i - 1 : Nat) : Int)).f0.toList (rd_T58 l (i : Int)).f0.toList = true) → ∀ k, leaf_Check.l1 (k + 1) l root true (l.length : Int) (i : Int) = leaf_Check.l1 k l root true (l.length : Int) ((i + 1 : Nat) : Int) := fun i hi ho k => by
        simp only [leaf_Check.l1]
        rw [if_pos (by omega)]
        by_cases h0 : i = 0
        · subst h0
          rw [if_neg (by omega), w64 (by omega) (by omega)]
          rfl
        · have ho := ho.resolve_left h0
          rw [if_pos (by omega), w64 (n := (i : Int) - 1) (by omega) (by omega), show (i : Int) - 1 = ((i - 1 : Nat) : Int) by omega, if_pos (by omega), if_pos (by omega), if_pos (by omega), if_pos (by omega), if_pos ho, w64 (by omega) (by omega)]
          rfl
      by_cases hr : Rises l
      · refine Ev.loop (σ := fun i k => leaf_Check.l1 k l root true (l.length : Int) (i : Int)) (r := chk l root) (n := l.length) (fun i hi k => hup i hi (by
          by_cases h0 : i = 0
          · exact .inl h0
          · have := hr (i - 1) (by omega)
            rw [show i - 1 + 1 = i by omega] at this
            exact .inr this) k) ?_ 0 (by omega)
        refine Ev.step (f := fun k => leaf_Check.j2 k l root true) (fun k => ?_) (Ev.step (f := fun k => (leaf_Size.f k l).bind fun t129 => (if t129 > 4072 then (some (some 3)) else (if (l.length : Int) = 0 then (some (some 4)) else (if root = true then (some none) else (if t129 < 1556 then (some (some 4)) else (some none)))))) (fun k => ?_) (Ev.bind hS (Ev.const fun k => ?_)))
        · simp only [leaf_Check.l1]
          rw [if_neg (by omega)]
        · simp only [leaf_Check.j2]
          rfl
        · unfold chk
          rw [if_pos ha, if_pos hr]
          by_cases c1 : wrap64 (sizeT l) > 4072
          · rw [if_pos c1, if_pos c1]
          rw [if_neg c1, if_neg c1]
          by_cases c2 : l.length = 0
          · rw [if_pos c2, if_pos (by omega)]
          rw [if_neg c2, if_neg (by omega)]
          by_cases c3 : root = true
          · rw [if_pos c3, if_pos c3]
          rw [if_neg c3, if_neg c3]
          by_cases c4 : wrap64 (sizeT l) < 1556
          · rw [if_pos c4, if_pos c4]
          rw [if_neg c4, if_neg c4]
      · obtain ⟨i0, hi0, hb⟩ := fall_at hr
        have hend : Ev (fun k => leaf_Check.j2 k l root false) (chk l root) := Ev.step (f := fun k => (leaf_Size.f k l).bind fun t129 => some (some 12)) (fun k => by simp only [leaf_Check.j2]; rfl) (Ev.bind hS (Ev.const fun k => by unfold chk; rw [if_pos ha, if_neg hr]))
        refine Ev.loop' (σ := fun i k => leaf_Check.l1 k l root true (l.length : Int) (i : Int)) (r := chk l root) (n := i0 + 1) (fun i hi hn => ?_) ?_ 0 (by omega)
        · by_cases ho : i = 0 ∨ Op.bytesLess (rd_T58 l ((i - 1 : Nat) : Int)).f0.toList (rd_T58 l (i : Int)).f0.toList = true
          · exact Ev.step (fun k => hup i (by omega) ho k) hn
          · refine Ev.step (fun k => ?_) hend
            simp only [leaf_Check.l1]
            rw [if_pos (by omega), if_pos (by omega), w64 (n := (i : Int) - 1) (by omega) (by omega), show (i : Int) - 1 = ((i - 1 : Nat) : Int) by omega, if_pos (by omega), if_pos (by omega), if_pos (by omega), if_pos (by omega), if_neg (fun h => ho (.inr h))]
        · refine Ev.step (fun k => ?_) hend
          simp only [leaf_Check.l1]
          rw [if_pos (by omega), if_pos (by omega), w64 (n := ((i0 + 1 : Nat) : Int) - 1) (by omega) (by omega), show ((i0 + 1 : Nat) : Int) - 1 = (i0 : Int) by omega, if_pos (by omega), if_pos (by omega), if_pos (by omega), if_pos (by omega), if_neg hb]
    refine Ev.loop (σ := fun i k => leaf_Check.l0 k l root l (l.length : Int) (i : Int)) (r := chk l root) (n := l.length) (fun i hi k => hstep i hi (ha _ (List.getElem_mem hi)) k) ?_ 0 (by omega)
    refine Ev.step (fun k => ?_) hlast
    simp only [leaf_Check.l0]
    rw [if_neg (by omega)]
  · obtain ⟨i0, hi0, hb⟩ := bad_at ha
    have hbad : ∀ i (hi : i < l.length), ¬ okp l[i] → Ev (fun k => leaf_Check.l0 k l root l (l.length : Int) (i : Int)) (chk l root) := fun i hi ho => Ev.done fun k => by
      unfold chk
      rw [if_neg ha]
      simp only [leaf_Check.l0]
      rw [if_pos (by omega), if_pos (by omega), if_pos (by omega), rdp l i hi]
      unfold okp at ho
      by_cases c1 : (l[i].f0.size : Int) < 1
      · rw [if_pos c1]
      rw [if_neg c1]
      by_cases c2 : (l[i].f0.size : Int) > 255
      · rw [if_pos c2]
      rw [if_neg c2, if_pos (by omega)]
    refine Ev.loop' (σ := fun i k => leaf_Check.l0 k l root l (l.length : Int) (i : Int)) (r := chk l root) (n := i0) (fun i hi hn => ?_) (hbad i0 hi0 hb) 0 (by omega)
    by_cases ho : okp l[i]
    · exact Ev.step (fun k => hstep i (by omega) ho k) hn
    · exact hbad i (by omega) ho

theorem RSize_ev (l : List S58) (hl : l.length * 32 ≤ 140737488351232) : Ev (fun k => copseref7_Size.f k l) (wrap64 (sizeT l)) := by
  have h0 := Ev.loop (σ := fun i k => copseref7_Size.l0 k l (wrap64 (sizeT (l.take i))) (i : Int)) (r := wrap64 (sizeT l)) (n := l.length) (fun i hi k => by
    simp only [copseref7_Size.l0]
    rw [if_pos (by omega), if_pos (by omega), rdp l i hi, w64 (n := (i : Int) + 1) (by omega) (by omega), size_step', ← take_snoc l i hi, sizeT_snoc]
    rfl) (Ev.done fun k => by
    simp only [copseref7_Size.l0]
    rw [if_neg (by omega), List.take_of_length_le (by omega)]) 0 (by omega)
  rw [show wrap64 (sizeT (l.take 0)) = 0 by simp [sizeT, wrap64]] at h0
  exact h0
def rnum (e : Option Int) : Int := e.getD 0
theorem RCheck_ev (l : List S58) (root : Bool) (hl : l.length * 32 ≤ 140737488351232) : Ev (fun k => copseref7_Check.f k l root) (rnum (chk l root)) := by
  have hS := RSize_ev l hl
  have hM : ∀ p : S58, copseref7_MayBe.f p.f0 p.f1 = some (decide (1 ≤ p.f0.size ∧ p.f0.size ≤ 255 ∧ p.f1.size ≤ 700)) := fun p => by
    unfold copseref7_MayBe.f
    by_cases c1 : (p.f0.size : Int) ≥ 1
    · rw [if_pos c1]
      by_cases c2 : (p.f0.size : Int) ≤ 255
      · rw [if_pos c2]
        congr 1
        by_cases c3 : p.f1.size ≤ 700
        · rw [decide_eq_true (by omega), decide_eq_true (by omega)]
        · rw [decide_eq_false (by omega), decide_eq_false (by omega)]
      · rw [if_neg c2, decide_eq_false (by omega)]
    · rw [if_neg c1, decide_eq_false (by omega)]
  have hstep : ∀ i (hi : i < l.length), okp l[i] → ∀ k, copseref7_Check.l0 (k + 1) l root (i : Int) = copseref7_Check.l0 k l root ((i + 1 : Nat) : Int) := fun i hi ho k => by
    simp only [copseref7_Check.l0]
    rw [if_pos (by omega), if_pos (by omega), rdp l i hi, hM, Option.bind_some, if_pos (decide_eq_true (show 1 ≤ l[i].f0.size ∧ l[i].f0.size ≤ 255 ∧ l[i].f1.size ≤ 700 from ho)), w64 (by omega) (by omega)]
    rfl
  by_cases ha : ∀ p ∈ l, okp p
  · have hlast : Ev (fun k => copseref7_Check.l1 k l root 1) (rnum (chk l root)) := by
      have hup : ∀ i : Nat, 1 ≤ i → i < l.length → Op.bytesLess (rd_T58 l ((i - 1 : Nat) : Int)).f0.toList (rd_T58 l (i : Int)).f0.toList = true → ∀ k, copseref7_Check.l1 (k + 1) l root (i : Int) = copseref7_Check.l1 k l root ((i + 1 : Nat) : Int) := fun i h1 hi ho k => by
        simp only [copseref7_Check.l1]
        rw [if_pos (by omega), w64 (n := (i : Int) - 1) (by omega) (by omega), show (i : Int) - 1 = ((i - 1 : Nat) : Int) by omega, if_pos (by omega), if_pos (by omega), if_pos (by omega), if_pos ho, w64 (by omega) (by omega)]
        rfl
      have hend : ∀ i : Nat, l.length ≤ i → i ≤ l.length + 1 → Rises l → Ev (fun k => copseref7_Check.l1 k l root (i : Int)) (rnum (chk l root)) := fun i hi hi2 hr => by
        refine Ev.step (f := fun k => (copseref7_Size.f k l).bind fun t148 => (if t148 > 4072 then (some 3) else (if (l.length : Int) = 0 then (some 4) else (if root = true then (some 0) else (if t148 < 1556 then (some 4) else (some 0)))))) (fun k => ?_) (Ev.bind hS (Ev.const fun k => ?_))
        · simp only [copseref7_Check.l1]
          rw [if_neg (by omega)]
        · unfold chk
          rw [if_pos ha, if_pos hr]
          by_cases c1 : wrap64 (sizeT l) > 4072
          · rw [if_pos c1, if_pos c1]; rfl
          rw [if_neg c1, if_neg c1]
          by_cases c2 : l.length = 0
          · rw [if_pos c2, if_pos (by omega)]; rfl
          rw [if_neg c2, if_neg (by omega)]
          by_cases c3 : root = true
          · rw [if_pos c3, if_pos c3]; rfl
          rw [if_neg c3, if_neg c3]
          by_cases c4 : wrap64 (sizeT l) < 1556
          · rw [if_pos c4, if_pos c4]; rfl
          rw [if_neg c4, if_neg c4]; rfl
      by_cases hr : Rises l
      · by_cases h0 : l.length = 0
        · exact hend 1 (by omega) (by omega) hr
        · exact Ev.loop (σ := fun i k => copseref7_Check.l1 k l root ((i + 1 : Nat) : Int)) (r := rnum (chk l root)) (n := l.length - 1) (fun i hi k => hup (i + 1) (by omega) (by omega) (hr i (by omega)) k) (hend _ (by omega) (by omega) hr) 0 (by omega)
      · obtain ⟨i0, hi0, hb⟩ := fall_at hr
        have hfall : ∀ i : Nat, i + 1 < l.length → ¬ Op.bytesLess (rd_T58 l (i : Int)).f0.toList (rd_T58 l ((i + 1 : Nat) : Int)).f0.toList = true → Ev (fun k => copseref7_Check.l1 k l root ((i + 1 : Nat) : Int)) (rnum (chk l root)) := fun i hi hb => Ev.done fun k => by
          simp only [copseref7_Check.l1]
          rw [if_pos (by omega), w64 (n := ((i + 1 : Nat) : Int) - 1) (by omega) (by omega), show ((i + 1 : Nat) : Int) - 1 = (i : Int) by omega, if_pos (by omega), if_pos (by omega), if_pos (by omega), if_neg hb]
          unfold chk
          rw [if_pos ha, if_neg hr]
          rfl
        refine Ev.loop' (σ := fun i k => copseref7_Check.l1 k l root ((i + 1 : Nat) : Int)) (r := rnum (chk l root)) (n := i0) (fun i hi hn => ?_) (hfall i0 hi0 hb) 0 (by omega)
        by_cases ho : Op.bytesLess (rd_T58 l (i : Int)).f0.toList (rd_T58 l ((i + 1 : Nat) : Int)).f0.toList = true
        · exact Ev.step (fun k => hup (i + 1) (by omega) (by omega) ho k) hn
        · exact hfall i (by omega) ho
    refine Ev.loop (σ := fun i k => copseref7_Check.l0 k l root (i : Int)) (r := rnum (chk l root)) (n := l.length) (fun i hi k => hstep i hi (ha _ (List.getElem_mem hi)) k) ?_ 0 (by omega)
    refine Ev.step (fun k => ?_) hlast
    simp only [copseref7_Check.l0]
    rw [if_neg (by omega)]
  · obtain ⟨i0, hi0, hb⟩ := bad_at ha
    have hbad : ∀ i (hi : i < l.length), ¬ okp l[i] → Ev (fun k => copseref7_Check.l0 k l root (i : Int)) (rnum (chk l root)) := fun i hi ho => Ev.done fun k => by
      unfold chk
      rw [if_neg ha]
      simp only [copseref7_Check.l0]
      rw [if_pos (by omega), if_pos (by omega), rdp l i hi, hM, Option.bind_some, if_neg (by simpa [okp] using ho)]
      rfl
    refine Ev.loop' (σ := fun i k => copseref7_Check.l0 k l root (i : Int)) (r := rnum (chk l root)) (n := i0) (fun i hi hn => ?_) (hbad i0 hi0 hb) 0 (by omega)
    by_cases ho : okp l[i]
    · exact Ev.step (fun k => hstep i (by omega) ho k) hn
    · exact hbad i (by omega) ho
theorem chk_num (l : List S58) (root : Bool) : copsekit_Num.f (chk l root) = some (rnum (chk l root)) := by
  unfold chk rnum
  split
  · split
    · split
      · simp [copsekit_Num.f, en]
      · split
        · simp [copsekit_Num.f, en]
        · split
          · simp [copsekit_Num.f]
          · split <;> simp [copsekit_Num.f, en]
    · simp [copsekit_Num.f, copsekit_more.f, en]
  · simp [copsekit_Num.f, en]

/-! bodies: laid out and read -/
theorem bx_bytes (s : ByteArray) (a b : Nat) : bytesOf (s.extract a b) = ((bytesOf s).take b).drop a := by
  unfold bytesOf
  rw [ByteArray.data_extract, Array.toList_extract, List.extract_eq_take_drop]
  rw [← List.map_take, ← List.map_drop, List.drop_take]
theorem str_bytes (s : ByteArray) : strOfNums (bytesOf s) = s := by
  unfold strOfNums bytesOf
  rw [List.map_map, show ((fun n : Int => UInt8.ofNat n.toNat) ∘ fun b : UInt8 => (b.toNat : Int)) = id from by
    funext b
    simp]
  simp
theorem bytes_inj {s t : ByteArray} (h : bytesOf s = bytesOf t) : s = t := by rw [← str_bytes s, ← str_bytes t, h]
theorem bytes_str (l : List Int) (h : ∀ z ∈ l, 0 ≤ z ∧ z < 256) : bytesOf (strOfNums l) = l := by
  unfold strOfNums bytesOf
  rw [List.map_map]
  refine (List.map_congr_left (g := id) fun z hz => ?_).trans (List.map_id l)
  have := h z hz
  simp only [Function.comp_apply, id]
  rw [UInt8.toNat_ofNat']
  omega
/-- The byte at a place. -/
def b_ (s : ByteArray) (k : Nat) : Nat := ((bytesOf s).getD k 0).toNat
theorem b_lt (s : ByteArray) (k : Nat) : b_ s k < 256 := by
  unfold b_
  rw [List.getD_eq_getElem?_getD]
  rcases h : (bytesOf s)[k]? with _ | z
  · decide
  · have hz := bytesOf_range s z (List.mem_of_getElem? h)
    simp only [Option.getD_some]
    omega
theorem bt_b (s : ByteArray) (k : Nat) (h : k < s.size) : bt s (k : Int) = (b_ s k : Int) := by
  rw [bt_nat s k h]
  have hz := bytesOf_range s _ (List.getElem_mem (l := bytesOf s) (n := k) (by rw [bytesOf_length]; exact h))
  unfold b_
  rw [List.getD_eq_getElem?_getD, List.getElem?_eq_getElem (by rw [bytesOf_length]; exact h)]
  simp only [Option.getD_some]
  omega
theorem b_get (s : ByteArray) (k : Nat) (h : k < s.size) : (bytesOf s)[k]? = some (b_ s k : Int) := by
  have hz := bytesOf_range s _ (List.getElem_mem (l := bytesOf s) (n := k) (by rw [bytesOf_length]; exact h))
  unfold b_
  rw [List.getD_eq_getElem?_getD, List.getElem?_eq_getElem (by rw [bytesOf_length]; exact h)]
  simp only [Option.getD_some]
  congr 1
  omega
/-- The slot of that number. -/
def slot (s : ByteArray) (i : Nat) : Nat := b_ s (2 * i) * 256 + b_ s (2 * i + 1)

/-! what Lay lays -/
theorem rdO (l : List ByteArray) (i : Nat) (h : i < l.length) : rdOf ByteArray.empty l (i : Int) = l[i] := by
  unfold rdOf
  rw [Int.toNat_natCast, List.getD_eq_getElem?_getD, List.getElem?_eq_getElem h]
  rfl
theorem gD (l : List ByteArray) (i : Nat) (h : i < l.length) : l.getD i ⟨#[]⟩ = l[i] := by
  rw [List.getD_eq_getElem?_getD, List.getElem?_eq_getElem h]
  rfl
theorem size_w (a b : Int) : wrap64 (wrap64 a + b) = wrap64 (a + b) := by unfold wrap64; omega
theorem SizeC_ev (l : List ByteArray) (hl : l.length ≤ 8796093022208) : Ev (fun k => cells_Size.f k l) (wrap64 ((layE l l.length : Nat) : Int)) := by
  have h0 := Ev.loop (σ := fun i k => cells_Size.l0 k (wrap64 ((layE l i : Nat) : Int)) l (l.length : Int) (i : Int)) (r := wrap64 ((layE l l.length : Nat) : Int)) (n := l.length) (fun i hi k => by
    have e := layE_succ l i hi
    rw [gD l i hi] at e
    have c1 : (i : Int) < (l.length : Int) := by omega
    have c2 : (0 : Int) ≤ (i : Int) := by omega
    have w1 : wrap64 ((i : Int) + 1) = ((i + 1 : Nat) : Int) := w64 (by omega) (by omega)
    simp only [cells_Size.l0]
    rw [if_pos c1, if_pos c2, if_pos c1, rdO l i hi, size_w, w1, e]
    congr 2) (Ev.done fun k => by
    simp only [cells_Size.l0]
    rw [if_neg (by omega)]) 0 (by omega)
  refine Ev.congr (fun k => ?_) h0
  unfold cells_Size.f layE
  simp
def layS (l : List ByteArray) : ByteArray := strOfNums (layC l l.length)
theorem Lay_ev (l : List ByteArray) (hl : l.length ≤ 8796093022208) (ht : layE l l.length < 4611686018427387904) : Ev (fun k => cells_Lay.f k l) (if layE l l.length ≤ 4072 then (layS l, none) else ((⟨#[]⟩ : ByteArray), some 3)) := by
  have h := SizeC_ev l hl
  rw [w64 (by omega) (by omega)] at h
  unfold cells_Lay.f
  refine Ev.bind h (Ev.const fun k => ?_)
  by_cases c : layE l l.length ≤ 4072
  · rw [if_neg (by omega), if_pos c, if_pos c]
    rfl
  · rw [if_pos (by omega), if_neg c]
theorem layC_at (l : List ByteArray) (hfit : layE l l.length ≤ 4072) (i : Nat) (hi : i < l.length) (k : Nat) :
    (layC l (i + 1))[k]? = if k = 2 * i + 1 then some ((layE l (i + 1) : Int) % 256) else if k = 2 * i then some ((layE l (i + 1) : Int) / 256 % 256) else
      if k < layE l i then (layC l i)[k]? else if k < layE l (i + 1) then (bytesOf l[i])[k - layE l i]? else (layC l i)[k]? := by
  have hC := layC_len l hfit i (by omega)
  have e1 := layE_succ l i hi
  have e2 := layE_le l (i + 1) hi
  have e3 : 2 * l.length ≤ layE l i := by unfold layE; omega
  rw [gD l i hi] at e1
  have hb : (bytesOf l[i]).length = l[i].size := bytesOf_length _
  have ht : ((layC l i).take (layE l i)).length = layE l i := by rw [List.length_take, hC]; omega
  simp only [layC]
  rw [gD l i hi, List.getElem?_set, List.getElem?_set]
  have hlen : ((layC l i).take (layE l i) ++ bytesOf l[i] ++ (layC l i).drop (layE l (i + 1))).length = 4072 := by
    simp only [List.length_append, ht, hb, List.length_drop, hC]; omega
  rw [List.length_set, hlen]
  by_cases c1 : k = 2 * i + 1
  · rw [if_pos c1.symm, if_pos c1, if_pos (by omega)]
  rw [if_neg (fun h => c1 h.symm), if_neg c1]
  by_cases c2 : k = 2 * i
  · rw [if_pos c2.symm, if_pos c2, if_pos (by omega)]
  rw [if_neg (fun h => c2 h.symm), if_neg c2]
  by_cases c3 : k < layE l i
  · rw [if_pos c3, List.append_assoc, List.getElem?_append_left (by omega), List.getElem?_take, if_pos c3]
  rw [if_neg c3]
  by_cases c4 : k < layE l (i + 1)
  · rw [if_pos c4, List.getElem?_append_left (by rw [List.length_append]; omega), List.getElem?_append_right (by omega), ht]
  · rw [if_neg c4, List.getElem?_append_right (by rw [List.length_append]; omega), List.getElem?_drop, List.length_append, ht, hb]
    congr 1
    omega
theorem layC_inv (l : List ByteArray) (hfit : layE l l.length ≤ 4072) : ∀ i, i ≤ l.length →
    (∀ j (hj : j < i), (layC l i)[2 * j]? = some ((layE l (j + 1) : Int) / 256 % 256) ∧ (layC l i)[2 * j + 1]? = some ((layE l (j + 1) : Int) % 256)) ∧
    (∀ j (hj : j < l.length), j < i → ∀ m, m < l[j].size → (layC l i)[layE l j + m]? = (bytesOf l[j])[m]?) ∧
    (∀ k, (layE l i ≤ k ∨ (2 * i ≤ k ∧ k < 2 * l.length)) → k < 4072 → (layC l i)[k]? = some 0) := by
  intro i
  induction i with
  | zero =>
    intro _
    refine ⟨fun j hj => by omega, fun j _ hj => by omega, fun k _ hk => ?_⟩
    rw [layC, List.getElem?_replicate, if_pos hk]
  | succ i ih =>
    intro hi
    obtain ⟨i1, i2, i3⟩ := ih (by omega)
    have e1 := layE_succ l i hi
    rw [gD l i hi] at e1
    have e3 : 2 * l.length ≤ layE l i := by unfold layE; omega
    refine ⟨fun j hj => ?_, fun j hjl hj m hm => ?_, fun k hk hk2 => ?_⟩
    · rw [layC_at l hfit i hi, layC_at l hfit i hi]
      by_cases c : j = i
      · subst c
        rw [if_neg (by omega), if_pos rfl, if_pos rfl]
        exact ⟨rfl, rfl⟩
      · rw [if_neg (by omega), if_neg (by omega), if_pos (by omega), if_neg (by omega), if_neg (by omega), if_pos (by omega)]
        exact i1 j (by omega)
    · have e4 : 2 * l.length ≤ layE l j := by unfold layE; omega
      rw [layC_at l hfit i hi, if_neg (by omega), if_neg (by omega)]
      by_cases c : j = i
      · subst c
        rw [if_neg (by omega), if_pos (by omega), show layE l j + m - layE l j = m by omega]
      · have e5 := layE_succ l j hjl
        rw [gD l j hjl] at e5
        have e6 : layE l (j + 1) ≤ layE l i := by
          have : ∀ d, layE l (j + 1) ≤ layE l (j + 1 + d) := by
            intro d
            induction d with
            | zero => exact Nat.le_refl _
            | succ d ihd =>
              by_cases hd : j + 1 + d < l.length
              · have := layE_succ l (j + 1 + d) hd
                rw [show j + 1 + (d + 1) = j + 1 + d + 1 by omega]
                omega
              · have : layE l (j + 1 + (d + 1)) = layE l (j + 1 + d) := by
                  unfold layE
                  rw [List.take_of_length_le (by omega), List.take_of_length_le (by omega)]
                omega
          have := this (i - (j + 1))
          rwa [show j + 1 + (i - (j + 1)) = i by omega] at this
        rw [if_pos (by omega)]
        exact i2 j hjl (by omega) m hm
    · rw [layC_at l hfit i hi, if_neg (by omega), if_neg (by omega)]
      by_cases c : k < layE l i
      · rw [if_pos c]
        exact i3 k (by omega) hk2
      · rw [if_neg c, if_neg (by omega)]
        exact i3 k (by omega) hk2
theorem layC_range (l : List ByteArray) : ∀ i, ∀ z ∈ layC l i, 0 ≤ z ∧ z < 256
  | 0 => fun z hz => by
    have := List.eq_of_mem_replicate hz
    omega
  | i + 1 => fun z hz => by
    simp only [layC] at hz
    rcases List.mem_or_eq_of_mem_set hz with hz | hz
    · rcases List.mem_or_eq_of_mem_set hz with hz | hz
      · rcases List.mem_append.1 hz with hz | hz
        · rcases List.mem_append.1 hz with hz | hz
          · exact layC_range l i z (List.mem_of_mem_take hz)
          · exact bytesOf_range _ z hz
        · exact layC_range l i z (List.mem_of_mem_drop hz)
      · omega
    · omega
theorem layS_bytes (l : List ByteArray) : bytesOf (layS l) = layC l l.length := bytes_str _ (layC_range l _)
theorem layS_size (l : List ByteArray) (hfit : layE l l.length ≤ 4072) : (layS l).size = 4072 := by
  rw [← bytesOf_length, layS_bytes, layC_len l hfit _ (Nat.le_refl _)]
theorem layS_b (l : List ByteArray) (k : Nat) (z : Int) (h : (layC l l.length)[k]? = some z) : b_ (layS l) k = z.toNat := by
  unfold b_
  rw [layS_bytes, List.getD_eq_getElem?_getD, h]
  rfl
theorem lay_slot (l : List ByteArray) (hfit : layE l l.length ≤ 4072) (i : Nat) (hi : i < l.length) : slot (layS l) i = layE l (i + 1) := by
  obtain ⟨i1, _, _⟩ := layC_inv l hfit l.length (Nat.le_refl _)
  obtain ⟨h1, h2⟩ := i1 i hi
  have e2 := layE_le l (i + 1) hi
  unfold slot
  rw [layS_b l _ _ h1, layS_b l _ _ h2]
  omega
theorem lay_cell (l : List ByteArray) (hfit : layE l l.length ≤ 4072) (i : Nat) (hi : i < l.length) : (layS l).extract (layE l i) (layE l (i + 1)) = l[i] := by
  obtain ⟨_, i2, _⟩ := layC_inv l hfit l.length (Nat.le_refl _)
  have e1 := layE_succ l i hi
  rw [gD l i hi] at e1
  refine bytes_inj (List.ext_getElem? fun m => ?_)
  rw [bx_bytes, layS_bytes, List.getElem?_drop, List.getElem?_take]
  by_cases c : m < l[i].size
  · rw [if_pos (by omega)]
    exact i2 i hi hi m c
  · rw [if_neg (by omega), List.getElem?_eq_none (by rw [bytesOf_length]; omega)]
theorem find_cell (l : List ByteArray) (k : Nat) (h1 : layE l 0 ≤ k) : ∀ i, i ≤ l.length → k < layE l i → ∃ j, j < i ∧ layE l j ≤ k ∧ k < layE l (j + 1)
  | 0, _, h => by omega
  | i + 1, hi, h => by
    by_cases c : layE l i ≤ k
    · exact ⟨i, by omega, c, h⟩
    · obtain ⟨j, h2, h3⟩ := find_cell l k h1 i (by omega) (by omega)
      exact ⟨j, by omega, h3⟩

/-! the document's Lay -/
def hd (l : List ByteArray) : Nat → List Int
  | 0 => []
  | i + 1 => hd l i ++ [((layE l (i + 1) : Int) / 256) % 256, (layE l (i + 1) : Int) % 256]
def dt (l : List ByteArray) : Nat → List Int
  | 0 => []
  | i + 1 => dt l i ++ bytesOf (l.getD i ⟨#[]⟩)
theorem hd_len (l : List ByteArray) : ∀ i, (hd l i).length = 2 * i
  | 0 => rfl
  | i + 1 => by rw [hd, List.length_append, hd_len l i]; simp; omega
theorem dt_len (l : List ByteArray) : ∀ i, i ≤ l.length → (dt l i).length = layE l i - 2 * l.length
  | 0, _ => by simp [dt, layE]
  | i + 1, h => by
    have ih := dt_len l i (by omega)
    have e := layE_succ l i h
    have e3 : 2 * l.length ≤ layE l i := by unfold layE; omega
    rw [dt, List.length_append, ih, bytesOf_length]
    omega
theorem hd_at (l : List ByteArray) : ∀ i j, j < i → (hd l i)[2 * j]? = some ((layE l (j + 1) : Int) / 256 % 256) ∧ (hd l i)[2 * j + 1]? = some ((layE l (j + 1) : Int) % 256)
  | 0, j, h => by omega
  | i + 1, j, h => by
    have hl := hd_len l i
    rw [hd]
    by_cases c : j = i
    · subst c
      rw [List.getElem?_append_right (by omega), List.getElem?_append_right (by omega), hl, show 2 * j - 2 * j = 0 by omega, show 2 * j + 1 - 2 * j = 1 by omega]
      exact ⟨rfl, rfl⟩
    · rw [List.getElem?_append_left (by omega), List.getElem?_append_left (by omega)]
      exact hd_at l i j (by omega)
theorem dt_at (l : List ByteArray) : ∀ i, i ≤ l.length → ∀ j (hj : j < l.length), j < i → ∀ m, m < l[j].size → (dt l i)[layE l j - 2 * l.length + m]? = (bytesOf l[j])[m]?
  | 0, _, j, _, h, _, _ => by omega
  | i + 1, hi, j, hj, h, m, hm => by
    have hl := dt_len l i (by omega)
    have e := layE_succ l j hj
    rw [gD l j hj] at e
    have e3 : 2 * l.length ≤ layE l j := by unfold layE; omega
    rw [dt, gD l i hi]
    by_cases c : j = i
    · subst c
      rw [List.getElem?_append_right (by omega), hl]
      congr 1
      omega
    · have ih := dt_at l i (by omega) j hj (by omega) m hm
      have hlt : layE l j - 2 * l.length + m < (dt l i).length := by
        rcases Nat.lt_or_ge (layE l j - 2 * l.length + m) (dt l i).length with h1 | h1
        · exact h1
        · rw [List.getElem?_eq_none h1] at ih
          rw [List.getElem?_eq_getElem (by rw [bytesOf_length]; exact hm)] at ih
          cases ih
      rw [List.getElem?_append_left hlt]
      exact ih
theorem layC_eq (l : List ByteArray) (hfit : layE l l.length ≤ 4072) : layC l l.length = hd l l.length ++ dt l l.length ++ List.replicate (4072 - layE l l.length) 0 := by
  obtain ⟨i1, i2, i3⟩ := layC_inv l hfit l.length (Nat.le_refl _)
  have h1 := hd_len l l.length
  have h2 := dt_len l l.length (Nat.le_refl _)
  have e3 : 2 * l.length ≤ layE l l.length := by unfold layE; omega
  refine List.ext_getElem? fun k => ?_
  by_cases c1 : k < 2 * l.length
  · have hj : k / 2 < l.length := by omega
    obtain ⟨a1, a2⟩ := i1 (k / 2) hj
    obtain ⟨b1, b2⟩ := hd_at l l.length (k / 2) hj
    rw [List.append_assoc, List.getElem?_append_left (by omega)]
    by_cases par : k = 2 * (k / 2)
    · rw [← par] at a1 b1
      rw [a1, b1]
    · have par : k = 2 * (k / 2) + 1 := by omega
      rw [← par] at a2 b2
      rw [a2, b2]
  · by_cases c2 : k < layE l l.length
    · obtain ⟨j, hj1, hj2, hj3⟩ := find_cell l k (by simp [layE]; omega) l.length (Nat.le_refl _) c2
      have e1 := layE_succ l j hj1
      rw [gD l j hj1] at e1
      have e4 : 2 * l.length ≤ layE l j := by unfold layE; omega
      have a1 := i2 j hj1 hj1 (k - layE l j) (by omega)
      have a2 := dt_at l l.length (Nat.le_refl _) j hj1 hj1 (k - layE l j) (by omega)
      rw [show layE l j + (k - layE l j) = k by omega] at a1
      rw [show layE l j - 2 * l.length + (k - layE l j) = k - 2 * l.length by omega] at a2
      rw [List.append_assoc, List.getElem?_append_right (by omega), h1, List.getElem?_append_left (by omega), a1, a2]
    · rw [List.getElem?_append_right (by rw [List.length_append]; omega), List.length_append, h1, h2]
      by_cases c3 : k < 4072
      · rw [i3 k (.inl (by omega)) c3, List.getElem?_replicate, if_pos (by omega)]
      · rw [List.getElem?_eq_none (by rw [layC_len l hfit _ (Nat.le_refl _)]; omega), List.getElem?_eq_none (by rw [List.length_replicate]; omega)]
def totR (l : List ByteArray) (i : Nat) : Nat := 2 * i + ((l.take i).map (·.size)).sum
theorem totR_succ (l : List ByteArray) (i : Nat) (h : i < l.length) : totR l (i + 1) = totR l i + 2 + l[i].size := by
  unfold totR
  rw [List.take_succ_eq_append_getElem h, List.map_append, List.sum_append]
  simp
  omega
theorem size_w2 (s a : Int) : wrap64 (wrap64 (wrap64 s + 2) + a) = wrap64 (s + 2 + a) := by unfold wrap64; omega
theorem enc2 (E : Nat) (h : E ≤ 4072) : (wrap64 (Int.tdiv (E : Int) 256)) % 256 = (E : Int) / 256 % 256 ∧ (Int.tmod (E : Int) 256) % 256 = (E : Int) % 256 := by
  rw [Int.tdiv_eq_ediv_of_nonneg (by omega), Int.tmod_eq_emod_of_nonneg (by omega), w64 (by omega) (by omega)]
  exact ⟨rfl, by omega⟩
theorem add_w (a b c : Nat) (h : a + b = c) (hc : c ≤ 4072) : wrap64 ((a : Int) + (b : Int)) = (c : Int) := by rw [w64 (by omega) (by omega)]; omega
theorem inc_w (i : Nat) (h : i ≤ 8796093022208) : wrap64 ((i : Int) + 1) = ((i + 1 : Nat) : Int) := w64 (by omega) (by omega)
theorem RSizeC_ev (l : List ByteArray) (hl : l.length ≤ 8796093022208) : Ev (fun k => copseref6_Size.f k l) (wrap64 ((layE l l.length : Nat) : Int)) := by
  have h0 := Ev.loop (σ := fun i k => copseref6_Size.l0 k l (wrap64 ((totR l i : Nat) : Int)) (i : Int)) (r := wrap64 ((layE l l.length : Nat) : Int)) (n := l.length) (fun i hi k => by
    have e := totR_succ l i hi
    have c1 : (i : Int) < (l.length : Int) := by omega
    have c2 : (0 : Int) ≤ (i : Int) := by omega
    have e2 : ((totR l (i + 1) : Nat) : Int) = ((totR l i : Nat) : Int) + 2 + (l[i].size : Int) := by omega
    have w1 := inc_w i (by omega)
    simp only [copseref6_Size.l0]
    rw [if_pos c1, if_pos c2, rdO l i hi, size_w2, w1, e2]) (Ev.done fun k => by
    simp only [copseref6_Size.l0]
    rw [if_neg (by omega)]
    rfl) 0 (by omega)
  rw [show totR l 0 = 0 by simp [totR], show wrap64 ((0 : Nat) : Int) = 0 by simp [wrap64]] at h0
  exact h0
theorem RLay_ev (l : List ByteArray) (hl : l.length ≤ 8796093022208) (hfit : layE l l.length ≤ 4072) : Ev (fun k => copseref6_Lay.f k l) (layS l, 0) := by
  have hS := RSizeC_ev l hl
  rw [w64 (by omega) (by omega)] at hS
  have hn : l.length ≤ 2036 := by unfold layE at hfit; omega
  have e0 : layE l 0 = 2 * l.length := by simp [layE]
  unfold copseref6_Lay.f
  refine Ev.bind hS (Ev.congr (f := fun k => copseref6_Lay.l0 k l ((layE l l.length : Nat) : Int) ([] : List Int) ((layE l 0 : Nat) : Int) 0) (fun k => ?_) ?_)
  · rw [if_neg (by omega), w64 (by omega) (by omega), e0]
    rfl
  have l2 := Ev.loop (σ := fun i k => copseref6_Lay.l2 k (hd l l.length ++ dt l l.length ++ List.replicate i 0) ((layE l l.length + i : Nat) : Int)) (r := (layS l, 0)) (n := 4072 - layE l l.length) (fun i hi k => by
    have h1 := hd_len l l.length
    have h2 := dt_len l l.length (Nat.le_refl _)
    have hlen : (hd l l.length ++ dt l l.length ++ List.replicate i 0).length < 140737488355328 := by
      rw [List.length_append, List.length_append, List.length_replicate]; omega
    have c1 : ((layE l l.length + i : Nat) : Int) < 4072 := by omega
    have w1 : wrap64 (((layE l l.length + i : Nat) : Int) + 1) = ((layE l l.length + (i + 1) : Nat) : Int) := inc_w (layE l l.length + i) (by omega)
    simp only [copseref6_Lay.l2]
    rw [if_pos c1, if_pos hlen, w1, List.append_assoc _ _ [0], ← List.replicate_succ']) (Ev.done fun k => by
    simp only [copseref6_Lay.l2]
    rw [if_neg (by omega), ← layC_eq l hfit]
    rfl) 0 (by omega)
  have l1 := Ev.loop (σ := fun i k => copseref6_Lay.l1 k l ((layE l l.length : Nat) : Int) (hd l l.length ++ dt l i) (i : Int)) (r := (layS l, 0)) (n := l.length) (fun i hi k => by
    have h1 := hd_len l l.length
    have h2 := dt_len l i (by omega)
    have e1 := layE_succ l i hi
    have e2 := layE_le l (i + 1) hi
    rw [gD l i hi] at e1
    have hlen : (hd l l.length ++ dt l i).length + l[i].size < 140737488355328 := by rw [List.length_append]; omega
    have c1 : (i : Int) < (l.length : Int) := by omega
    have c2 : (0 : Int) ≤ (i : Int) := by omega
    have w1 := inc_w i (by omega)
    simp only [copseref6_Lay.l1]
    rw [if_pos c1, if_pos c2, rdO l i hi, if_pos hlen, w1, List.append_assoc, show dt l i ++ bytesOf l[i] = dt l (i + 1) by rw [dt, gD l i hi]]) (Ev.step (fun k => by
    simp only [copseref6_Lay.l1]
    rw [if_neg (by omega)]) (by simpa using l2)) 0 (by omega)
  have l0 := Ev.loop (σ := fun i k => copseref6_Lay.l0 k l ((layE l l.length : Nat) : Int) (hd l i) ((layE l i : Nat) : Int) (i : Int)) (r := (layS l, 0)) (n := l.length) (fun i hi k => by
    have h1 := hd_len l i
    have e1 := layE_succ l i hi
    have e2 := layE_le l (i + 1) hi
    rw [gD l i hi] at e1
    have c1 : (i : Int) < (l.length : Int) := by omega
    have c2 : (0 : Int) ≤ (i : Int) := by omega
    have c3 : ∀ a b : Int, (hd l i).length + [a, b].length < 140737488355328 := fun a b => by rw [h1]; simp; omega
    have d := enc2 (layE l (i + 1)) (by omega)
    have w1 := inc_w i (by omega)
    have w3 := add_w (layE l i) l[i].size (layE l (i + 1)) (by omega) (by omega)
    simp only [copseref6_Lay.l0]
    rw [if_pos c1, if_pos c2, rdO l i hi, w3, d.1, d.2, Option.bind_some, if_pos (c3 _ _), w1]
    rfl) (Ev.step (fun k => by
    simp only [copseref6_Lay.l0]
    rw [if_neg (by omega)]) (by simpa [dt] using l1)) 0 (by omega)
  exact l0

/-! the cells of pairs -/
theorem bytes_append (s t : ByteArray) : bytesOf (s ++ t) = bytesOf s ++ bytesOf t := by
  unfold bytesOf
  rw [ByteArray.data_append, Array.toList_append, List.map_append]
theorem size_append (s t : ByteArray) : (s ++ t).size = s.size + t.size := by rw [← bytesOf_length, bytes_append, List.length_append, bytesOf_length, bytesOf_length]
def head1 (k : Nat) : List Int := [(k : Int)]
def head2 (v : Nat) : List Int := [(v : Int) / 256, (v : Int) % 256]
def cellB (p : S58) : ByteArray := strOfNums (head1 p.f0.size) ++ strOfNums (head2 p.f1.size) ++ p.f0 ++ p.f1
theorem put1 (k : Nat) (h : k ≤ 255) : codec_Put.f (k : Int) 1 = some (head1 k, none) := by
  rw [Put_eq _ _ (by omega) (by omega), if_neg (by unfold putbad; simp; omega)]
  congr 2
  simp [putrow, codec_Put.row, head1]
  omega
theorem put2 (v : Nat) (h : v ≤ 700) : codec_Put.f (v : Int) 2 = some (head2 v, none) := by
  rw [Put_eq _ _ (by omega) (by omega), if_neg (by unfold putbad; simp; omega)]
  congr 2
  simp [putrow, codec_Put.row, head2]
  omega
theorem str_len (l : List Int) : (strOfNums l).size = l.length := by simp [strOfNums, ByteArray.size]
theorem cellB_size (p : S58) : (cellB p).size = 3 + p.f0.size + p.f1.size := by
  unfold cellB
  rw [size_append, size_append, size_append, str_len, str_len]
  simp [head1, head2]
theorem Cell_eq (p : S58) (h : okp p) : leaf_cell.f p.f0 p.f1 = some (cellB p) := by
  obtain ⟨h1, h2, h3⟩ := h
  unfold leaf_cell.f cellB
  rw [put1 _ h2, Option.bind_some, put2 _ h3, Option.bind_some]
  have s1 : (strOfNums (head1 p.f0.size)).size = 1 := by rw [str_len]; rfl
  have s2 : (strOfNums (head2 p.f1.size)).size = 2 := by rw [str_len]; rfl
  rw [if_pos (by rw [s1, s2]; omega), if_pos (by rw [size_append, s1, s2]; omega), if_pos (by rw [size_append, size_append, s1, s2]; omega)]
def encs_ (l : List S58) : List ByteArray := l.map cellB
theorem encs_len (l : List S58) : (encs_ l).length = l.length := List.length_map _
theorem encs_E (l : List S58) : ((layE (encs_ l) (encs_ l).length : Nat) : Int) = sizeT l := by
  have : ∀ m : List S58, (2 * m.length : Int) + ((((encs_ m).map (·.size)).sum : Nat) : Int) = sizeT m := by
    intro m
    induction m with
    | nil => rfl
    | cons p m ih =>
      have : sizeT (p :: m) = cost p + sizeT m := by simp [sizeT]
      rw [this]
      simp only [encs_, List.map_cons, List.sum_cons, List.length_cons, cellB_size] at ih ⊢
      unfold cost
      omega
  rw [← this l]
  unfold layE
  rw [List.take_of_length_le (Nat.le_refl _), encs_len]
  omega
theorem sizeT_bd (l : List S58) (h : ∀ p ∈ l, okp p) : 0 ≤ sizeT l ∧ sizeT l ≤ 960 * (l.length : Int) := by
  induction l with
  | nil => simp [sizeT]
  | cons p l ih =>
    have h1 := h p (by simp)
    have h2 := ih (fun q hq => h q (by simp [hq]))
    have : sizeT (p :: l) = cost p + sizeT l := by simp [sizeT]
    rw [this]
    obtain ⟨a, b, c⟩ := h1
    unfold cost
    simp only [List.length_cons]
    omega
theorem chk_ok {l : List S58} {root : Bool} (h : chk l root = none) : (∀ p ∈ l, okp p) ∧ Rises l ∧ ¬ wrap64 (sizeT l) > 4072 ∧ l.length ≠ 0 := by
  unfold chk at h
  split at h
  · rename_i h1
    split at h
    · rename_i h2
      split at h
      · cases h
      · rename_i h3
        split at h
        · cases h
        · rename_i h4
          exact ⟨h1, h2, h3, h4⟩
    · cases h
  · cases h
theorem chk_fit {l : List S58} {root : Bool} (hl : l.length * 32 ≤ 140737488351232) (h : chk l root = none) : layE (encs_ l) (encs_ l).length ≤ 4072 := by
  obtain ⟨h1, h2, h3, h4⟩ := chk_ok h
  have hb := sizeT_bd l h1
  have hE := encs_E l
  rw [w64 (by omega) (by omega)] at h3
  omega
noncomputable def encv (l : List S58) : ByteArray × Option Int := if chk l true = none then (layS (encs_ l), none) else ((⟨#[]⟩ : ByteArray), chk l true)
theorem Encode_ev (l : List S58) (hl : l.length * 32 ≤ 140737488351232) : Ev (fun k => leaf_Encode.f k l) (encv l) := by
  unfold leaf_Encode.f
  refine Ev.bind (Check_ev l true hl) ?_
  unfold encv
  rcases hc : chk l true with _ | q
  · have hfit := chk_fit hl hc
    obtain ⟨hok, _⟩ := chk_ok hc
    rw [if_pos rfl]
    refine Ev.congr (fun k => if_pos rfl) ?_
    have hL := Lay_ev (encs_ l) (by rw [encs_len]; omega) (by omega)
    rw [if_pos hfit] at hL
    obtain ⟨B, hB⟩ : ∃ B, B = layS (encs_ l) := ⟨_, rfl⟩
    rw [← hB] at hL ⊢
    have := Ev.loop (σ := fun i k => leaf_Encode.l0 k (encs_ (l.take i)) l (l.length : Int) (i : Int)) (r := (B, none)) (n := l.length) (fun i hi k => by
      have hlen : (encs_ (l.take i)).length < 8796093022208 := by rw [encs_len, List.length_take]; omega
      have c1 : (i : Int) < (l.length : Int) := by omega
      have c2 : (0 : Int) ≤ (i : Int) := by omega
      have hs : encs_ (l.take i) ++ [cellB l[i]] = encs_ (l.take (i + 1)) := by rw [← take_snoc l i hi]; unfold encs_; rw [List.map_append]; rfl
      have w1 : wrap64 ((i : Int) + 1) = ((i + 1 : Nat) : Int) := w64 (by omega) (by omega)
      simp only [leaf_Encode.l0]
      rw [if_pos c1, if_pos c2, if_pos c1, rdp l i hi, Cell_eq _ (hok _ (List.getElem_mem hi)), Option.bind_some, if_pos hlen, hs, w1]) (by
      rw [List.take_of_length_le (Nat.le_refl _)]
      refine Ev.step (f := fun k => (cells_Lay.f k (encs_ l)).bind fun bt159 => (some (bt159.1, bt159.2))) (fun k => ?_) (Ev.bind hL (Ev.const fun k => rfl))
      simp only [leaf_Encode.l0]
      rw [if_neg (by omega)]) 0 (by omega)
    exact this
  · rw [if_neg (by simp)]
    exact Ev.const fun k => by simp

theorem rputnum (a b : Int) (h0 : 0 ≤ a) (h1 : a < 18446744073709551616) (l : List Int) (h : codec_Put.f a b = some (l, none)) : Ev (fun k => copseref1_Put.f k a b) (l, 0) := by
  have hr := RPut_ev a b h0 h1
  rw [Put_eq a b h0 h1] at h
  by_cases hb : putbad a b
  · rw [if_pos hb] at h; simp at h
  · rw [if_neg hb] at h hr
    simp only [Option.some.injEq, Prod.mk.injEq, and_true] at h
    rwa [h] at hr
theorem strOf_append (a b : List Int) : strOfNums (a ++ b) = strOfNums a ++ strOfNums b := by
  apply ByteArray.ext
  rw [ByteArray.data_append]
  simp [strOfNums]
theorem u64_small {n : Int} (h0 : 0 ≤ n) (h1 : n < 9223372036854775808) : IntKind.u64.wrap n = n := by
  simp [IntKind.wrap, IntKind.bits, IntKind.signed]
  omega
theorem RCell_ev (p : S58) (h : okp p) : Ev (fun k => copseref7_cell.f k p.f0 p.f1) (cellB p) := by
  obtain ⟨h1, h2, h3⟩ := h
  have hb : ∀ (n w : Nat) (l : List Int), n ≤ 700 → codec_Put.f (n : Int) (w : Int) = some (l, none) → Ev (fun k => copseref1_Bytes.f k (n : Int) (w : Int)) l := fun n w l hn hp => by
    unfold copseref1_Bytes.f
    rw [u64_small (by omega) (by omega)]
    exact Ev.bind (rputnum _ _ (by omega) (by omega) l hp) (Ev.const fun k => rfl)
  unfold copseref7_cell.f cellB
  refine Ev.bind (hb _ 1 _ (by omega) (put1 _ h2)) (Ev.bind (hb _ 2 _ h3 (put2 _ h3)) (Ev.const fun k => ?_))
  have s1 : (strOfNums (head1 p.f0.size ++ head2 p.f1.size)).size = 3 := by rw [str_len]; rfl
  rw [if_pos (by simp [head1, head2]), Option.bind_some, if_pos (by rw [s1]; omega), if_pos (by rw [size_append, s1]; omega), strOf_append]
noncomputable def rencv (l : List S58) : ByteArray × Int := if chk l true = none then (layS (encs_ l), 0) else ((⟨#[]⟩ : ByteArray), rnum (chk l true))
theorem chk_pos (l : List S58) (root : Bool) : chk l root ≠ none → rnum (chk l root) ≠ 0 := by
  unfold chk rnum
  split
  · split
    · split
      · simp
      · split
        · simp
        · split
          · simp
          · split <;> simp
    · simp
  · simp
set_option maxHeartbeats 4000000 in
theorem REncode_ev (l : List S58) (hl : l.length * 32 ≤ 140737488351232) : Ev (fun k => copseref7_Encode.f k l) (rencv l) := by
  unfold copseref7_Encode.f
  refine Ev.bind (RCheck_ev l true hl) ?_
  unfold rencv
  by_cases hc : chk l true = none
  · have hfit := chk_fit hl hc
    obtain ⟨hok, _⟩ := chk_ok hc
    rw [if_pos hc]
    refine Ev.congr (fun k => if_pos (by rw [hc]; rfl)) ?_
    have hL := RLay_ev (encs_ l) (by rw [encs_len]; omega) hfit
    obtain ⟨B, hB⟩ : ∃ B, B = layS (encs_ l) := ⟨_, rfl⟩
    rw [← hB] at hL ⊢
    clear hB hfit hc
    have := Ev.loop' (σ := fun i k => copseref7_Encode.l0 k l (encs_ (l.take i)) (i : Int)) (r := (B, 0)) (n := l.length) (fun i hi hn => by
      have hlen : (encs_ (l.take i)).length < 8796093022208 := by rw [encs_len, List.length_take]; omega
      have c1 : (i : Int) < (l.length : Int) := by omega
      have c2 : (0 : Int) ≤ (i : Int) := by omega
      have hs : encs_ (l.take i) ++ [cellB l[i]] = encs_ (l.take (i + 1)) := by rw [← take_snoc l i hi]; unfold encs_; rw [List.map_append]; rfl
      have w1 : wrap64 ((i : Int) + 1) = ((i + 1 : Nat) : Int) := w64 (by omega) (by omega)
      have hcell := RCell_ev _ (hok _ (List.getElem_mem hi))
      have hn2 : Ev (fun k => (fun k t204 => copseref7_Encode.l0 k l (encs_ (l.take i) ++ [t204]) ((i + 1 : Nat) : Int)) k (cellB l[i])) (B, 0) := Ev.congr (fun k => by simp only [hs]) hn
      refine Ev.step (fun k => ?_) (Ev.bind (f := fun k t204 => copseref7_Encode.l0 k l (encs_ (l.take i) ++ [t204]) ((i + 1 : Nat) : Int)) hcell hn2)
      simp only [copseref7_Encode.l0, if_pos hlen, w1]
      rw [if_pos c1, if_pos c2, rdp l i hi]) (by
      rw [List.take_of_length_le (Nat.le_refl _)]
      refine Ev.step (f := fun k => (copseref6_Lay.f k (encs_ l)).bind fun bt208 => (some (bt208.1, bt208.2))) (fun k => ?_) (Ev.bind hL (Ev.const fun k => rfl))
      simp only [copseref7_Encode.l0]
      rw [if_neg (by omega)]) 0 (by omega)
    exact this
  · rw [if_neg hc]
    exact Ev.const fun k => if_neg (chk_pos l true hc)

theorem pure_side : ∀ (l0_0 : List S58) (a0_1 : ByteArray) (a0_2 : ByteArray) (a0_3 : Bool), (l0_0.length * 32 ≤ 140737488351232 ∧ ∀ z ∈ l0_0, (z.f0.size ≤ 140737488351232 ∧ z.f1.size ≤ 140737488351232)) → a0_1.size ≤ 140737488351232 → a0_2.size ≤ 140737488351232 → ∃ k, copselaw7_LeafEncodes.f k l0_0 a0_1 a0_2 a0_3 = some true := by
  intro l key val root hl _ _
  refine Ev.rounds (g := fun k => copselaw7_LeafEncodes.f k l key val root) ?_
  have hl := hl.1
  have hlen : (l ++ marksP).length = l.length + 64 := by rw [List.length_append, marksP_len]
  have ht : (l ++ marksP).take ((l.length : Int) : Int).toNat = l := by rw [Int.toNat_natCast, List.take_append_of_le_length (by omega), List.take_of_length_le (by omega)]
  unfold copselaw7_LeafEncodes.f
  refine Ev.bind (pairs_ev l hl) ?_
  refine Ev.congr (f := fun k => (leaf_Encode.f k l).bind fun bt218 => ((copselaw7_kept.f k (l ++ marksP) l).bind fun t220 => ((copseref7_Encode.f k l).bind fun bt221 => (if t220 = true then (if bt218.1.toList = bt221.1.toList then ((copsekit_Num.f bt218.2).bind fun t223 => (some (t223 == bt221.2))) else (some false)) else (some false))))) (fun k => ?_) ?_
  · rw [if_pos (by omega), if_pos (by omega), ht]
  · refine Ev.bind (Encode_ev l hl) (Ev.bind (kept_ev l hl) (Ev.bind (REncode_ev l hl) (Ev.const fun k => ?_)))
    unfold encv rencv
    by_cases hc : chk l true = none
    · rw [if_pos hc, if_pos hc]
      simp [copsekit_Num.f]
    · rw [if_neg hc, if_neg hc]
      simp only [if_true, chk_num, Option.bind_some]
      simp
end Go.Proofs.YtdailhlghlledaaDoor.XLeafEncodes
