/- The pure side of LeafSizes. -/
import Derived.Test.YtdailhlghlledaaDoorXLeafSizesx
set_option linter.unusedVariables false
set_option linter.unusedSimpArgs false
namespace Go.Proofs.YtdailhlghlledaaDoor.XLeafSizes
open Go.RowKit Go.Proofs.YtdailhlghlledaaDoorW.PrintWords Go.Proofs.YtdailhlghlledaaDoorW.PrintLast
theorem w64 {n : Int} (h0 : -9223372036854775808 ≤ n) (h1 : n < 9223372036854775808) : wrap64 n = n := by unfold wrap64; omega
theorem Ev.loop {α : Type} {σ : Nat → Nat → Option α} {r : α} {n : Nat} (h : ∀ i, i < n → ∀ k, σ i (k + 1) = σ (i + 1) k) (he : Ev (σ n) r) : ∀ i, i ≤ n → Ev (σ i) r := by
  have : ∀ d i, i + d = n → Ev (σ i) r := by
    intro d
    induction d with
    | zero => intro i hi; obtain rfl : i = n := by omega
              exact he
    | succ d ih => intro i hi; exact Ev.step (h i (by omega)) (ih (i + 1) (by omega))
  intro i hi
  exact this (n - i) i (by omega)
theorem Ev.loop' {α : Type} {σ : Nat → Nat → Option α} {r : α} {n : Nat} (h : ∀ i, i < n → Ev (σ (i + 1)) r → Ev (σ i) r) (he : Ev (σ n) r) : ∀ i, i ≤ n → Ev (σ i) r := by
  have : ∀ d i, i + d = n → Ev (σ i) r := by
    intro d
    induction d with
    | zero => intro i hi; obtain rfl : i = n := by omega
              exact he
    | succ d ih => intro i hi; exact h i (by omega) (ih (i + 1) (by omega))
  intro i hi
  exact this (n - i) i (by omega)
theorem Ev.done {α : Type} {g : Nat → Option α} {r : α} (h : ∀ k, g (k + 1) = some r) : Ev g r := Ev.step h (Ev.now r)
theorem Ev.const {α : Type} {g : Nat → Option α} {r : α} (h : ∀ k, g k = some r) : Ev g r := ⟨0, fun k _ => h k⟩
theorem Ev.bindc {α β : Type} {o : Option α} {f : Nat → α → Option β} {a : α} {r : β} (h : o = some a) (k : Ev (fun n => f n a) r) : Ev (fun n => o.bind (f n)) r := by subst h; exact k
theorem bt_nat (s : ByteArray) (i : Nat) (h : i < s.size) : bt s (i : Int) = (bytesOf s)[i]'(by rw [bytesOf_length]; exact h) := by
  unfold bt bytesOf
  rw [dif_pos (by simpa using h)]
  simp only [Int.toNat_natCast, List.getElem_map, Array.getElem_toList]
  rfl
theorem rd_nat (l : List Int) (i : Nat) (h : i < l.length) : rd l (i : Int) = l[i] := by
  unfold rd
  rw [Int.toNat_natCast, List.getD_eq_getElem?_getD, List.getElem?_eq_getElem h]
  rfl
theorem bytesOf_range (s : ByteArray) : ∀ z ∈ bytesOf s, 0 ≤ z ∧ z < 256 := by
  intro z hz
  unfold bytesOf at hz
  obtain ⟨b, _, rfl⟩ := List.mem_map.1 hz
  have := b.toNat_lt
  omega
theorem take_snoc {α : Type} (l : List α) (i : Nat) (h : i < l.length) : l.take i ++ [l[i]] = l.take (i + 1) := by
  rw [List.take_succ_eq_append_getElem h]
theorem rd_getD (l : List Int) (i : Nat) : rd l (i : Int) = l.getD i 0 := by unfold rd; rw [Int.toNat_natCast]
theorem rd_left (l m : List Int) (i : Nat) (h : i < l.length) : rd (l ++ m) (i : Int) = rd l (i : Int) := by
  rw [rd_getD, rd_getD, List.getD_eq_getElem?_getD, List.getD_eq_getElem?_getD, List.getElem?_append_left h]
theorem rd_right (l m : List Int) (i : Nat) (h : l.length ≤ i) : rd (l ++ m) (i : Int) = rd m ((i - l.length : Nat) : Int) := by
  rw [rd_getD, rd_getD, List.getD_eq_getElem?_getD, List.getD_eq_getElem?_getD, List.getElem?_append_right h]
theorem rd_drop0 (l : List Int) (i : Nat) (h : i < l.length) : rd (l.drop i) ((0 : Nat) : Int) = l[i] := by
  rw [List.drop_eq_getElem_cons h]; rfl

theorem Bytes_ev (s : ByteArray) (hs : s.size ≤ 140737488351232) : Ev (fun k => copsekit_Bytes.f k s) (bytesOf s) := by
  have h := Ev.loop (σ := fun i k => copsekit_Bytes.l0 k s ((bytesOf s).take i) (i : Int)) (r := bytesOf s) (n := s.size) (fun i hi k => by
    have hl : ((bytesOf s).take i).length = i := by rw [List.length_take, bytesOf_length]; omega
    simp only [copsekit_Bytes.l0]
    rw [if_pos (by omega), if_pos (by omega), if_pos (by omega), bt_nat s i hi, take_snoc _ _ (by rw [bytesOf_length]; exact hi), w64 (by omega) (by omega)]
    rfl) (Ev.done fun k => by
    simp only [copsekit_Bytes.l0]
    rw [if_neg (by omega), List.take_of_length_le (by rw [bytesOf_length]; omega)]) 0 (by omega)
  exact h

/-! pairs, their marks, and whether they are kept -/
theorem rdp (l : List S58) (i : Nat) (h : i < l.length) : rd_T58 l (i : Int) = l[i] := by
  unfold rd_T58
  rw [Int.toNat_natCast, List.getD_eq_getElem?_getD, List.getElem?_eq_getElem h]
  rfl
theorem digit_cut : ∀ d : Nat, d < 10 → (([48, 49, 50, 51, 52, 53, 54, 55, 56, 57] : List Int).take (d + 1)).drop d = [48 + (d : Int)] := by decide
def mk (j : Nat) : S58 := ⟨(⟨#[109, 97, 114, 107]⟩ : ByteArray), strOfNums [48 + ((j % 10 : Nat) : Int)]⟩
theorem mark_ev (j : Nat) (h : j < 64) : Ev (fun k => copselaw7_mark.f k (j : Int)) ((mk j).f0, (mk j).f1) := by
  have hb := Bytes_ev (⟨#[48, 49, 50, 51, 52, 53, 54, 55, 56, 57]⟩ : ByteArray) (by decide)
  refine Ev.bind hb (Ev.const fun k => ?_)
  have e : bytesOf (⟨#[48, 49, 50, 51, 52, 53, 54, 55, 56, 57]⟩ : ByteArray) = [48, 49, 50, 51, 52, 53, 54, 55, 56, 57] := by decide
  rw [e, show Int.tmod (j : Int) 10 = ((j % 10 : Nat) : Int) from rfl, w64 (by omega) (by omega), if_pos (by omega), if_pos (by omega), if_pos (by simp; omega),
    show (((j % 10 : Nat) : Int) + 1).toNat = j % 10 + 1 by omega, Int.toNat_natCast, digit_cut _ (by omega)]
  rfl
def marksP : List S58 := (List.range 64).map mk
theorem marksP_len : marksP.length = 64 := by simp [marksP]
theorem marksP_at (j : Nat) (h : j < 64) : marksP[j]'(by rw [marksP_len]; exact h) = mk j := by simp [marksP]
theorem pairs_ev (l : List S58) (hl : l.length * 32 ≤ 140737488351232) : Ev (fun k => copselaw7_pairs.f k l) (l ++ marksP) := by
  have h1 := Ev.loop' (σ := fun i k => copselaw7_pairs.l1 k (l ++ marksP.take i) (i : Int)) (r := l ++ marksP) (n := 64) (fun i hi hn => by
    have hlen : (l ++ marksP.take i).length = l.length + i := by rw [List.length_append, List.length_take, marksP_len]; omega
    refine Ev.step (f := fun k => (copselaw7_mark.f k (i : Int)).bind fun bt116 => if (l ++ marksP.take i).length < 4398046511104 then copselaw7_pairs.l1 k ((l ++ marksP.take i) ++ [(⟨bt116.1, bt116.2⟩ : S58)]) (wrap64 ((i : Int) + 1)) else none) (fun k => ?_) (Ev.bind (mark_ev i hi) ?_)
    · simp only [copselaw7_pairs.l1]
      rw [if_pos (by omega)]
    · refine Ev.congr (fun k => ?_) hn
      rw [if_pos (by rw [hlen]; omega), w64 (by omega) (by omega), ← take_snoc marksP i (by rw [marksP_len]; exact hi), marksP_at i hi, List.append_assoc]
      rfl) (Ev.done fun k => by
    simp only [copselaw7_pairs.l1]
    rw [if_neg (by omega), List.take_of_length_le (by rw [marksP_len]; omega)]) 0 (by omega)
  have h0 := Ev.loop (σ := fun i k => copselaw7_pairs.l0 k l (l.take i) (i : Int)) (r := l ++ marksP) (n := l.length) (fun i hi k => by
    have hlen : (l.take i).length = i := by rw [List.length_take]; omega
    simp only [copselaw7_pairs.l0]
    rw [if_pos (by omega), if_pos (by omega), if_pos (by omega), rdp l i hi, w64 (by omega) (by omega), take_snoc l i hi]
    rfl) (Ev.step (fun k => by
    simp only [copselaw7_pairs.l0]
    rw [if_neg (by omega), List.take_of_length_le (by omega)]) (by simpa using h1)) 0 (by omega)
  exact h0
theorem kept_ev (l : List S58) (hl : l.length * 32 ≤ 140737488351232) : Ev (fun k => copselaw7_kept.f k (l ++ marksP) l) true := by
  have hlen : (l ++ marksP).length = l.length + 64 := by rw [List.length_append, marksP_len]
  have h := Ev.loop' (σ := fun i k => copselaw7_kept.l0 k (l ++ marksP) l (i : Int)) (r := true) (n := l.length + 64) (fun i hi hn => by
    by_cases h1 : i < l.length
    · refine Ev.step (fun k => ?_) hn
      have e1 : rd_T58 (l ++ marksP) (i : Int) = rd_T58 l (i : Int) := by
        rw [rdp _ _ (by omega), rdp l i h1, List.getElem_append_left]
      simp only [copselaw7_kept.l0]
      rw [if_pos (by omega), if_pos (by omega), if_pos (by omega), e1, if_neg (by simp), if_neg (by omega), w64 (by omega) (by omega)]
      rfl
    · have e1 : rd_T58 (l ++ marksP) (i : Int) = mk (i - l.length) := by
        rw [rdp _ _ (by omega), List.getElem_append_right (by omega), marksP_at _ (by omega)]
      refine Ev.step (f := fun k => (copselaw7_mark.f k (((i - l.length : Nat)) : Int)).bind fun bt136 => if (!((((rd_T58 (l ++ marksP) (i : Int)).f0).toList) == bt136.1.toList) || (!((((rd_T58 (l ++ marksP) (i : Int)).f1).toList) == bt136.2.toList))) = true then (some false) else copselaw7_kept.l0 k (l ++ marksP) l ((i + 1 : Nat) : Int)) (fun k => ?_) (Ev.bind (mark_ev _ (by omega)) (Ev.congr (fun k => ?_) hn))
      · simp only [copselaw7_kept.l0]
        rw [if_pos (by omega), if_neg (by omega), if_pos (by omega), if_pos (by omega), w64 (n := (i : Int) - (l.length : Int)) (by omega) (by omega), w64 (n := (i : Int) + 1) (by omega) (by omega), show (i : Int) - (l.length : Int) = ((i - l.length : Nat) : Int) by omega]
        rfl
      · rw [e1, if_neg (by simp)]) (Ev.done fun k => by
    simp only [copselaw7_kept.l0]
    rw [if_neg (by omega), hlen, w64 (by omega) (by omega)]
    simp) 0 (by omega)
  exact h

/-! the sizes of pairs, and whether they may stand in a leaf -/
theorem wrap_add (a b : Int) : wrap64 (wrap64 a + b) = wrap64 (a + b) := by unfold wrap64; omega
theorem add_wrap (a b : Int) : wrap64 (a + wrap64 b) = wrap64 (a + b) := by unfold wrap64; omega
theorem size_step (s a b : Int) : wrap64 (wrap64 s + wrap64 (wrap64 (5 + a) + b)) = wrap64 (s + (5 + a + b)) := by unfold wrap64; omega
theorem size_step' (s a b : Int) : wrap64 (wrap64 (wrap64 (wrap64 s + 5) + a) + b) = wrap64 (s + (5 + a + b)) := by unfold wrap64; omega
def cost (p : S58) : Int := 5 + (p.f0.size : Int) + (p.f1.size : Int)
def sizeT (l : List S58) : Int := (l.map cost).sum
theorem sizeT_snoc (l : List S58) (p : S58) : sizeT (l ++ [p]) = sizeT l + cost p := by simp [sizeT]
theorem Size_ev (l : List S58) (hl : l.length * 32 ≤ 140737488351232) : Ev (fun k => leaf_Size.f k l) (wrap64 (sizeT l)) := by
  have h0 := Ev.loop (σ := fun i k => leaf_Size.l0 k (wrap64 (sizeT (l.take i))) l (l.length : Int) (i : Int)) (r := wrap64 (sizeT l)) (n := l.length) (fun i hi k => by
    simp only [leaf_Size.l0, leaf_cost.f, Option.bind_some]
    rw [if_pos (by omega), if_pos (by omega), if_pos (by omega), rdp l i hi, w64 (n := (i : Int) + 1) (by omega) (by omega), size_step, ← take_snoc l i hi, sizeT_snoc]
    rfl) (Ev.done fun k => by
    simp only [leaf_Size.l0]
    rw [if_neg (by omega), List.take_of_length_le (by omega)]) 0 (by omega)
  rw [show wrap64 (sizeT (l.take 0)) = 0 by simp [sizeT, wrap64]] at h0
  exact h0
def okp (p : S58) : Prop := 1 ≤ p.f0.size ∧ p.f0.size ≤ 255 ∧ p.f1.size ≤ 700
def Rises (l : List S58) : Prop := ∀ i : Nat, i + 1 < l.length → Op.bytesLess (rd_T58 l (i : Int)).f0.toList (rd_T58 l ((i + 1 : Nat) : Int)).f0.toList = true
open Classical in
noncomputable def chk (l : List S58) (root : Bool) : Option Int :=
  if ∀ p ∈ l, okp p then
    if Rises l then (if wrap64 (sizeT l) > 4072 then some 3 else if l.length = 0 then some 4 else if root = true then none else if wrap64 (sizeT l) < 1556 then some 4 else none)
    else some 12
  else some 1
theorem first_bad {p : Nat → Prop} (h : ¬ ∀ i, p i) : ∃ i, ¬ p i := Classical.byContradiction fun hn => h fun i => Classical.byContradiction fun hi => hn ⟨i, hi⟩
theorem bad_at {l : List S58} (h : ¬ ∀ p ∈ l, okp p) : ∃ i, ∃ hi : i < l.length, ¬ okp l[i] := by
  refine Classical.byContradiction fun hn => h fun p hp => Classical.byContradiction fun hb => hn ?_
  obtain ⟨i, hi, rfl⟩ := List.mem_iff_getElem.1 hp
  exact ⟨i, hi, hb⟩
theorem fall_at {l : List S58} (h : ¬ Rises l) : ∃ i : Nat, i + 1 < l.length ∧ ¬ Op.bytesLess (rd_T58 l (i : Int)).f0.toList (rd_T58 l ((i + 1 : Nat) : Int)).f0.toList = true := by
  refine Classical.byContradiction fun hn => h fun i hi => Classical.byContradiction fun hb => hn ⟨i, hi, hb⟩
theorem Check_ev (l : List S58) (root : Bool) (hl : l.length * 32 ≤ 140737488351232) : Ev (fun k => leaf_Check.f k l root) (chk l root) := by
  have hS := Size_ev l hl
  have hstep : ∀ i (hi : i < l.length), okp l[i] → ∀ k, leaf_Check.l0 (k + 1) l root l (l.length : Int) (i : Int) = leaf_Check.l0 k l root l (l.length : Int) ((i + 1 : Nat) : Int) := fun i hi ho k => by
    obtain ⟨o1, o2, o3⟩ := ho
    simp only [leaf_Check.l0]
    rw [if_pos (by omega), if_pos (by omega), if_pos (by omega), rdp l i hi, if_neg (by omega), if_neg (by omega), if_neg (by omega), w64 (by omega) (by omega)]
    rfl
  by_cases ha : ∀ p ∈ l, okp p
  · have hlast : Ev (fun k => leaf_Check.l1 k l root true (l.length : Int) 0) (chk l root) := by
      have hup : ∀ i : Nat, i < l.length → (i = 0 ∨ Op.bytesLess (rd_T58 l ((i - 1 : Nat) : Int)).f0.toList (rd_T58 l (i : Int)).f0.toList = true) → ∀ k, leaf_Check.l1 (k + 1) l root true (l.length : Int) (i : Int) = leaf_Check.l1 k l root true (l.length : Int) ((i + 1 : Nat) : Int) := fun i hi ho k => by
        simp only [leaf_Check.l1]
        rw [if_pos (by omega)]
        by_cases h0 : i = 0
        · subst h0
          rw [if_neg (by omega), w64 (by omega) (by omega)]
          rfl
        · have ho := ho.resolve_left h0
          rw [if_pos (by omega), w64 (n := (i : Int) - 1) (by omega) (by omega), show (i : Int) - 1 = ((i - 1 : Nat) : Int) by omega, if_pos (by omega), if_pos (by omega), if_pos (by omega), if_pos (by omega), if_pos ho, w64 (by omega) (by omega)]
          rfl
      by_cases hr : Rises l
      · refine Ev.loop (σ := fun i k => leaf_Check.l1 k l root true (l.length : Int) (i : Int)) (r := chk l root) (n := l.length) (fun i hi k => hup i hi (by
          by_cases h0 : i = 0
          · exact .inl h0
          · have := hr (i - 1) (by omega)
            rw [show i - 1 + 1 = i by omega] at this
            exact .inr this) k) ?_ 0 (by omega)
        refine Ev.step (f := fun k => leaf_Check.j2 k l root true) (fun k => ?_) (Ev.step (f := fun k => (leaf_Size.f k l).bind fun t129 => (if t129 > 4072 then (some (some 3)) else (if (l.length : Int) = 0 then (some (some 4)) else (if root = true then (some none) else (if t129 < 1556 then (some (some 4)) else (some none)))))) (fun k => ?_) (Ev.bind hS (Ev.const fun k => ?_)))
        · simp only [leaf_Check.l1]
          rw [if_neg (by omega)]
        · simp only [leaf_Check.j2]
          rfl
        · unfold chk
          rw [if_pos ha, if_pos hr]
          by_cases c1 : wrap64 (sizeT l) > 4072
          · rw [if_pos c1, if_pos c1]
          rw [if_neg c1, if_neg c1]
          by_cases c2 : l.length = 0
          · rw [if_pos c2, if_pos (by omega)]
          rw [if_neg c2, if_neg (by omega)]
          by_cases c3 : root = true
          · rw [if_pos c3, if_pos c3]
          rw [if_neg c3, if_neg c3]
          by_cases c4 : wrap64 (sizeT l) < 1556
          · rw [if_pos c4, if_pos c4]
          rw [if_neg c4, if_neg c4]
      · obtain ⟨i0, hi0, hb⟩ := fall_at hr
        have hend : Ev (fun k => leaf_Check.j2 k l root false) (chk l root) := Ev.step (f := fun k => (leaf_Size.f k l).bind fun t129 => some (some 12)) (fun k => by simp only [leaf_Check.j2]; rfl) (Ev.bind hS (Ev.const fun k => by unfold chk; rw [if_pos ha, if_neg hr]))
        refine Ev.loop' (σ := fun i k => leaf_Check.l1 k l root true (l.length : Int) (i : Int)) (r := chk l root) (n := i0 + 1) (fun i hi hn => ?_) ?_ 0 (by omega)
        · by_cases ho : i = 0 ∨ Op.bytesLess (rd_T58 l ((i - 1 : Nat) : Int)).f0.toList (rd_T58 l (i : Int)).f0.toList = true
          · exact Ev.step (fun k => hup i (by omega) ho k) hn
          · refine Ev.step (fun k => ?_) hend
            simp only [leaf_Check.l1]
            rw [if_pos (by omega), if_pos (by omega), w64 (n := (i : Int) - 1) (by omega) (by omega), show (i : Int) - 1 = ((i - 1 : Nat) : Int) by omega, if_pos (by omega), if_pos (by omega), if_pos (by omega), if_pos (by omega), if_neg (fun h => ho (.inr h))]
        · refine Ev.step (fun k => ?_) hend
          simp only [leaf_Check.l1]
          rw [if_pos (by omega), if_pos (by omega), w64 (n := ((i0 + 1 : Nat) : Int) - 1) (by omega) (by omega), show ((i0 + 1 : Nat) : Int) - 1 = (i0 : Int) by omega, if_pos (by omega), if_pos (by omega), if_pos (by omega), if_pos (by omega), if_neg hb]
    refine Ev.loop (σ := fun i k => leaf_Check.l0 k l root l (l.length : Int) (i : Int)) (r := chk l root) (n := l.length) (fun i hi k => hstep i hi (ha _ (List.getElem_mem hi)) k) ?_ 0 (by omega)
    refine Ev.step (fun k => ?_) hlast
    simp only [leaf_Check.l0]
    rw [if_neg (by omega)]
  · obtain ⟨i0, hi0, hb⟩ := bad_at ha
    have hbad : ∀ i (hi : i < l.length), ¬ okp l[i] → Ev (fun k => leaf_Check.l0 k l root l (l.length : Int) (i : Int)) (chk l root) := fun i hi ho => Ev.done fun k => by
      unfold chk
      rw [if_neg ha]
      simp only [leaf_Check.l0]
      rw [if_pos (by omega), if_pos (by omega), if_pos (by omega), rdp l i hi]
      unfold okp at ho
      by_cases c1 : (l[i].f0.size : Int) < 1
      · rw [if_pos c1]
      rw [if_neg c1]
      by_cases c2 : (l[i].f0.size : Int) > 255
      · rw [if_pos c2]
      rw [if_neg c2, if_pos (by omega)]
    refine Ev.loop' (σ := fun i k => leaf_Check.l0 k l root l (l.length : Int) (i : Int)) (r := chk l root) (n := i0) (fun i hi hn => ?_) (hbad i0 hi0 hb) 0 (by omega)
    by_cases ho : okp l[i]
    · exact Ev.step (fun k => hstep i (by omega) ho k) hn
    · exact hbad i (by omega) ho

theorem RSize_ev (l : List S58) (hl : l.length * 32 ≤ 140737488351232) : Ev (fun k => copseref7_Size.f k l) (wrap64 (sizeT l)) := by
  have h0 := Ev.loop (σ := fun i k => copseref7_Size.l0 k l (wrap64 (sizeT (l.take i))) (i : Int)) (r := wrap64 (sizeT l)) (n := l.length) (fun i hi k => by
    simp only [copseref7_Size.l0]
    rw [if_pos (by omega), if_pos (by omega), rdp l i hi, w64 (n := (i : Int) + 1) (by omega) (by omega), size_step', ← take_snoc l i hi, sizeT_snoc]
    rfl) (Ev.done fun k => by
    simp only [copseref7_Size.l0]
    rw [if_neg (by omega), List.take_of_length_le (by omega)]) 0 (by omega)
  rw [show wrap64 (sizeT (l.take 0)) = 0 by simp [sizeT, wrap64]] at h0
  exact h0
def rnum (e : Option Int) : Int := e.getD 0
theorem RCheck_ev (l : List S58) (root : Bool) (hl : l.length * 32 ≤ 140737488351232) : Ev (fun k => copseref7_Check.f k l root) (rnum (chk l root)) := by
  have hS := RSize_ev l hl
  have hM : ∀ p : S58, copseref7_MayBe.f p.f0 p.f1 = some (decide (1 ≤ p.f0.size ∧ p.f0.size ≤ 255 ∧ p.f1.size ≤ 700)) := fun p => by
    unfold copseref7_MayBe.f
    by_cases c1 : (p.f0.size : Int) ≥ 1
    · rw [if_pos c1]
      by_cases c2 : (p.f0.size : Int) ≤ 255
      · rw [if_pos c2]
        congr 1
        by_cases c3 : p.f1.size ≤ 700
        · rw [decide_eq_true (by omega), decide_eq_true (by omega)]
        · rw [decide_eq_false (by omega), decide_eq_false (by omega)]
      · rw [if_neg c2, decide_eq_false (by omega)]
    · rw [if_neg c1, decide_eq_false (by omega)]
  have hstep : ∀ i (hi : i < l.length), okp l[i] → ∀ k, copseref7_Check.l0 (k + 1) l root (i : Int) = copseref7_Check.l0 k l root ((i + 1 : Nat) : Int) := fun i hi ho k => by
    simp only [copseref7_Check.l0]
    rw [if_pos (by omega), if_pos (by omega), rdp l i hi, hM, Option.bind_some, if_pos (decide_eq_true (show 1 ≤ l[i].f0.size ∧ l[i].f0.size ≤ 255 ∧ l[i].f1.size ≤ 700 from ho)), w64 (by omega) (by omega)]
    rfl
  by_cases ha : ∀ p ∈ l, okp p
  · have hlast : Ev (fun k => copseref7_Check.l1 k l root 1) (rnum (chk l root)) := by
      have hup : ∀ i : Nat, 1 ≤ i → i < l.length → Op.bytesLess (rd_T58 l ((i - 1 : Nat) : Int)).f0.toList (rd_T58 l (i : Int)).f0.toList = true → ∀ k, copseref7_Check.l1 (k + 1) l root (i : Int) = copseref7_Check.l1 k l root ((i + 1 : Nat) : Int) := fun i h1 hi ho k => by
        simp only [copseref7_Check.l1]
        rw [if_pos (by omega), w64 (n := (i : Int) - 1) (by omega) (by omega), show (i : Int) - 1 = ((i - 1 : Nat) : Int) by omega, if_pos (by omega), if_pos (by omega), if_pos (by omega), if_pos ho, w64 (by omega) (by omega)]
        rfl
      have hend : ∀ i : Nat, l.length ≤ i → i ≤ l.length + 1 → Rises l → Ev (fun k => copseref7_Check.l1 k l root (i : Int)) (rnum (chk l root)) := fun i hi hi2 hr => by
        refine Ev.step (f := fun k => (copseref7_Size.f k l).bind fun t148 => (if t148 > 4072 then (some 3) else (if (l.length : Int) = 0 then (some 4) else (if root = true then (some 0) else (if t148 < 1556 then (some 4) else (some 0)))))) (fun k => ?_) (Ev.bind hS (Ev.const fun k => ?_))
        · simp only [copseref7_Check.l1]
          rw [if_neg (by omega)]
        · unfold chk
          rw [if_pos ha, if_pos hr]
          by_cases c1 : wrap64 (sizeT l) > 4072
          · rw [if_pos c1, if_pos c1]; rfl
          rw [if_neg c1, if_neg c1]
          by_cases c2 : l.length = 0
          · rw [if_pos c2, if_pos (by omega)]; rfl
          rw [if_neg c2, if_neg (by omega)]
          by_cases c3 : root = true
          · rw [if_pos c3, if_pos c3]; rfl
          rw [if_neg c3, if_neg c3]
          by_cases c4 : wrap64 (sizeT l) < 1556
          · rw [if_pos c4, if_pos c4]; rfl
          rw [if_neg c4, if_neg c4]; rfl
      by_cases hr : Rises l
      · by_cases h0 : l.length = 0
        · exact hend 1 (by omega) (by omega) hr
        · exact Ev.loop (σ := fun i k => copseref7_Check.l1 k l root ((i + 1 : Nat) : Int)) (r := rnum (chk l root)) (n := l.length - 1) (fun i hi k => hup (i + 1) (by omega) (by omega) (hr i (by omega)) k) (hend _ (by omega) (by omega) hr) 0 (by omega)
      · obtain ⟨i0, hi0, hb⟩ := fall_at hr
        have hfall : ∀ i : Nat, i + 1 < l.length → ¬ Op.bytesLess (rd_T58 l (i : Int)).f0.toList (rd_T58 l ((i + 1 : Nat) : Int)).f0.toList = true → Ev (fun k => copseref7_Check.l1 k l root ((i + 1 : Nat) : Int)) (rnum (chk l root)) := fun i hi hb => Ev.done fun k => by
          simp only [copseref7_Check.l1]
          rw [if_pos (by omega), w64 (n := ((i + 1 : Nat) : Int) - 1) (by omega) (by omega), show ((i + 1 : Nat) : Int) - 1 = (i : Int) by omega, if_pos (by omega), if_pos (by omega), if_pos (by omega), if_neg hb]
          unfold chk
          rw [if_pos ha, if_neg hr]
          rfl
        refine Ev.loop' (σ := fun i k => copseref7_Check.l1 k l root ((i + 1 : Nat) : Int)) (r := rnum (chk l root)) (n := i0) (fun i hi hn => ?_) (hfall i0 hi0 hb) 0 (by omega)
        by_cases ho : Op.bytesLess (rd_T58 l (i : Int)).f0.toList (rd_T58 l ((i + 1 : Nat) : Int)).f0.toList = true
        · exact Ev.step (fun k => hup (i + 1) (by omega) (by omega) ho k) hn
        · exact hfall i (by omega) ho
    refine Ev.loop (σ := fun i k => copseref7_Check.l0 k l root (i : Int)) (r := rnum (chk l root)) (n := l.length) (fun i hi k => hstep i hi (ha _ (List.getElem_mem hi)) k) ?_ 0 (by omega)
    refine Ev.step (fun k => ?_) hlast
    simp only [copseref7_Check.l0]
    rw [if_neg (by omega)]
  · obtain ⟨i0, hi0, hb⟩ := bad_at ha
    have hbad : ∀ i (hi : i < l.length), ¬ okp l[i] → Ev (fun k => copseref7_Check.l0 k l root (i : Int)) (rnum (chk l root)) := fun i hi ho => Ev.done fun k => by
      unfold chk
      rw [if_neg ha]
      simp only [copseref7_Check.l0]
      rw [if_pos (by omega), if_pos (by omega), rdp l i hi, hM, Option.bind_some, if_neg (by simpa [okp] using ho)]
      rfl
    refine Ev.loop' (σ := fun i k => copseref7_Check.l0 k l root (i : Int)) (r := rnum (chk l root)) (n := i0) (fun i hi hn => ?_) (hbad i0 hi0 hb) 0 (by omega)
    by_cases ho : okp l[i]
    · exact Ev.step (fun k => hstep i (by omega) ho k) hn
    · exact hbad i (by omega) ho
theorem chk_num (l : List S58) (root : Bool) : copsekit_Num.f (chk l root) = some (rnum (chk l root)) := by
  unfold chk rnum
  split
  · split
    · split
      · simp [copsekit_Num.f, en]
      · split
        · simp [copsekit_Num.f, en]
        · split
          · simp [copsekit_Num.f]
          · split <;> simp [copsekit_Num.f, en]
    · simp [copsekit_Num.f, copsekit_more.f, en]
  · simp [copsekit_Num.f, en]

theorem pure_side : ∀ (l0_0 : List S58) (a0_1 : ByteArray) (a0_2 : ByteArray) (a0_3 : Bool), (l0_0.length * 32 ≤ 140737488351232 ∧ ∀ z ∈ l0_0, (z.f0.size ≤ 140737488351232 ∧ z.f1.size ≤ 140737488351232)) → a0_1.size ≤ 140737488351232 → a0_2.size ≤ 140737488351232 → ∃ k, copselaw7_LeafSizes.f k l0_0 a0_1 a0_2 a0_3 = some true := by
  intro l key val root hl _ _
  refine Ev.rounds (g := fun k => copselaw7_LeafSizes.f k l key val root) ?_
  have hl := hl.1
  have hlen : (l ++ marksP).length = l.length + 64 := by rw [List.length_append, marksP_len]
  have ht : (l ++ marksP).take ((l.length : Int) : Int).toNat = l := by rw [Int.toNat_natCast, List.take_append_of_le_length (by omega), List.take_of_length_le (by omega)]
  unfold copselaw7_LeafSizes.f
  refine Ev.bind (pairs_ev l hl) ?_
  refine Ev.congr (f := fun k => (leaf_Size.f k l).bind fun t157 => ((leaf_Check.f k l root).bind fun t162 => ((copselaw7_kept.f k (l ++ marksP) l).bind fun t163 => (if t163 = true then ((copseref7_Size.f k l).bind fun t164 => (if t157 = t164 then ((copsekit_Num.f t162).bind fun t165 => ((copseref7_Check.f k l root).bind fun t166 => (some (t165 == t166)))) else (some false))) else (some false))))) (fun k => ?_) ?_
  · rw [if_pos (by omega), if_pos (by omega), ht]
  · refine Ev.bind (Size_ev l hl) (Ev.bind (Check_ev l root hl) (Ev.bind (kept_ev l hl) ?_))
    refine Ev.congr (fun k => if_pos rfl) (Ev.bind (RSize_ev l hl) (Ev.congr (fun k => if_pos rfl) (Ev.bindc (chk_num l root) (Ev.bind (RCheck_ev l root hl) (Ev.const fun k => ?_)))))
    simp
end Go.Proofs.YtdailhlghlledaaDoor.XLeafSizes
