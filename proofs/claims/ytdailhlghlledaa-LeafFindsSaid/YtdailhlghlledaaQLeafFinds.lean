/- The pure side of LeafFinds. -/
import Derived.Test.YtdailhlghlledaaXLeafFindsx
set_option linter.unusedVariables false
set_option linter.unusedSimpArgs false
namespace Go.Proofs.Ytdailhlghlledaa.XLeafFinds
open Go.RowKit Go.Proofs.YtdailhlghlledaaW.PrintWords Go.Proofs.YtdailhlghlledaaW.PrintLast
theorem w64 {n : Int} (h0 : -9223372036854775808 ≤ n) (h1 : n < 9223372036854775808) : wrap64 n = n := by unfold wrap64; omega
theorem Ev.loop {α : Type} {σ : Nat → Nat → Option α} {r : α} {n : Nat} (h : ∀ i, i < n → ∀ k, σ i (k + 1) = σ (i + 1) k) (he : Ev (σ n) r) : ∀ i, i ≤ n → Ev (σ i) r := by
  have : ∀ d i, i + d = n → Ev (σ i) r := by
    intro d
    induction d with
    | zero => intro i hi; obtain rfl : i = n := by omega
              exact he
    | succ d ih => intro i hi; exact Ev.step (h i (by omega)) (ih (i + 1) (by omega))
  intro i hi
  exact this (n - i) i (by omega)
theorem Ev.loop' {α : Type} {σ : Nat → Nat → Option α} {r : α} {n : Nat} (h : ∀ i, i < n → Ev (σ (i + 1)) r → Ev (σ i) r) (he : Ev (σ n) r) : ∀ i, i ≤ n → Ev (σ i) r := by
  have : ∀ d i, i + d = n → Ev (σ i) r := by
    intro d
    induction d with
    | zero => intro i hi; obtain rfl : i = n := by omega
              exact he
    | succ d ih => intro i hi; exact h i (by omega) (ih (i + 1) (by omega))
  intro i hi
  exact this (n - i) i (by omega)
theorem Ev.done {α : Type} {g : Nat → Option α} {r : α} (h : ∀ k, g (k + 1) = some r) : Ev g r := Ev.step h (Ev.now r)
theorem Ev.const {α : Type} {g : Nat → Option α} {r : α} (h : ∀ k, g k = some r) : Ev g r := ⟨0, fun k _ => h k⟩
theorem Ev.bindc {α β : Type} {o : Option α} {f : Nat → α → Option β} {a : α} {r : β} (h : o = some a) (k : Ev (fun n => f n a) r) : Ev (fun n => o.bind (f n)) r := by subst h; exact k
theorem bt_nat (s : ByteArray) (i : Nat) (h : i < s.size) : bt s (i : Int) = (bytesOf s)[i]'(by rw [bytesOf_length]; exact h) := by
  unfold bt bytesOf
  rw [dif_pos (by simpa using h)]
  simp only [Int.toNat_natCast, List.getElem_map, Array.getElem_toList]
  rfl
theorem rd_nat (l : List Int) (i : Nat) (h : i < l.length) : rd l (i : Int) = l[i] := by
  unfold rd
  rw [Int.toNat_natCast, List.getD_eq_getElem?_getD, List.getElem?_eq_getElem h]
  rfl
theorem bytesOf_range (s : ByteArray) : ∀ z ∈ bytesOf s, 0 ≤ z ∧ z < 256 := by
  intro z hz
  unfold bytesOf at hz
  obtain ⟨b, _, rfl⟩ := List.mem_map.1 hz
  have := b.toNat_lt
  omega
theorem take_snoc {α : Type} (l : List α) (i : Nat) (h : i < l.length) : l.take i ++ [l[i]] = l.take (i + 1) := by
  rw [List.take_succ_eq_append_getElem h]
theorem rd_getD (l : List Int) (i : Nat) : rd l (i : Int) = l.getD i 0 := by unfold rd; rw [Int.toNat_natCast]
theorem rd_left (l m : List Int) (i : Nat) (h : i < l.length) : rd (l ++ m) (i : Int) = rd l (i : Int) := by
  rw [rd_getD, rd_getD, List.getD_eq_getElem?_getD, List.getD_eq_getElem?_getD, List.getElem?_append_left h]
theorem rd_right (l m : List Int) (i : Nat) (h : l.length ≤ i) : rd (l ++ m) (i : Int) = rd m ((i - l.length : Nat) : Int) := by
  rw [rd_getD, rd_getD, List.getD_eq_getElem?_getD, List.getD_eq_getElem?_getD, List.getElem?_append_right h]
theorem rd_drop0 (l : List Int) (i : Nat) (h : i < l.length) : rd (l.drop i) ((0 : Nat) : Int) = l[i] := by
  rw [List.drop_eq_getElem_cons h]; rfl

theorem Bytes_ev (s : ByteArray) (hs : s.size ≤ 140737488351232) : Ev (fun k => copsekit_Bytes.f k s) (bytesOf s) := by
  have h := Ev.loop (σ := fun i k => copsekit_Bytes.l0 k s ((bytesOf s).take i) (i : Int)) (r := bytesOf s) (n := s.size) (fun i hi k => by
    have hl : ((bytesOf s).take i).length = i := by rw [List.length_take, bytesOf_length]; omega
    simp only [copsekit_Bytes.l0]
    rw [if_pos (by omega), if_pos (by omega), if_pos (by omega), bt_nat s i hi, take_snoc _ _ (by rw [bytesOf_length]; exact hi), w64 (by omega) (by omega)]
    rfl) (Ev.done fun k => by
    simp only [copsekit_Bytes.l0]
    rw [if_neg (by omega), List.take_of_length_le (by rw [bytesOf_length]; omega)]) 0 (by omega)
  exact h

/-! pairs, their marks, and whether they are kept -/
theorem rdp (l : List S34) (i : Nat) (h : i < l.length) : rd_T34 l (i : Int) = l[i] := by
  unfold rd_T34
  rw [Int.toNat_natCast, List.getD_eq_getElem?_getD, List.getElem?_eq_getElem h]
  rfl
theorem digit_cut : ∀ d : Nat, d < 10 → (([48, 49, 50, 51, 52, 53, 54, 55, 56, 57] : List Int).take (d + 1)).drop d = [48 + (d : Int)] := by decide
def mk (j : Nat) : S34 := ⟨(⟨#[109, 97, 114, 107]⟩ : ByteArray), strOfNums [48 + ((j % 10 : Nat) : Int)]⟩
theorem mark_ev (j : Nat) (h : j < 64) : Ev (fun k => copselaw7_mark.f k (j : Int)) ((mk j).f0, (mk j).f1) := by
  have hb := Bytes_ev (⟨#[48, 49, 50, 51, 52, 53, 54, 55, 56, 57]⟩ : ByteArray) (by decide)
  refine Ev.bind hb (Ev.const fun k => ?_)
  have e : bytesOf (⟨#[48, 49, 50, 51, 52, 53, 54, 55, 56, 57]⟩ : ByteArray) = [48, 49, 50, 51, 52, 53, 54, 55, 56, 57] := by decide
  rw [e, show Int.tmod (j : Int) 10 = ((j % 10 : Nat) : Int) from rfl, w64 (by omega) (by omega), if_pos (by omega), if_pos (by omega), if_pos (by simp; omega),
    show (((j % 10 : Nat) : Int) + 1).toNat = j % 10 + 1 by omega, Int.toNat_natCast, digit_cut _ (by omega)]
  rfl
def marksP : List S34 := (List.range 64).map mk
theorem marksP_len : marksP.length = 64 := by simp [marksP]
theorem marksP_at (j : Nat) (h : j < 64) : marksP[j]'(by rw [marksP_len]; exact h) = mk j := by simp [marksP]
theorem pairs_ev (l : List S34) (hl : l.length * 32 ≤ 140737488351232) : Ev (fun k => copselaw7_pairs.f k l) (l ++ marksP) := by
  have h1 := Ev.loop' (σ := fun i k => copselaw7_pairs.l1 k (l ++ marksP.take i) (i : Int)) (r := l ++ marksP) (n := 64) (fun i hi hn => by
    have hlen : (l ++ marksP.take i).length = l.length + i := by rw [List.length_append, List.length_take, marksP_len]; omega
    refine Ev.step (f := fun k => (copselaw7_mark.f k (i : Int)).bind fun bt116 => if (l ++ marksP.take i).length < 4398046511104 then copselaw7_pairs.l1 k ((l ++ marksP.take i) ++ [(⟨bt116.1, bt116.2⟩ : S34)]) (wrap64 ((i : Int) + 1)) else none) (fun k => ?_) (Ev.bind (mark_ev i hi) ?_)
    · simp only [copselaw7_pairs.l1]
      rw [if_pos (by omega)]
    · refine Ev.congr (fun k => ?_) hn
      rw [if_pos (by rw [hlen]; omega), w64 (by omega) (by omega), ← take_snoc marksP i (by rw [marksP_len]; exact hi), marksP_at i hi, List.append_assoc]
      rfl) (Ev.done fun k => by
    simp only [copselaw7_pairs.l1]
    rw [if_neg (by omega), List.take_of_length_le (by rw [marksP_len]; omega)]) 0 (by omega)
  have h0 := Ev.loop (σ := fun i k => copselaw7_pairs.l0 k l (l.take i) (i : Int)) (r := l ++ marksP) (n := l.length) (fun i hi k => by
    have hlen : (l.take i).length = i := by rw [List.length_take]; omega
    simp only [copselaw7_pairs.l0]
    rw [if_pos (by omega), if_pos (by omega), if_pos (by omega), rdp l i hi, w64 (by omega) (by omega), take_snoc l i hi]
    rfl) (Ev.step (fun k => by
    simp only [copselaw7_pairs.l0]
    rw [if_neg (by omega), List.take_of_length_le (by omega)]) (by simpa using h1)) 0 (by omega)
  exact h0
theorem kept_ev (l : List S34) (hl : l.length * 32 ≤ 140737488351232) : Ev (fun k => copselaw7_kept.f k (l ++ marksP) l) true := by
  have hlen : (l ++ marksP).length = l.length + 64 := by rw [List.length_append, marksP_len]
  have h := Ev.loop' (σ := fun i k => copselaw7_kept.l0 k (l ++ marksP) l (i : Int)) (r := true) (n := l.length + 64) (fun i hi hn => by
    by_cases h1 : i < l.length
    · refine Ev.step (fun k => ?_) hn
      have e1 : rd_T34 (l ++ marksP) (i : Int) = rd_T34 l (i : Int) := by
        rw [rdp _ _ (by omega), rdp l i h1, List.getElem_append_left]
      simp only [copselaw7_kept.l0]
      rw [if_pos (by omega), if_pos (by omega), if_pos (by omega), e1, if_neg (by simp), if_neg (by omega), w64 (by omega) (by omega)]
      rfl
    · have e1 : rd_T34 (l ++ marksP) (i : Int) = mk (i - l.length) := by
        rw [rdp _ _ (by omega), List.getElem_append_right (by omega), marksP_at _ (by omega)]
      refine Ev.step (f := fun k => (copselaw7_mark.f k (((i - l.length : Nat)) : Int)).bind fun bt136 => if (!((((rd_T34 (l ++ marksP) (i : Int)).f0).toList) == bt136.1.toList) || (!((((rd_T34 (l ++ marksP) (i : Int)).f1).toList) == bt136.2.toList))) = true then (some false) else copselaw7_kept.l0 k (l ++ marksP) l ((i + 1 : Nat) : Int)) (fun k => ?_) (Ev.bind (mark_ev _ (by omega)) (Ev.congr (fun k => ?_) hn))
      · simp only [copselaw7_kept.l0]
        rw [if_pos (by omega), if_neg (by omega), if_pos (by omega), if_pos (by omega), w64 (n := (i : Int) - (l.length : Int)) (by omega) (by omega), w64 (n := (i : Int) + 1) (by omega) (by omega), show (i : Int) - (l.length : Int) = ((i - l.length : Nat) : Int) by omega]
        rfl
      · rw [e1, if_neg (by simp)]) (Ev.done fun k => by
    simp only [copselaw7_kept.l0]
    rw [if_neg (by omega), hlen, w64 (by omega) (by omega)]
    simp) 0 (by omega)
  exact h

theorem SamePairs_ev (l : List S34) (hl : l.length ≤ 140737488351232) : Ev (fun k => copseref0_SamePairs.f k l l) true := by
  have h := Ev.loop (σ := fun i k => copseref0_SamePairs.l0 k l l (i : Int)) (r := true) (n := l.length) (fun i hi k => by
    simp only [copseref0_SamePairs.l0]
    rw [if_pos (by omega), if_pos (by omega), if_pos (by omega), if_neg (by simp), w64 (by omega) (by omega)]
    rfl) (Ev.done fun k => by
    simp only [copseref0_SamePairs.l0]
    rw [if_neg (by omega)]) 0 (by omega)
  exact Ev.congr (fun k => by simp [copseref0_SamePairs.f]) h

/-! where a key stands -/
def fidx (l : List S34) (key : ByteArray) : Nat := leaf_Find.idx l key
def fthere (l : List S34) (key : ByteArray) : Bool := decide (fidx l key < l.length) && ((rd_T34 l (fidx l key : Int)).f0.toList == key.toList)
def fnext (l : List S34) (key : ByteArray) : Nat := if fthere l key = true then fidx l key + 1 else fidx l key
def setv (l : List S34) (key val : ByteArray) : List S34 := l.take (fidx l key) ++ [(⟨key, val⟩ : S34)] ++ l.drop (fnext l key)
def dropv (l : List S34) (key : ByteArray) : List S34 := l.take (fidx l key) ++ l.drop (fnext l key)
theorem fidx_le (l : List S34) (key : ByteArray) : fidx l key ≤ l.length := List.findIdx_le_length
theorem fidx_before (l : List S34) (key : ByteArray) (i : Nat) (h : i < fidx l key) : Op.bytesLess (l[i]'(Nat.lt_of_lt_of_le h (fidx_le l key))).f0.toList key.toList = true := by
  have := List.not_of_lt_findIdx (p := leaf_Find.ge key) (xs := l) (i := i) h
  simpa [leaf_Find.ge] using this
theorem fidx_at (l : List S34) (key : ByteArray) (h : fidx l key < l.length) : Op.bytesLess (l[fidx l key]).f0.toList key.toList = false := by
  have h1 : leaf_Find.ge key (l[fidx l key]) = true := List.findIdx_getElem (p := leaf_Find.ge key) (xs := l) (w := h)
  simpa [leaf_Find.ge] using h1
theorem fthere_lt (l : List S34) (key : ByteArray) (h : fthere l key = true) : fidx l key < l.length := by
  unfold fthere at h
  simp only [Bool.and_eq_true, decide_eq_true_eq] at h
  exact h.1
theorem fnext_le (l : List S34) (key : ByteArray) : fnext l key ≤ l.length := by
  unfold fnext
  split
  · have := fthere_lt l key (by assumption)
    omega
  · exact fidx_le l key
theorem Find_eq (l : List S34) (key : ByteArray) (hl : l.length < 4611686018427387904) : leaf_Find.f l key = some ((fidx l key : Int), fthere l key) := by
  unfold leaf_Find.f
  rw [if_pos hl]
  have hle := fidx_le l key
  by_cases h : leaf_Find.idx l key < l.length
  · rw [if_pos h]
    unfold fthere
    rw [show fidx l key = leaf_Find.idx l key from rfl, decide_eq_true h, Bool.true_and]
  · rw [if_neg h]
    unfold fthere
    rw [show fidx l key = leaf_Find.idx l key from rfl, decide_eq_false h, Bool.false_and]
    congr 2
    have : fidx l key = leaf_Find.idx l key := rfl
    omega
theorem Set_eq (l : List S34) (key val : ByteArray) (hl : l.length * 32 ≤ 140737488351232) : leaf_Set.f l key val = some (setv l key val) := by
  have hle := fidx_le l key
  have hne := fnext_le l key
  have t1 : (l.take (fidx l key)).length ≤ l.length := by rw [List.length_take]; omega
  have t2 : (l.take (fidx l key) ++ [(⟨key, val⟩ : S34)]).length + (l.drop (fnext l key)).length < 4398046511104 := by
    rw [List.length_append, List.length_take, List.length_drop, List.length_singleton]
    unfold fnext
    split <;> omega
  unfold leaf_Set.f setv
  rw [Find_eq l key (by omega)]
  simp only [Option.bind_some, Int.toNat_natCast, List.nil_append, List.length_nil, Nat.zero_add]
  rw [if_pos (by omega), if_pos (by omega), if_pos (by omega), if_pos (by omega)]
  by_cases h : fthere l key = true
  · have hn : fnext l key = fidx l key + 1 := if_pos h
    rw [hn] at t2 hne ⊢
    rw [if_pos h, w64 (by omega) (by omega), if_pos (by omega), if_pos (by omega), show ((fidx l key : Int) + 1).toNat = fidx l key + 1 by omega, if_pos t2]
  · have hn : fnext l key = fidx l key := if_neg h
    rw [hn] at t2 ⊢
    rw [if_neg h, if_pos t2]
theorem Drop_eq (l : List S34) (key : ByteArray) (hl : l.length * 32 ≤ 140737488351232) : leaf_Drop.f l key = some (dropv l key, fthere l key) := by
  have hle := fidx_le l key
  have hne := fnext_le l key
  have t1 : (l.take (fidx l key)).length ≤ l.length := by rw [List.length_take]; omega
  have t2 : (l.take (fidx l key)).length + (l.drop (fnext l key)).length < 4398046511104 := by
    rw [List.length_take, List.length_drop]
    unfold fnext
    split <;> omega
  unfold leaf_Drop.f dropv
  rw [Find_eq l key (by omega)]
  simp only [Option.bind_some, Int.toNat_natCast, List.nil_append, List.length_nil, Nat.zero_add]
  rw [if_pos (by omega), if_pos (by omega), if_pos (by omega)]
  by_cases h : fthere l key = true
  · have hn : fnext l key = fidx l key + 1 := if_pos h
    rw [hn] at t2 hne ⊢
    rw [if_pos h, w64 (by omega) (by omega), if_pos (by omega), if_pos (by omega), show ((fidx l key : Int) + 1).toNat = fidx l key + 1 by omega, if_pos t2]
  · have hn : fnext l key = fidx l key := if_neg h
    rw [hn] at t2 ⊢
    rw [if_neg h, if_pos t2]

theorem RFind_ev (l : List S34) (key : ByteArray) (hl : l.length * 32 ≤ 140737488351232) : Ev (fun k => copseref7_Find.f k l key) ((fidx l key : Int), fthere l key) := by
  have hle := fidx_le l key
  exact Ev.loop (σ := fun i k => copseref7_Find.l0 k l key (i : Int)) (r := ((fidx l key : Int), fthere l key)) (n := fidx l key) (fun i hi k => by
    have hb := fidx_before l key i hi
    simp only [copseref7_Find.l0]
    rw [if_pos (by omega), if_pos (by omega), rdp l i (by omega), if_pos hb, w64 (by omega) (by omega)]
    rfl) (Ev.done fun k => by
    simp only [copseref7_Find.l0]
    by_cases h : fidx l key < l.length
    · have hb := fidx_at l key h
      unfold fthere
      rw [if_pos (by omega), if_pos (by omega), rdp l _ h, if_neg (by simp [hb]), decide_eq_true h, Bool.true_and]
    · unfold fthere
      rw [if_neg (by omega), decide_eq_false h, Bool.false_and, show l.length = fidx l key by omega]) 0 (by omega)
theorem RSet_ev (l : List S34) (key val : ByteArray) (hl : l.length * 32 ≤ 140737488351232) : Ev (fun k => copseref7_Set.f k l key val) (setv l key val) := by
  have hle := fidx_le l key
  have hne := fnext_le l key
  unfold copseref7_Set.f
  refine Ev.bind (RFind_ev l key hl) ?_
  have h1 : Ev (fun k => copseref7_Set.l1 k l (l.take (fidx l key) ++ [(⟨key, val⟩ : S34)]) (fnext l key : Int)) (setv l key val) := by
    have := Ev.loop (σ := fun i k => copseref7_Set.l1 k l (l.take (fidx l key) ++ [(⟨key, val⟩ : S34)] ++ (l.drop (fnext l key)).take i) ((fnext l key + i : Nat) : Int)) (r := setv l key val) (n := l.length - fnext l key) (fun i hi k => by
      have hlt : i < (l.drop (fnext l key)).length := by rw [List.length_drop]; omega
      have hlen : (l.take (fidx l key) ++ [(⟨key, val⟩ : S34)] ++ (l.drop (fnext l key)).take i).length < 4398046511104 := by
        rw [List.length_append, List.length_append, List.length_take, List.length_take, List.length_drop, List.length_singleton]
        have : fidx l key ≤ fnext l key := by unfold fnext; split <;> omega
        omega
      simp only [copseref7_Set.l1]
      rw [if_pos (by omega), if_pos (by omega), if_pos hlen, rdp l _ (by omega), w64 (by omega) (by omega), ← take_snoc _ i hlt, List.getElem_drop, List.append_assoc _ _ [_]]
      rfl) (Ev.done fun k => by
      simp only [copseref7_Set.l1]
      rw [if_neg (by omega), List.take_of_length_le (l := l.drop _) (by rw [List.length_drop]; omega)]
      rfl) 0 (by omega)
    simpa using this
  have := Ev.loop (σ := fun i k => copseref7_Set.l0 k l key val (fidx l key : Int) (fthere l key) (l.take i) (i : Int)) (r := setv l key val) (n := fidx l key) (fun i hi k => by
    have hlen : (l.take i).length < 4398046511104 := by rw [List.length_take]; omega
    simp only [copseref7_Set.l0]
    rw [if_pos (by omega), if_pos (by omega), if_pos (by omega), if_pos hlen, rdp l i (by omega), w64 (by omega) (by omega)]
    rw [show ([(⟨l[i].f0, l[i].f1⟩ : S34)]) = [l[i]] from rfl, take_snoc l i (by omega)]
    rfl) (by
    have hlen : (l.take (fidx l key)).length < 4398046511104 := by rw [List.length_take]; omega
    refine Ev.step (f := fun k => copseref7_Set.j1 k l (fnext l key : Int) (l.take (fidx l key) ++ [(⟨key, val⟩ : S34)])) (fun k => ?_) (Ev.step (fun k => by simp only [copseref7_Set.j1]) h1)
    simp only [copseref7_Set.l0]
    rw [if_neg (by omega), if_pos hlen, Option.bind_some]
    by_cases h : fthere l key = true
    · have hn : fnext l key = fidx l key + 1 := if_pos h
      rw [if_pos h, hn, w64 (by omega) (by omega)]
      rfl
    · have hn : fnext l key = fidx l key := if_neg h
      rw [if_neg h, hn]) 0 (by omega)
  exact this
theorem RDrop_ev (l : List S34) (key : ByteArray) (hl : l.length * 32 ≤ 140737488351232) : Ev (fun k => copseref7_Drop.f k l key) (dropv l key, fthere l key) := by
  have hle := fidx_le l key
  unfold copseref7_Drop.f
  refine Ev.bind (RFind_ev l key hl) ?_
  by_cases h : fthere l key = true
  · have hlt := fthere_lt l key h
    have hn : fnext l key = fidx l key + 1 := if_pos h
    simp only [h]
    have := Ev.loop (σ := fun i k => copseref7_Drop.l0 k l (fidx l key : Int) true ((l.take (fidx l key)).take i ++ (l.drop (fidx l key + 1)).take (i - (fidx l key + 1))) (i : Int)) (r := (dropv l key, true)) (n := l.length) (fun i hi k => by
      have hlen : ((l.take (fidx l key)).take i ++ (l.drop (fidx l key + 1)).take (i - (fidx l key + 1))).length < 4398046511104 := by
        rw [List.length_append, List.length_take, List.length_take, List.length_take, List.length_drop]
        omega
      simp only [copseref7_Drop.l0]
      rw [if_pos (by omega), if_pos trivial]
      by_cases e : i = fidx l key
      · rw [if_pos (by omega), w64 (by omega) (by omega), List.take_of_length_le (l := l.take _) (by rw [List.length_take]; omega), List.take_of_length_le (l := l.take _) (i := i + 1) (by rw [List.length_take]; omega), show i - (fidx l key + 1) = i + 1 - (fidx l key + 1) by omega]
        rfl
      · rw [if_neg (by omega), if_pos (by omega), if_pos hlen, rdp l i hi, w64 (by omega) (by omega), show ([(⟨l[i].f0, l[i].f1⟩ : S34)]) = [l[i]] from rfl]
        by_cases c : i < fidx l key
        · have h0 : i < (l.take (fidx l key)).length := by rw [List.length_take]; omega
          rw [show i - (fidx l key + 1) = 0 by omega, show i + 1 - (fidx l key + 1) = 0 by omega, List.take_zero, List.append_nil, List.append_nil, ← take_snoc (l.take (fidx l key)) i h0, List.getElem_take]
          rfl
        · have h0 : i - (fidx l key + 1) < (l.drop (fidx l key + 1)).length := by rw [List.length_drop]; omega
          have h3 : (l.drop (fidx l key + 1))[i - (fidx l key + 1)] = l[i] := by
            rw [List.getElem_drop]
            congr 1
            omega
          rw [List.take_of_length_le (l := l.take _) (by rw [List.length_take]; omega), List.take_of_length_le (l := l.take _) (i := i + 1) (by rw [List.length_take]; omega), show i + 1 - (fidx l key + 1) = i - (fidx l key + 1) + 1 by omega, ← take_snoc _ _ h0, h3, List.append_assoc]
          rfl) (Ev.done fun k => by
      simp only [copseref7_Drop.l0]
      unfold dropv
      rw [if_neg (by omega), hn, List.take_of_length_le (l := l.take _) (by rw [List.length_take]; omega), List.take_of_length_le (l := l.drop _) (by rw [List.length_drop]; omega)]) 0 (by omega)
    simpa using this
  · have hn : fnext l key = fidx l key := if_neg h
    rw [Bool.not_eq_true] at h
    have hd : dropv l key = l := by unfold dropv; rw [hn, List.take_append_drop]
    rw [hd]
    simp only [h]
    have := Ev.loop (σ := fun i k => copseref7_Drop.l0 k l (fidx l key : Int) false (l.take i) (i : Int)) (r := (l, false)) (n := l.length) (fun i hi k => by
      have hlen : (l.take i).length < 4398046511104 := by rw [List.length_take]; omega
      simp only [copseref7_Drop.l0]
      rw [if_pos (by omega), if_neg (by simp), if_pos (by omega), if_pos hlen, rdp l i hi, w64 (by omega) (by omega), show ([(⟨l[i].f0, l[i].f1⟩ : S34)]) = [l[i]] from rfl, take_snoc l i hi]
      rfl) (Ev.done fun k => by
      simp only [copseref7_Drop.l0]
      rw [if_neg (by omega), List.take_of_length_le (Nat.le_refl _)]) 0 (by omega)
    exact this

theorem pure_side : ∀ (l0_0 : List S34) (a0_1 : ByteArray) (a0_2 : ByteArray) (a0_3 : Bool), (l0_0.length * 32 ≤ 140737488351232 ∧ ∀ z ∈ l0_0, (z.f0.size ≤ 140737488351232 ∧ z.f1.size ≤ 140737488351232)) → a0_1.size ≤ 140737488351232 → a0_2.size ≤ 140737488351232 → ∃ k, copselaw7_LeafFinds.f k l0_0 a0_1 a0_2 a0_3 = some true := by
  intro l key val root hl _ _
  refine Ev.rounds (g := fun k => copselaw7_LeafFinds.f k l key val root) ?_
  have hl := hl.1
  have hlen : (l ++ marksP).length = l.length + 64 := by rw [List.length_append, marksP_len]
  have ht : (l ++ marksP).take ((l.length : Int) : Int).toNat = l := by rw [Int.toNat_natCast, List.take_append_of_le_length (by omega), List.take_of_length_le (by omega)]
  have hle := fidx_le l key
  have hne := fnext_le l key
  have b1 : (setv l key val).length ≤ 140737488351232 := by unfold setv; rw [List.length_append, List.length_append, List.length_take, List.length_drop, List.length_singleton]; omega
  have b2 : (dropv l key).length ≤ 140737488351232 := by unfold dropv; rw [List.length_append, List.length_take, List.length_drop]; omega
  unfold copselaw7_LeafFinds.f
  refine Ev.bind (pairs_ev l hl) ?_
  refine Ev.congr (f := fun k => (copselaw7_kept.f k (l ++ marksP) l).bind fun t230 => ((copseref7_Find.f k l key).bind fun bt231 => ((copseref7_Set.f k l key val).bind fun t233 => ((copseref7_Drop.f k l key).bind fun bt236 => ((copseref0_SamePairs.f k (setv l key val) t233).bind fun t240 => ((copseref0_SamePairs.f k (dropv l key) bt236.1).bind fun t241 => (if t230 = true then (if (fidx l key : Int) = bt231.1 then (if (fthere l key == bt231.2) = true then (if t240 = true then (if t241 = true then (copselaw7_LeafFinds.j0 k (fthere l key == bt236.2)) else (copselaw7_LeafFinds.j0 k false)) else (copselaw7_LeafFinds.j0 k false)) else (copselaw7_LeafFinds.j0 k false)) else (copselaw7_LeafFinds.j0 k false)) else (copselaw7_LeafFinds.j0 k false)))))))) (fun k => ?_) ?_
  · rw [if_pos (by omega), if_pos (by omega), ht, Find_eq l key (by omega), Option.bind_some, Set_eq l key val hl, Option.bind_some, Drop_eq l key hl, Option.bind_some]
  · refine Ev.bind (kept_ev l hl) (Ev.bind (RFind_ev l key hl) (Ev.bind (RSet_ev l key val hl) (Ev.bind (RDrop_ev l key hl) (Ev.bind (SamePairs_ev _ b1) (Ev.bind (SamePairs_ev _ b2) (Ev.done fun k => ?_))))))
    rw [if_pos rfl, if_pos rfl, if_pos (by simp), if_pos rfl, if_pos rfl]
    simp [copselaw7_LeafFinds.j0]
end Go.Proofs.Ytdailhlghlledaa.XLeafFinds
