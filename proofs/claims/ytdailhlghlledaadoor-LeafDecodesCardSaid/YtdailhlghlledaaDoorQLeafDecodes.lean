/- The pure side of LeafDecodes. -/
import Derived.Test.YtdailhlghlledaaDoorXLeafDecodesx
import Derived.Laws.BitsLemmas
set_option linter.unusedVariables false
set_option linter.unusedSimpArgs false
namespace Go.Proofs.YtdailhlghlledaaDoor.XLeafDecodes
open Go.RowKit Go.Proofs.YtdailhlghlledaaDoorW.PrintWords Go.Proofs.YtdailhlghlledaaDoorW.PrintLast
theorem w64 {n : Int} (h0 : -9223372036854775808 ≤ n) (h1 : n < 9223372036854775808) : wrap64 n = n := by unfold wrap64; omega
theorem Ev.loop {α : Type} {σ : Nat → Nat → Option α} {r : α} {n : Nat} (h : ∀ i, i < n → ∀ k, σ i (k + 1) = σ (i + 1) k) (he : Ev (σ n) r) : ∀ i, i ≤ n → Ev (σ i) r := by
  have : ∀ d i, i + d = n → Ev (σ i) r := by
    intro d
    induction d with
    | zero => intro i hi; obtain rfl : i = n := by omega
              exact he
    | succ d ih => intro i hi; exact Ev.step (h i (by omega)) (ih (i + 1) (by omega))
  intro i hi
  exact this (n - i) i (by omega)
theorem Ev.loop' {α : Type} {σ : Nat → Nat → Option α} {r : α} {n : Nat} (h : ∀ i, i < n → Ev (σ (i + 1)) r → Ev (σ i) r) (he : Ev (σ n) r) : ∀ i, i ≤ n → Ev (σ i) r := by
  have : ∀ d i, i + d = n → Ev (σ i) r := by
    intro d
    induction d with
    | zero => intro i hi; obtain rfl : i = n := by omega
              exact he
    | succ d ih => intro i hi; exact h i (by omega) (ih (i + 1) (by omega))
  intro i hi
  exact this (n - i) i (by omega)
theorem Ev.done {α : Type} {g : Nat → Option α} {r : α} (h : ∀ k, g (k + 1) = some r) : Ev g r := Ev.step h (Ev.now r)
theorem Ev.const {α : Type} {g : Nat → Option α} {r : α} (h : ∀ k, g k = some r) : Ev g r := ⟨0, fun k _ => h k⟩
theorem Ev.bindc {α β : Type} {o : Option α} {f : Nat → α → Option β} {a : α} {r : β} (h : o = some a) (k : Ev (fun n => f n a) r) : Ev (fun n => o.bind (f n)) r := by subst h; exact k
theorem bt_nat (s : ByteArray) (i : Nat) (h : i < s.size) : bt s (i : Int) = (bytesOf s)[i]'(by rw [bytesOf_length]; exact h) := by
  unfold bt bytesOf
  rw [dif_pos (by simpa using h)]
  simp only [Int.toNat_natCast, List.getElem_map, Array.getElem_toList]
  rfl
theorem rd_nat (l : List Int) (i : Nat) (h : i < l.length) : rd l (i : Int) = l[i] := by
  unfold rd
  rw [Int.toNat_natCast, List.getD_eq_getElem?_getD, List.getElem?_eq_getElem h]
  rfl
theorem bytesOf_range (s : ByteArray) : ∀ z ∈ bytesOf s, 0 ≤ z ∧ z < 256 := by
  intro z hz
  unfold bytesOf at hz
  obtain ⟨b, _, rfl⟩ := List.mem_map.1 hz
  have := b.toNat_lt
  omega
theorem take_snoc {α : Type} (l : List α) (i : Nat) (h : i < l.length) : l.take i ++ [l[i]] = l.take (i + 1) := by
  rw [List.take_succ_eq_append_getElem h]
theorem rd_getD (l : List Int) (i : Nat) : rd l (i : Int) = l.getD i 0 := by unfold rd; rw [Int.toNat_natCast]
theorem rd_left (l m : List Int) (i : Nat) (h : i < l.length) : rd (l ++ m) (i : Int) = rd l (i : Int) := by
  rw [rd_getD, rd_getD, List.getD_eq_getElem?_getD, List.getD_eq_getElem?_getD, List.getElem?_append_left h]
theorem rd_right (l m : List Int) (i : Nat) (h : l.length ≤ i) : rd (l ++ m) (i : Int) = rd m ((i - l.length : Nat) : Int) := by
  rw [rd_getD, rd_getD, List.getD_eq_getElem?_getD, List.getD_eq_getElem?_getD, List.getElem?_append_right h]
theorem rd_drop0 (l : List Int) (i : Nat) (h : i < l.length) : rd (l.drop i) ((0 : Nat) : Int) = l[i] := by
  rw [List.drop_eq_getElem_cons h]; rfl

theorem rdp (l : List S58) (i : Nat) (h : i < l.length) : rd_T58 l (i : Int) = l[i] := by
  unfold rd_T58
  rw [Int.toNat_natCast, List.getD_eq_getElem?_getD, List.getElem?_eq_getElem h]
  rfl

theorem ba_inj {x y : ByteArray} (h : x.toList = y.toList) : x = y := by
  rw [ByteArray.toList_eq, ByteArray.toList_eq] at h
  exact ByteArray.ext (Array.toList_inj.mp h)

theorem SamePairs_ev (l : List S58) (hl : l.length ≤ 140737488351232) : Ev (fun k => copseref0_SamePairs.f k l l) true := by
  have h := Ev.loop (σ := fun i k => copseref0_SamePairs.l0 k l l (i : Int)) (r := true) (n := l.length) (fun i hi k => by
    simp only [copseref0_SamePairs.l0]
    rw [if_pos (by omega), if_pos (by omega), if_pos (by omega), if_neg (by simp), w64 (by omega) (by omega)]
    rfl) (Ev.done fun k => by
    simp only [copseref0_SamePairs.l0]
    rw [if_neg (by omega)]) 0 (by omega)
  exact Ev.congr (fun k => by simp [copseref0_SamePairs.f]) h

/-! the sizes of pairs, and whether they may stand in a leaf -/
theorem wrap_add (a b : Int) : wrap64 (wrap64 a + b) = wrap64 (a + b) := by unfold wrap64; omega
theorem add_wrap (a b : Int) : wrap64 (a + wrap64 b) = wrap64 (a + b) := by unfold wrap64; omega
theorem size_step (s a b : Int) : wrap64 (wrap64 s + wrap64 (wrap64 (5 + a) + b)) = wrap64 (s + (5 + a + b)) := by unfold wrap64; omega
theorem size_step' (s a b : Int) : wrap64 (wrap64 (wrap64 (wrap64 s + 5) + a) + b) = wrap64 (s + (5 + a + b)) := by unfold wrap64; omega
def cost (p : S58) : Int := 5 + (p.f0.size : Int) + (p.f1.size : Int)
def sizeT (l : List S58) : Int := (l.map cost).sum
theorem sizeT_snoc (l : List S58) (p : S58) : sizeT (l ++ [p]) = sizeT l + cost p := by simp [sizeT]
theorem Size_ev (l : List S58) (hl : l.length * 32 ≤ 140737488351232) : Ev (fun k => leaf_Size.f k l) (wrap64 (sizeT l)) := by
  have h0 := Ev.loop (σ := fun i k => leaf_Size.l0 k (wrap64 (sizeT (l.take i))) l (l.length : Int) (i : Int)) (r := wrap64 (sizeT l)) (n := l.length) (fun i hi k => by
    simp only [leaf_Size.l0, leaf_cost.f, Option.bind_some]
    rw [if_pos (by omega), if_pos (by omega), if_pos (by omega), rdp l i hi, w64 (n := (i : Int) + 1) (by omega) (by omega), size_step, ← take_snoc l i hi, sizeT_snoc]
    rfl) (Ev.done fun k => by
    simp only [leaf_Size.l0]
    rw [if_neg (by omega), List.take_of_length_le (by omega)]) 0 (by omega)
  rw [show wrap64 (sizeT (l.take 0)) = 0 by simp [sizeT, wrap64]] at h0
  exact h0
def okp (p : S58) : Prop := 1 ≤ p.f0.size ∧ p.f0.size ≤ 255 ∧ p.f1.size ≤ 700
def Rises (l : List S58) : Prop := ∀ i : Nat, i + 1 < l.length → Op.bytesLess (rd_T58 l (i : Int)).f0.toList (rd_T58 l ((i + 1 : Nat) : Int)).f0.toList = true
open Classical in
noncomputable def chk (l : List S58) (root : Bool) : Option Int :=
  if ∀ p ∈ l, okp p then
    if Rises l then (if wrap64 (sizeT l) > 4072 then some 3 else if l.length = 0 then some 4 else if root = true then none else if wrap64 (sizeT l) < 1556 then some 4 else none)
    else some 12
  else some 1
theorem first_bad {p : Nat → Prop} (h : ¬ ∀ i, p i) : ∃ i, ¬ p i := Classical.byContradiction fun hn => h fun i => Classical.byContradiction fun hi => hn ⟨i, hi⟩
theorem bad_at {l : List S58} (h : ¬ ∀ p ∈ l, okp p) : ∃ i, ∃ hi : i < l.length, ¬ okp l[i] := by
  refine Classical.byContradiction fun hn => h fun p hp => Classical.byContradiction fun hb => hn ?_
  obtain ⟨i, hi, rfl⟩ := List.mem_iff_getElem.1 hp
  exact ⟨i, hi, hb⟩
theorem fall_at {l : List S58} (h : ¬ Rises l) : ∃ i : Nat, i + 1 < l.length ∧ ¬ Op.bytesLess (rd_T58 l (i : Int)).f0.toList (rd_T58 l ((i + 1 : Nat) : Int)).f0.toList = true := by
  refine Classical.byContradiction fun hn => h fun i hi => Classical.byContradiction fun hb => hn ⟨i, hi, hb⟩
theorem Check_ev (l : List S58) (root : Bool) (hl : l.length * 32 ≤ 140737488351232) : Ev (fun k => leaf_Check.f k l root) (chk l root) := by
  have hS := Size_ev l hl
  have hstep : ∀ i (hi : i < l.length), okp l[i] → ∀ k, leaf_Check.l0 (k + 1) l root l (l.length : Int) (i : Int) = leaf_Check.l0 k l root l (l.length : Int) ((i + 1 : Nat) : Int) := fun i hi ho k => by
    obtain ⟨o1, o2, o3⟩ := ho
    simp only [leaf_Check.l0]
    rw [if_pos (by omega), if_pos (by omega), if_pos (by omega), rdp l i hi, if_neg (by omega), if_neg (by omega), if_neg (by omega), w64 (by omega) (by omega)]
    rfl
  by_cases ha : ∀ p ∈ l, okp p
  · have hlast : Ev (fun k => leaf_Check.l1 k l root true (l.length : Int) 0) (chk l root) := by
      have hup : ∀ i : Nat, i < l.length → (i = 0 ∨ Op.bytesLess (rd_T58 l ((i - 1 : Nat) : Int)).f0.toList (rd_T58 l (i : Int)).f0.toList = true) → ∀ k, leaf_Check.l1 (k + 1) l root true (l.length : Int) (i : Int) = leaf_Check.l1 k l root true (l.length : Int) ((i + 1 : Nat) : Int) := fun i hi ho k => by
        simp only [leaf_Check.l1]
        rw [if_pos (by omega)]
        by_cases h0 : i = 0
        · subst h0
          rw [if_neg (by omega), w64 (by omega) (by omega)]
          rfl
        · have ho := ho.resolve_left h0
          rw [if_pos (by omega), w64 (n := (i : Int) - 1) (by omega) (by omega), show (i : Int) - 1 = ((i - 1 : Nat) : Int) by omega, if_pos (by omega), if_pos (by omega), if_pos (by omega), if_pos (by omega), if_pos ho, w64 (by omega) (by omega)]
          rfl
      by_cases hr : Rises l
      · refine Ev.loop (σ := fun i k => leaf_Check.l1 k l root true (l.length : Int) (i : Int)) (r := chk l root) (n := l.length) (fun i hi k => hup i hi (by
          by_cases h0 : i = 0
          · exact .inl h0
          · have := hr (i - 1) (by omega)
            rw [show i - 1 + 1 = i by omega] at this
            exact .inr this) k) ?_ 0 (by omega)
        refine Ev.step (f := fun k => leaf_Check.j2 k l root true) (fun k => ?_) (Ev.step (f := fun k => (leaf_Size.f k l).bind fun t129 => (if t129 > 4072 then (some (some 3)) else (if (l.length : Int) = 0 then (some (some 4)) else (if root = true then (some none) else (if t129 < 1556 then (some (some 4)) else (some none)))))) (fun k => ?_) (Ev.bind hS (Ev.const fun k => ?_)))
        · simp only [leaf_Check.l1]
          rw [if_neg (by omega)]
        · simp only [leaf_Check.j2]
          rfl
        · unfold chk
          rw [if_pos ha, if_pos hr]
          by_cases c1 : wrap64 (sizeT l) > 4072
          · rw [if_pos c1, if_pos c1]
          rw [if_neg c1, if_neg c1]
          by_cases c2 : l.length = 0
          · rw [if_pos c2, if_pos (by omega)]
          rw [if_neg c2, if_neg (by omega)]
          by_cases c3 : root = true
          · rw [if_pos c3, if_pos c3]
          rw [if_neg c3, if_neg c3]
          by_cases c4 : wrap64 (sizeT l) < 1556
          · rw [if_pos c4, if_pos c4]
          rw [if_neg c4, if_neg c4]
      · obtain ⟨i0, hi0, hb⟩ := fall_at hr
        have hend : Ev (fun k => leaf_Check.j2 k l root false) (chk l root) := Ev.step (f := fun k => (leaf_Size.f k l).bind fun t129 => some (some 12)) (fun k => by simp only [leaf_Check.j2]; rfl) (Ev.bind hS (Ev.const fun k => by unfold chk; rw [if_pos ha, if_neg hr]))
        refine Ev.loop' (σ := fun i k => leaf_Check.l1 k l root true (l.length : Int) (i : Int)) (r := chk l root) (n := i0 + 1) (fun i hi hn => ?_) ?_ 0 (by omega)
        · by_cases ho : i = 0 ∨ Op.bytesLess (rd_T58 l ((i - 1 : Nat) : Int)).f0.toList (rd_T58 l (i : Int)).f0.toList = true
          · exact Ev.step (fun k => hup i (by omega) ho k) hn
          · refine Ev.step (fun k => ?_) hend
            simp only [leaf_Check.l1]
            rw [if_pos (by omega), if_pos (by omega), w64 (n := (i : Int) - 1) (by omega) (by omega), show (i : Int) - 1 = ((i - 1 : Nat) : Int) by omega, if_pos (by omega), if_pos (by omega), if_pos (by omega), if_pos (by omega), if_neg (fun h => ho (.inr h))]
        · refine Ev.step (fun k => ?_) hend
          simp only [leaf_Check.l1]
          rw [if_pos (by omega), if_pos (by omega), w64 (n := ((i0 + 1 : Nat) : Int) - 1) (by omega) (by omega), show ((i0 + 1 : Nat) : Int) - 1 = (i0 : Int) by omega, if_pos (by omega), if_pos (by omega), if_pos (by omega), if_pos (by omega), if_neg hb]
    refine Ev.loop (σ := fun i k => leaf_Check.l0 k l root l (l.length : Int) (i : Int)) (r := chk l root) (n := l.length) (fun i hi k => hstep i hi (ha _ (List.getElem_mem hi)) k) ?_ 0 (by omega)
    refine Ev.step (fun k => ?_) hlast
    simp only [leaf_Check.l0]
    rw [if_neg (by omega)]
  · obtain ⟨i0, hi0, hb⟩ := bad_at ha
    have hbad : ∀ i (hi : i < l.length), ¬ okp l[i] → Ev (fun k => leaf_Check.l0 k l root l (l.length : Int) (i : Int)) (chk l root) := fun i hi ho => Ev.done fun k => by
      unfold chk
      rw [if_neg ha]
      simp only [leaf_Check.l0]
      rw [if_pos (by omega), if_pos (by omega), if_pos (by omega), rdp l i hi]
      unfold okp at ho
      by_cases c1 : (l[i].f0.size : Int) < 1
      · rw [if_pos c1]
      rw [if_neg c1]
      by_cases c2 : (l[i].f0.size : Int) > 255
      · rw [if_pos c2]
      rw [if_neg c2, if_pos (by omega)]
    refine Ev.loop' (σ := fun i k => leaf_Check.l0 k l root l (l.length : Int) (i : Int)) (r := chk l root) (n := i0) (fun i hi hn => ?_) (hbad i0 hi0 hb) 0 (by omega)
    by_cases ho : okp l[i]
    · exact Ev.step (fun k => hstep i (by omega) ho k) hn
    · exact hbad i (by omega) ho

theorem RSize_ev (l : List S58) (hl : l.length * 32 ≤ 140737488351232) : Ev (fun k => copseref7_Size.f k l) (wrap64 (sizeT l)) := by
  have h0 := Ev.loop (σ := fun i k => copseref7_Size.l0 k l (wrap64 (sizeT (l.take i))) (i : Int)) (r := wrap64 (sizeT l)) (n := l.length) (fun i hi k => by
    simp only [copseref7_Size.l0]
    rw [if_pos (by omega), if_pos (by omega), rdp l i hi, w64 (n := (i : Int) + 1) (by omega) (by omega), size_step', ← take_snoc l i hi, sizeT_snoc]
    rfl) (Ev.done fun k => by
    simp only [copseref7_Size.l0]
    rw [if_neg (by omega), List.take_of_length_le (by omega)]) 0 (by omega)
  rw [show wrap64 (sizeT (l.take 0)) = 0 by simp [sizeT, wrap64]] at h0
  exact h0
def rnum (e : Option Int) : Int := e.getD 0
theorem RCheck_ev (l : List S58) (root : Bool) (hl : l.length * 32 ≤ 140737488351232) : Ev (fun k => copseref7_Check.f k l root) (rnum (chk l root)) := by
  have hS := RSize_ev l hl
  have hM : ∀ p : S58, copseref7_MayBe.f p.f0 p.f1 = some (decide (1 ≤ p.f0.size ∧ p.f0.size ≤ 255 ∧ p.f1.size ≤ 700)) := fun p => by
    unfold copseref7_MayBe.f
    by_cases c1 : (p.f0.size : Int) ≥ 1
    · rw [if_pos c1]
      by_cases c2 : (p.f0.size : Int) ≤ 255
      · rw [if_pos c2]
        congr 1
        by_cases c3 : p.f1.size ≤ 700
        · rw [decide_eq_true (by omega), decide_eq_true (by omega)]
        · rw [decide_eq_false (by omega), decide_eq_false (by omega)]
      · rw [if_neg c2, decide_eq_false (by omega)]
    · rw [if_neg c1, decide_eq_false (by omega)]
  have hstep : ∀ i (hi : i < l.length), okp l[i] → ∀ k, copseref7_Check.l0 (k + 1) l root (i : Int) = copseref7_Check.l0 k l root ((i + 1 : Nat) : Int) := fun i hi ho k => by
    simp only [copseref7_Check.l0]
    rw [if_pos (by omega), if_pos (by omega), rdp l i hi, hM, Option.bind_some, if_pos (decide_eq_true (show 1 ≤ l[i].f0.size ∧ l[i].f0.size ≤ 255 ∧ l[i].f1.size ≤ 700 from ho)), w64 (by omega) (by omega)]
    rfl
  by_cases ha : ∀ p ∈ l, okp p
  · have hlast : Ev (fun k => copseref7_Check.l1 k l root 1) (rnum (chk l root)) := by
      have hup : ∀ i : Nat, 1 ≤ i → i < l.length → Op.bytesLess (rd_T58 l ((i - 1 : Nat) : Int)).f0.toList (rd_T58 l (i : Int)).f0.toList = true → ∀ k, copseref7_Check.l1 (k + 1) l root (i : Int) = copseref7_Check.l1 k l root ((i + 1 : Nat) : Int) := fun i h1 hi ho k => by
        simp only [copseref7_Check.l1]
        rw [if_pos (by omega), w64 (n := (i : Int) - 1) (by omega) (by omega), show (i : Int) - 1 = ((i - 1 : Nat) : Int) by omega, if_pos (by omega), if_pos (by omega), if_pos (by omega), if_pos ho, w64 (by omega) (by omega)]
        rfl
      have hend : ∀ i : Nat, l.length ≤ i → i ≤ l.length + 1 → Rises l → Ev (fun k => copseref7_Check.l1 k l root (i : Int)) (rnum (chk l root)) := fun i hi hi2 hr => by
        refine Ev.step (f := fun k => (copseref7_Size.f k l).bind fun t148 => (if t148 > 4072 then (some 3) else (if (l.length : Int) = 0 then (some 4) else (if root = true then (some 0) else (if t148 < 1556 then (some 4) else (some 0)))))) (fun k => ?_) (Ev.bind hS (Ev.const fun k => ?_))
        · simp only [copseref7_Check.l1]
          rw [if_neg (by omega)]
        · unfold chk
          rw [if_pos ha, if_pos hr]
          by_cases c1 : wrap64 (sizeT l) > 4072
          · rw [if_pos c1, if_pos c1]; rfl
          rw [if_neg c1, if_neg c1]
          by_cases c2 : l.length = 0
          · rw [if_pos c2, if_pos (by omega)]; rfl
          rw [if_neg c2, if_neg (by omega)]
          by_cases c3 : root = true
          · rw [if_pos c3, if_pos c3]; rfl
          rw [if_neg c3, if_neg c3]
          by_cases c4 : wrap64 (sizeT l) < 1556
          · rw [if_pos c4, if_pos c4]; rfl
          rw [if_neg c4, if_neg c4]; rfl
      by_cases hr : Rises l
      · by_cases h0 : l.length = 0
        · exact hend 1 (by omega) (by omega) hr
        · exact Ev.loop (σ := fun i k => copseref7_Check.l1 k l root ((i + 1 : Nat) : Int)) (r := rnum (chk l root)) (n := l.length - 1) (fun i hi k => hup (i + 1) (by omega) (by omega) (hr i (by omega)) k) (hend _ (by omega) (by omega) hr) 0 (by omega)
      · obtain ⟨i0, hi0, hb⟩ := fall_at hr
        have hfall : ∀ i : Nat, i + 1 < l.length → ¬ Op.bytesLess (rd_T58 l (i : Int)).f0.toList (rd_T58 l ((i + 1 : Nat) : Int)).f0.toList = true → Ev (fun k => copseref7_Check.l1 k l root ((i + 1 : Nat) : Int)) (rnum (chk l root)) := fun i hi hb => Ev.done fun k => by
          simp only [copseref7_Check.l1]
          rw [if_pos (by omega), w64 (n := ((i + 1 : Nat) : Int) - 1) (by omega) (by omega), show ((i + 1 : Nat) : Int) - 1 = (i : Int) by omega, if_pos (by omega), if_pos (by omega), if_pos (by omega), if_neg hb]
          unfold chk
          rw [if_pos ha, if_neg hr]
          rfl
        refine Ev.loop' (σ := fun i k => copseref7_Check.l1 k l root ((i + 1 : Nat) : Int)) (r := rnum (chk l root)) (n := i0) (fun i hi hn => ?_) (hfall i0 hi0 hb) 0 (by omega)
        by_cases ho : Op.bytesLess (rd_T58 l (i : Int)).f0.toList (rd_T58 l ((i + 1 : Nat) : Int)).f0.toList = true
        · exact Ev.step (fun k => hup (i + 1) (by omega) (by omega) ho k) hn
        · exact hfall i (by omega) ho
    refine Ev.loop (σ := fun i k => copseref7_Check.l0 k l root (i : Int)) (r := rnum (chk l root)) (n := l.length) (fun i hi k => hstep i hi (ha _ (List.getElem_mem hi)) k) ?_ 0 (by omega)
    refine Ev.step (fun k => ?_) hlast
    simp only [copseref7_Check.l0]
    rw [if_neg (by omega)]
  · obtain ⟨i0, hi0, hb⟩ := bad_at ha
    have hbad : ∀ i (hi : i < l.length), ¬ okp l[i] → Ev (fun k => copseref7_Check.l0 k l root (i : Int)) (rnum (chk l root)) := fun i hi ho => Ev.done fun k => by
      unfold chk
      rw [if_neg ha]
      simp only [copseref7_Check.l0]
      rw [if_pos (by omega), if_pos (by omega), rdp l i hi, hM, Option.bind_some, if_neg (by simpa [okp] using ho)]
      rfl
    refine Ev.loop' (σ := fun i k => copseref7_Check.l0 k l root (i : Int)) (r := rnum (chk l root)) (n := i0) (fun i hi hn => ?_) (hbad i0 hi0 hb) 0 (by omega)
    by_cases ho : okp l[i]
    · exact Ev.step (fun k => hstep i (by omega) ho k) hn
    · exact hbad i (by omega) ho
theorem chk_num (l : List S58) (root : Bool) : copsekit_Num.f (chk l root) = some (rnum (chk l root)) := by
  unfold chk rnum
  split
  · split
    · split
      · simp [copsekit_Num.f, en]
      · split
        · simp [copsekit_Num.f, en]
        · split
          · simp [copsekit_Num.f]
          · split <;> simp [copsekit_Num.f, en]
    · simp [copsekit_Num.f, copsekit_more.f, en]
  · simp [copsekit_Num.f, en]

/-! bodies: laid out and read -/
theorem bx_bytes (s : ByteArray) (a b : Nat) : bytesOf (s.extract a b) = ((bytesOf s).take b).drop a := by
  unfold bytesOf
  rw [ByteArray.data_extract, Array.toList_extract, List.extract_eq_take_drop]
  rw [← List.map_take, ← List.map_drop, List.drop_take]
theorem str_bytes (s : ByteArray) : strOfNums (bytesOf s) = s := by
  unfold strOfNums bytesOf
  rw [List.map_map, show ((fun n : Int => UInt8.ofNat n.toNat) ∘ fun b : UInt8 => (b.toNat : Int)) = id from by
    funext b
    simp]
  simp
theorem bytes_inj {s t : ByteArray} (h : bytesOf s = bytesOf t) : s = t := by rw [← str_bytes s, ← str_bytes t, h]
theorem bytes_str (l : List Int) (h : ∀ z ∈ l, 0 ≤ z ∧ z < 256) : bytesOf (strOfNums l) = l := by
  unfold strOfNums bytesOf
  rw [List.map_map]
  refine (List.map_congr_left (g := id) fun z hz => ?_).trans (List.map_id l)
  have := h z hz
  simp only [Function.comp_apply, id]
  rw [UInt8.toNat_ofNat']
  omega
/-- The byte at a place. -/
def b_ (s : ByteArray) (k : Nat) : Nat := ((bytesOf s).getD k 0).toNat
theorem b_lt (s : ByteArray) (k : Nat) : b_ s k < 256 := by
  unfold b_
  rw [List.getD_eq_getElem?_getD]
  rcases h : (bytesOf s)[k]? with _ | z
  · decide
  · have hz := bytesOf_range s z (List.mem_of_getElem? h)
    simp only [Option.getD_some]
    omega
theorem bt_b (s : ByteArray) (k : Nat) (h : k < s.size) : bt s (k : Int) = (b_ s k : Int) := by
  rw [bt_nat s k h]
  have hz := bytesOf_range s _ (List.getElem_mem (l := bytesOf s) (n := k) (by rw [bytesOf_length]; exact h))
  unfold b_
  rw [List.getD_eq_getElem?_getD, List.getElem?_eq_getElem (by rw [bytesOf_length]; exact h)]
  simp only [Option.getD_some]
  omega
theorem b_get (s : ByteArray) (k : Nat) (h : k < s.size) : (bytesOf s)[k]? = some (b_ s k : Int) := by
  have hz := bytesOf_range s _ (List.getElem_mem (l := bytesOf s) (n := k) (by rw [bytesOf_length]; exact h))
  unfold b_
  rw [List.getD_eq_getElem?_getD, List.getElem?_eq_getElem (by rw [bytesOf_length]; exact h)]
  simp only [Option.getD_some]
  congr 1
  omega
/-- The slot of that number. -/
def slot (s : ByteArray) (i : Nat) : Nat := b_ s (2 * i) * 256 + b_ s (2 * i + 1)
def readL (s : ByteArray) : Nat → Nat → Nat → Option (List ByteArray × Nat)
  | 0, _, at_ => some ([], at_)
  | d + 1, i, at_ => if slot s i < at_ ∨ 4072 < slot s i then none else (readL s d (i + 1) (slot s i)).map fun x => (s.extract at_ (slot s i) :: x.1, x.2)
def clean (s : ByteArray) (t : Nat) : Prop := ∀ k, t ≤ k → k < 4072 → b_ s k = 0
open Classical in
noncomputable def readv (count : Int) (s : ByteArray) : List ByteArray × Option Int :=
  if count < 0 ∨ 2036 < count ∨ s.size ≠ 4072 then ([], some 2)
  else match readL s count.toNat 0 (2 * count.toNat) with
    | none => ([], some 2)
    | some (l, t) => if clean s t then (l, none) else ([], some 2)
theorem or_slot (x y : Nat) (hx : x < 256) (hy : y < 256) : Go.bits .or .i64 (wrap64 ((wrap64 (x : Int)) * 256)) (wrap64 (y : Int)) = ((x * 256 + y : Nat) : Int) := by
  rw [w64 (n := (x : Int)) (by omega) (by omega), w64 (by omega) (by omega), w64 (by omega) (by omega)]
  rw [bits_join .i64 16 (by decide) (fun n a b => by
    have h16 : (2 : Int) ^ 16 = 65536 := by decide
    rw [h16] at b
    exact (i64_w n).trans (w64 (by omega) (by omega))) 8 _ _ (by omega) (by simp) (by
    have h16 : (2 : Int) ^ 16 = 65536 := by decide
    omega) (by omega) (by simpa using (by omega : (y : Int) < 256)) (by
    have h16 : (2 : Int) ^ 16 = 65536 := by decide
    omega)]
  omega
theorem clean_ev (s : ByteArray) (hs : s.size = 4072) (l : List ByteArray) (t : Nat) (r : List ByteArray × Option Int) (hc : clean s t → r = (l, none)) (hn : ¬ clean s t → r = ([], some 2)) (ht : t ≤ 4072) :
    Ev (fun k => cells_Read.l1 k s l (t : Int)) r := by
  by_cases h : clean s t
  · rw [hc h]
    have := Ev.loop (σ := fun i k => cells_Read.l1 k s l ((t + i : Nat) : Int)) (r := (l, none)) (n := 4072 - t) (fun i hi k => by
      have hb : b_ s (t + i) = 0 := h (t + i) (by omega) (by omega)
      simp only [cells_Read.l1]
      rw [if_pos (by omega), if_pos (by omega), bt_b s (t + i) (by omega), hb, if_pos (by rfl), w64 (by omega) (by omega)]
      rfl) (Ev.done fun k => by
      simp only [cells_Read.l1]
      rw [if_neg (by omega)]) 0 (by omega)
    exact this
  · rw [hn h]
    have : ∃ k, t ≤ k ∧ k < 4072 ∧ b_ s k ≠ 0 := by
      refine Classical.byContradiction fun hne => h fun k h1 h2 => Classical.byContradiction fun hb => hne ⟨k, h1, h2, hb⟩
    obtain ⟨k0, h1, h2, h3⟩ := this
    have hbad : ∀ k, k < 4072 → b_ s k ≠ 0 → Ev (fun f => cells_Read.l1 f s l (k : Int)) ([], some 2) := fun k hk hb => Ev.done fun f => by
      simp only [cells_Read.l1]
      rw [if_pos (by omega), if_pos (by omega), bt_b s k (by omega), if_neg (by omega)]
    have := Ev.loop' (σ := fun i k => cells_Read.l1 k s l ((t + i : Nat) : Int)) (r := (([], some 2) : List ByteArray × Option Int)) (n := k0 - t) (fun i hi hnx => by
      by_cases hb : b_ s (t + i) = 0
      · refine Ev.step (fun k => ?_) hnx
        simp only [cells_Read.l1]
        rw [if_pos (by omega), if_pos (by omega), bt_b s (t + i) (by omega), hb, if_pos (by rfl), w64 (by omega) (by omega)]
        rfl
      · exact hbad (t + i) (by omega) hb) (by
      have := hbad k0 h2 h3
      rwa [show t + (k0 - t) = k0 by omega]) 0 (by omega)
    exact this
theorem readL_bd (s : ByteArray) : ∀ (d i at_ : Nat) (l : List ByteArray) (t : Nat), at_ ≤ 4072 → readL s d i at_ = some (l, t) → t ≤ 4072
  | 0, i, at_, l, t, ha, h => by simp only [readL, Option.some.injEq, Prod.mk.injEq] at h; omega
  | d + 1, i, at_, l, t, ha, h => by
    unfold readL at h
    by_cases c : slot s i < at_ ∨ 4072 < slot s i
    · rw [if_pos c] at h; cases h
    · rw [if_neg c] at h
      obtain ⟨x, hx, he⟩ := Option.map_eq_some_iff.1 h
      simp only [Prod.mk.injEq] at he
      have := readL_bd s d (i + 1) (slot s i) x.1 x.2 (by omega) hx
      omega
theorem read_loop (s : ByteArray) (hs : s.size = 4072) (n : Nat) (hn : n ≤ 2036) : ∀ (d i at_ : Nat) (acc : List ByteArray) (r : List ByteArray × Option Int), i + d = n → at_ ≤ 4072 → acc.length ≤ i →
    (match readL s d i at_ with | none => r = ([], some 2) | some (l, t) => (clean s t → r = (acc ++ l, none)) ∧ (¬ clean s t → r = ([], some 2))) →
    Ev (fun k => cells_Read.l0 k s acc (at_ : Int) (n : Int) (i : Int)) r := by
  intro d
  induction d with
  | zero =>
    intro i at_ acc r hi ha hl hr
    simp only [readL] at hr
    rw [List.append_nil] at hr
    refine Ev.step (fun k => ?_) (clean_ev s hs acc at_ r hr.1 hr.2 ha)
    simp only [cells_Read.l0]
    rw [if_neg (by omega)]
  | succ d ih =>
    intro i at_ acc r hi ha hl hr
    have hb1 := b_lt s (2 * i)
    have hb2 := b_lt s (2 * i + 1)
    have w1 : wrap64 (2 * (i : Int)) = ((2 * i : Nat) : Int) := by rw [w64 (by omega) (by omega)]; omega
    have w2 : wrap64 (((2 * i : Nat) : Int) + 1) = ((2 * i + 1 : Nat) : Int) := by rw [w64 (by omega) (by omega)]; omega
    have hs1 : Go.bits .or .i64 (wrap64 ((wrap64 (bt s ((2 * i : Nat) : Int))) * 256)) (wrap64 (bt s ((2 * i + 1 : Nat) : Int))) = ((slot s i : Nat) : Int) := by
      rw [bt_b s (2 * i) (by omega), bt_b s (2 * i + 1) (by omega), or_slot _ _ hb1 hb2]
      rfl
    unfold readL at hr
    have c1 : (i : Int) < (n : Int) := by omega
    have c2 : (0 : Int) ≤ ((2 * i : Nat) : Int) := by omega
    have c3 : ((2 * i : Nat) : Int) < (s.size : Int) := by omega
    have c4 : (0 : Int) ≤ ((2 * i + 1 : Nat) : Int) := by omega
    have c5 : ((2 * i + 1 : Nat) : Int) < (s.size : Int) := by omega
    by_cases c : slot s i < at_ ∨ 4072 < slot s i
    · rw [if_pos c] at hr
      simp only at hr
      rw [hr]
      refine Ev.done fun k => ?_
      simp only [cells_Read.l0, w1, w2, hs1]
      rw [if_pos c1, if_pos c2, if_pos c3, if_pos c4, if_pos c5]
      by_cases e : slot s i < at_
      · rw [if_pos (by omega)]
      · rw [if_neg (by omega), if_pos (by omega)]
    · rw [if_neg c] at hr
      have hstep : ∀ k, cells_Read.l0 (k + 1) s acc (at_ : Int) (n : Int) (i : Int) = cells_Read.l0 k s (acc ++ [s.extract at_ (slot s i)]) ((slot s i : Nat) : Int) (n : Int) ((i + 1 : Nat) : Int) := fun k => by
        have d1 : ¬ ((slot s i : Nat) : Int) < (at_ : Int) := by omega
        have d2 : ¬ ((slot s i : Nat) : Int) > (s.size : Int) := by omega
        have d3 : (0 : Int) ≤ (at_ : Int) := by omega
        have d4 : (at_ : Int) ≤ ((slot s i : Nat) : Int) := by omega
        have d5 : ((slot s i : Nat) : Int) ≤ (s.size : Int) := by omega
        have d6 : acc.length < 8796093022208 := by omega
        have w3 : wrap64 ((i : Int) + 1) = ((i + 1 : Nat) : Int) := w64 (by omega) (by omega)
        simp only [cells_Read.l0, w1, w2, hs1, w3]
        rw [if_pos c1, if_pos c2, if_pos c3, if_pos c4, if_pos c5, if_neg d1, if_neg d2, if_pos d3, if_pos d4, if_pos d5, if_pos d6, Int.toNat_natCast, Int.toNat_natCast]
      refine Ev.step hstep (ih (i + 1) (slot s i) _ r (by omega) (by omega) (by simp; omega) ?_)
      rcases hq : readL s d (i + 1) (slot s i) with _ | ⟨l, t⟩
      · rw [hq] at hr
        simpa using hr
      · rw [hq] at hr
        simp only [Option.map_some] at hr
        show (clean s t → r = (acc ++ [s.extract at_ (slot s i)] ++ l, none)) ∧ (¬clean s t → r = ([], some 2))
        rw [List.append_assoc]
        exact hr
theorem Read_ev (count : Int) (s : ByteArray) : Ev (fun k => cells_Read.f k count s) (readv count s) := by
  have hbad : Ev (fun k => cells_Read.j0 k count s true) ([], some 2) := Ev.done fun k => by simp [cells_Read.j0]
  unfold readv
  by_cases c1 : count < 0
  · rw [if_pos (.inl c1)]
    exact Ev.congr (fun k => by unfold cells_Read.f; rw [if_pos c1]) hbad
  by_cases c2 : 2036 < count
  · rw [if_pos (.inr (.inl c2))]
    exact Ev.congr (fun k => by unfold cells_Read.f; rw [if_neg c1, if_pos c2]) hbad
  by_cases c3 : s.size = 4072
  · rw [if_neg (by omega)]
    obtain ⟨n, rfl⟩ := Int.eq_ofNat_of_zero_le (show 0 ≤ count by omega)
    have hw : wrap64 (2 * (n : Int)) = ((2 * n : Nat) : Int) := by rw [w64 (by omega) (by omega)]; omega
    refine Ev.congr (f := fun k => cells_Read.j0 k (n : Int) s false) (fun k => by
      unfold cells_Read.f
      rw [if_neg c1, if_neg c2, c3]
      rfl) (Ev.step (f := fun k => cells_Read.l0 k s ([] : List ByteArray) ((2 * n : Nat) : Int) (n : Int) 0) (fun k => by
      simp only [cells_Read.j0, hw]
      rw [if_neg (by simp), if_pos (by omega), if_pos (by omega)]) ?_)
    refine read_loop s c3 n (by omega) n 0 (2 * n) [] _ (by omega) (by omega) (by simp) ?_
    rw [Int.toNat_natCast]
    rcases hq : readL s n 0 (2 * n) with _ | ⟨l, t⟩
    · rfl
    · exact ⟨fun h => by simp [h], fun h => by simp [h]⟩
  · rw [if_pos (.inr (.inr c3))]
    exact Ev.congr (fun k => by
      unfold cells_Read.f
      rw [if_neg c1, if_neg c2, show ((s.size : Int) != 4072) = true by rw [bne_iff_ne]; omega]) hbad

/-! where cells lie -/
def layE (l : List ByteArray) (i : Nat) : Nat := 2 * l.length + ((l.take i).map (·.size)).sum
def layC (l : List ByteArray) : Nat → List Int
  | 0 => List.replicate 4072 0
  | i + 1 => (((layC l i).take (layE l i) ++ bytesOf (l.getD i ⟨#[]⟩) ++ (layC l i).drop (layE l (i + 1))).set (2 * i) ((layE l (i + 1) : Int) / 256 % 256)).set (2 * i + 1) ((layE l (i + 1) : Int) % 256)
theorem layE_succ (l : List ByteArray) (i : Nat) (h : i < l.length) : layE l (i + 1) = layE l i + (l.getD i ⟨#[]⟩).size := by
  unfold layE
  rw [List.take_succ_eq_append_getElem h, List.map_append, List.sum_append, List.getD_eq_getElem?_getD, List.getElem?_eq_getElem h]
  simp
  omega
theorem layE_le (l : List ByteArray) (i : Nat) (h : i ≤ l.length) : layE l i ≤ layE l l.length := by
  have : ∀ d i, i + d = l.length → layE l i ≤ layE l l.length := by
    intro d
    induction d with
    | zero => intro i hi; rw [show i = l.length by omega]; exact Nat.le_refl _
    | succ d ih => intro i hi; have := ih (i + 1) (by omega); rw [layE_succ l i (by omega)] at this; omega
  exact this (l.length - i) i (by omega)
theorem layC_len (l : List ByteArray) (hfit : layE l l.length ≤ 4072) : ∀ i, i ≤ l.length → (layC l i).length = 4072
  | 0, _ => by rw [layC]; exact List.length_replicate ..
  | i + 1, h => by
    have ih := layC_len l hfit i (by omega)
    have e1 := layE_succ l i (by omega)
    have e2 := layE_le l (i + 1) h
    simp only [layC, List.length_set, List.length_append, List.length_take, List.length_drop, ih, bytesOf_length]
    omega

/-! what Lay lays -/
theorem rdO (l : List ByteArray) (i : Nat) (h : i < l.length) : rdOf ByteArray.empty l (i : Int) = l[i] := by
  unfold rdOf
  rw [Int.toNat_natCast, List.getD_eq_getElem?_getD, List.getElem?_eq_getElem h]
  rfl
theorem gD (l : List ByteArray) (i : Nat) (h : i < l.length) : l.getD i ⟨#[]⟩ = l[i] := by
  rw [List.getD_eq_getElem?_getD, List.getElem?_eq_getElem h]
  rfl
theorem size_w (a b : Int) : wrap64 (wrap64 a + b) = wrap64 (a + b) := by unfold wrap64; omega
def layS (l : List ByteArray) : ByteArray := strOfNums (layC l l.length)
theorem layC_at (l : List ByteArray) (hfit : layE l l.length ≤ 4072) (i : Nat) (hi : i < l.length) (k : Nat) :
    (layC l (i + 1))[k]? = if k = 2 * i + 1 then some ((layE l (i + 1) : Int) % 256) else if k = 2 * i then some ((layE l (i + 1) : Int) / 256 % 256) else
      if k < layE l i then (layC l i)[k]? else if k < layE l (i + 1) then (bytesOf l[i])[k - layE l i]? else (layC l i)[k]? := by
  have hC := layC_len l hfit i (by omega)
  have e1 := layE_succ l i hi
  have e2 := layE_le l (i + 1) hi
  have e3 : 2 * l.length ≤ layE l i := by unfold layE; omega
  rw [gD l i hi] at e1
  have hb : (bytesOf l[i]).length = l[i].size := bytesOf_length _
  have ht : ((layC l i).take (layE l i)).length = layE l i := by rw [List.length_take, hC]; omega
  simp only [layC]
  rw [gD l i hi, List.getElem?_set, List.getElem?_set]
  have hlen : ((layC l i).take (layE l i) ++ bytesOf l[i] ++ (layC l i).drop (layE l (i + 1))).length = 4072 := by
    simp only [List.length_append, ht, hb, List.length_drop, hC]; omega
  rw [List.length_set, hlen]
  by_cases c1 : k = 2 * i + 1
  · rw [if_pos c1.symm, if_pos c1, if_pos (by omega)]
  rw [if_neg (fun h => c1 h.symm), if_neg c1]
  by_cases c2 : k = 2 * i
  · rw [if_pos c2.symm, if_pos c2, if_pos (by omega)]
  rw [if_neg (fun h => c2 h.symm), if_neg c2]
  by_cases c3 : k < layE l i
  · rw [if_pos c3, List.append_assoc, List.getElem?_append_left (by omega), List.getElem?_take, if_pos c3]
  rw [if_neg c3]
  by_cases c4 : k < layE l (i + 1)
  · rw [if_pos c4, List.getElem?_append_left (by rw [List.length_append]; omega), List.getElem?_append_right (by omega), ht]
  · rw [if_neg c4, List.getElem?_append_right (by rw [List.length_append]; omega), List.getElem?_drop, List.length_append, ht, hb]
    congr 1
    omega
theorem layC_inv (l : List ByteArray) (hfit : layE l l.length ≤ 4072) : ∀ i, i ≤ l.length →
    (∀ j (hj : j < i), (layC l i)[2 * j]? = some ((layE l (j + 1) : Int) / 256 % 256) ∧ (layC l i)[2 * j + 1]? = some ((layE l (j + 1) : Int) % 256)) ∧
    (∀ j (hj : j < l.length), j < i → ∀ m, m < l[j].size → (layC l i)[layE l j + m]? = (bytesOf l[j])[m]?) ∧
    (∀ k, (layE l i ≤ k ∨ (2 * i ≤ k ∧ k < 2 * l.length)) → k < 4072 → (layC l i)[k]? = some 0) := by
  intro i
  induction i with
  | zero =>
    intro _
    refine ⟨fun j hj => by omega, fun j _ hj => by omega, fun k _ hk => ?_⟩
    rw [layC, List.getElem?_replicate, if_pos hk]
  | succ i ih =>
    intro hi
    obtain ⟨i1, i2, i3⟩ := ih (by omega)
    have e1 := layE_succ l i hi
    rw [gD l i hi] at e1
    have e3 : 2 * l.length ≤ layE l i := by unfold layE; omega
    refine ⟨fun j hj => ?_, fun j hjl hj m hm => ?_, fun k hk hk2 => ?_⟩
    · rw [layC_at l hfit i hi, layC_at l hfit i hi]
      by_cases c : j = i
      · subst c
        rw [if_neg (by omega), if_pos rfl, if_pos rfl]
        exact ⟨rfl, rfl⟩
      · rw [if_neg (by omega), if_neg (by omega), if_pos (by omega), if_neg (by omega), if_neg (by omega), if_pos (by omega)]
        exact i1 j (by omega)
    · have e4 : 2 * l.length ≤ layE l j := by unfold layE; omega
      rw [layC_at l hfit i hi, if_neg (by omega), if_neg (by omega)]
      by_cases c : j = i
      · subst c
        rw [if_neg (by omega), if_pos (by omega), show layE l j + m - layE l j = m by omega]
      · have e5 := layE_succ l j hjl
        rw [gD l j hjl] at e5
        have e6 : layE l (j + 1) ≤ layE l i := by
          have : ∀ d, layE l (j + 1) ≤ layE l (j + 1 + d) := by
            intro d
            induction d with
            | zero => exact Nat.le_refl _
            | succ d ihd =>
              by_cases hd : j + 1 + d < l.length
              · have := layE_succ l (j + 1 + d) hd
                rw [show j + 1 + (d + 1) = j + 1 + d + 1 by omega]
                omega
              · have : layE l (j + 1 + (d + 1)) = layE l (j + 1 + d) := by
                  unfold layE
                  rw [List.take_of_length_le (by omega), List.take_of_length_le (by omega)]
                omega
          have := this (i - (j + 1))
          rwa [show j + 1 + (i - (j + 1)) = i by omega] at this
        rw [if_pos (by omega)]
        exact i2 j hjl (by omega) m hm
    · rw [layC_at l hfit i hi, if_neg (by omega), if_neg (by omega)]
      by_cases c : k < layE l i
      · rw [if_pos c]
        exact i3 k (by omega) hk2
      · rw [if_neg c, if_neg (by omega)]
        exact i3 k (by omega) hk2
theorem layC_range (l : List ByteArray) : ∀ i, ∀ z ∈ layC l i, 0 ≤ z ∧ z < 256
  | 0 => fun z hz => by
    have := List.eq_of_mem_replicate hz
    omega
  | i + 1 => fun z hz => by
    simp only [layC] at hz
    rcases List.mem_or_eq_of_mem_set hz with hz | hz
    · rcases List.mem_or_eq_of_mem_set hz with hz | hz
      · rcases List.mem_append.1 hz with hz | hz
        · rcases List.mem_append.1 hz with hz | hz
          · exact layC_range l i z (List.mem_of_mem_take hz)
          · exact bytesOf_range _ z hz
        · exact layC_range l i z (List.mem_of_mem_drop hz)
      · omega
    · omega
theorem layS_bytes (l : List ByteArray) : bytesOf (layS l) = layC l l.length := bytes_str _ (layC_range l _)
theorem layS_size (l : List ByteArray) (hfit : layE l l.length ≤ 4072) : (layS l).size = 4072 := by
  rw [← bytesOf_length, layS_bytes, layC_len l hfit _ (Nat.le_refl _)]
theorem layS_b (l : List ByteArray) (k : Nat) (z : Int) (h : (layC l l.length)[k]? = some z) : b_ (layS l) k = z.toNat := by
  unfold b_
  rw [layS_bytes, List.getD_eq_getElem?_getD, h]
  rfl
theorem lay_slot (l : List ByteArray) (hfit : layE l l.length ≤ 4072) (i : Nat) (hi : i < l.length) : slot (layS l) i = layE l (i + 1) := by
  obtain ⟨i1, _, _⟩ := layC_inv l hfit l.length (Nat.le_refl _)
  obtain ⟨h1, h2⟩ := i1 i hi
  have e2 := layE_le l (i + 1) hi
  unfold slot
  rw [layS_b l _ _ h1, layS_b l _ _ h2]
  omega
theorem lay_cell (l : List ByteArray) (hfit : layE l l.length ≤ 4072) (i : Nat) (hi : i < l.length) : (layS l).extract (layE l i) (layE l (i + 1)) = l[i] := by
  obtain ⟨_, i2, _⟩ := layC_inv l hfit l.length (Nat.le_refl _)
  have e1 := layE_succ l i hi
  rw [gD l i hi] at e1
  refine bytes_inj (List.ext_getElem? fun m => ?_)
  rw [bx_bytes, layS_bytes, List.getElem?_drop, List.getElem?_take]
  by_cases c : m < l[i].size
  · rw [if_pos (by omega)]
    exact i2 i hi hi m c
  · rw [if_neg (by omega), List.getElem?_eq_none (by rw [bytesOf_length]; omega)]
theorem lay_read (l : List ByteArray) (hfit : layE l l.length ≤ 4072) : ∀ d i, i + d = l.length → readL (layS l) d i (layE l i) = some (l.drop i, layE l l.length)
  | 0, i, h => by
    rw [readL, show i = l.length by omega, List.drop_of_length_le (Nat.le_refl _)]
  | d + 1, i, h => by
    have hi : i < l.length := by omega
    have e1 := layE_succ l i hi
    have e2 := layE_le l (i + 1) hi
    rw [readL, lay_slot l hfit i hi, if_neg (by omega), lay_read l hfit d (i + 1) (by omega), Option.map_some, lay_cell l hfit i hi, List.drop_eq_getElem_cons hi]
theorem lay_readv (l : List ByteArray) (hfit : layE l l.length ≤ 4072) : readv (l.length : Int) (layS l) = (l, none) := by
  obtain ⟨_, _, i3⟩ := layC_inv l hfit l.length (Nat.le_refl _)
  have h2 : 2 * l.length ≤ 4072 := by unfold layE at hfit; omega
  have hr := lay_read l hfit l.length 0 (by omega)
  have e0 : layE l 0 = 2 * l.length := by simp [layE]
  unfold readv
  rw [if_neg (by rw [layS_size l hfit]; omega), Int.toNat_natCast, ← e0, hr]
  simp only [List.drop_zero]
  refine if_pos fun k h1 hk => ?_
  rw [layS_b l k 0 (i3 k (.inl h1) hk)]
  rfl
/-! what is read is laid out as the same body -/
theorem read_facts (s : ByteArray) : ∀ (d i at_ : Nat) (l : List ByteArray) (t : Nat), s.size = 4072 → at_ ≤ 4072 → readL s d i at_ = some (l, t) →
    l.length = d ∧ t = at_ + (l.map (·.size)).sum ∧ t ≤ 4072 ∧ (∀ j, j < d → slot s (i + j) = at_ + ((l.take (j + 1)).map (·.size)).sum) ∧
      (∀ j (hj : j < l.length), ∀ m, m < l[j].size → (bytesOf s)[at_ + ((l.take j).map (·.size)).sum + m]? = (bytesOf l[j])[m]?)
  | 0, i, at_, l, t, hs, ha, h => by
    simp only [readL, Option.some.injEq, Prod.mk.injEq] at h
    obtain ⟨rfl, rfl⟩ := h
    exact ⟨rfl, by simp, ha, fun j hj => by omega, fun j hj => by simp at hj⟩
  | d + 1, i, at_, l, t, hs, ha, h => by
    unfold readL at h
    by_cases c : slot s i < at_ ∨ 4072 < slot s i
    · rw [if_pos c] at h; cases h
    · rw [if_neg c] at h
      obtain ⟨x, hx, he⟩ := Option.map_eq_some_iff.1 h
      simp only [Prod.mk.injEq] at he
      obtain ⟨rfl, rfl⟩ := he
      obtain ⟨f1, f2, f3, f4, f5⟩ := read_facts s d (i + 1) (slot s i) x.1 x.2 hs (by omega) hx
      have hsz : (s.extract at_ (slot s i)).size = slot s i - at_ := by
        rw [← bytesOf_length, bx_bytes, List.length_drop, List.length_take, bytesOf_length, hs]
        omega
      refine ⟨by simp [f1], ?_, f3, fun j hj => ?_, fun j hj m hm => ?_⟩
      · simp only [List.map_cons, List.sum_cons, hsz]
        omega
      · cases j with
        | zero => simp [hsz]; omega
        | succ j =>
          have := f4 j (by omega)
          rw [show i + 1 + j = i + (j + 1) by omega] at this
          rw [this, List.take_succ_cons, List.map_cons, List.sum_cons, hsz]
          omega
      · cases j with
        | zero =>
          simp only [List.getElem_cons_zero] at hm ⊢
          rw [hsz] at hm
          rw [bx_bytes, List.getElem?_drop, List.getElem?_take, if_pos (by omega)]
          simp
        | succ j =>
          simp only [List.getElem_cons_succ] at hm ⊢
          rw [← f5 j (by simpa using hj) m hm, List.take_succ_cons, List.map_cons, List.sum_cons, hsz]
          congr 1
          omega
theorem find_cell (l : List ByteArray) (k : Nat) (h1 : layE l 0 ≤ k) : ∀ i, i ≤ l.length → k < layE l i → ∃ j, j < i ∧ layE l j ≤ k ∧ k < layE l (j + 1)
  | 0, _, h => by omega
  | i + 1, hi, h => by
    by_cases c : layE l i ≤ k
    · exact ⟨i, by omega, c, h⟩
    · obtain ⟨j, h2, h3⟩ := find_cell l k h1 i (by omega) (by omega)
      exact ⟨j, by omega, h3⟩
theorem readv_lay (count : Int) (s : ByteArray) (l : List ByteArray) (h : readv count s = (l, none)) : (l.length : Int) = count ∧ layE l l.length ≤ 4072 ∧ layS l = s := by
  unfold readv at h
  by_cases c : count < 0 ∨ 2036 < count ∨ s.size ≠ 4072
  · rw [if_pos c] at h
    simp at h
  rw [if_neg c] at h
  obtain ⟨n, rfl⟩ := Int.eq_ofNat_of_zero_le (show 0 ≤ count by omega)
  have hs : s.size = 4072 := by omega
  rw [Int.toNat_natCast] at h
  rcases hq : readL s n 0 (2 * n) with _ | ⟨l', t⟩
  · rw [hq] at h
    simp at h
  rw [hq] at h
  simp only at h
  by_cases hcl : clean s t
  · rw [if_pos hcl] at h
    simp only [Prod.mk.injEq, and_true] at h
    subst h
    obtain ⟨f1, f2, f3, f4, f5⟩ := read_facts s n 0 (2 * n) l' t hs (by omega) hq
    have hE : ∀ j, layE l' j = 2 * n + ((l'.take j).map (·.size)).sum := fun j => by unfold layE; rw [f1]
    have hT : layE l' l'.length = t := by rw [hE, List.take_of_length_le (Nat.le_refl _)]; exact f2.symm
    have hfit : layE l' l'.length ≤ 4072 := by omega
    refine ⟨by omega, hfit, bytes_inj ?_⟩
    rw [layS_bytes]
    obtain ⟨i1, i2, i3⟩ := layC_inv l' hfit l'.length (Nat.le_refl _)
    refine List.ext_getElem? fun k => ?_
    by_cases hk : k < 4072
    · rw [b_get s k (by omega)]
      by_cases c1 : k < 2 * n
      · have hj : k / 2 < l'.length := by omega
        obtain ⟨h1, h2⟩ := i1 (k / 2) hj
        have h3 := f4 (k / 2) (by omega)
        rw [Nat.zero_add, ← hE] at h3
        have hb1 := b_lt s (2 * (k / 2))
        have hb2 := b_lt s (2 * (k / 2) + 1)
        unfold slot at h3
        by_cases par : k = 2 * (k / 2)
        · rw [par, h1]
          congr 1
          omega
        · have par : k = 2 * (k / 2) + 1 := by omega
          rw [← par] at h2 hb2 h3
          rw [h2]
          congr 1
          omega
      · by_cases c2 : t ≤ k
        · rw [i3 k (.inl (by omega)) hk, hcl k c2 hk]
          rfl
        · obtain ⟨j, hj1, hj2, hj3⟩ := find_cell l' k (by rw [hE]; simp; omega) l'.length (Nat.le_refl _) (by omega)
          have e1 := layE_succ l' j hj1
          rw [gD l' j hj1] at e1
          have a1 := i2 j hj1 hj1 (k - layE l' j) (by omega)
          have a2 := f5 j hj1 (k - layE l' j) (by omega)
          rw [← hE, show layE l' j + (k - layE l' j) = k by omega, b_get s k (by omega)] at a2
          rw [show layE l' j + (k - layE l' j) = k by omega] at a1
          rw [a1, a2]
    · rw [List.getElem?_eq_none (by rw [layC_len l' hfit _ (Nat.le_refl _)]; omega), List.getElem?_eq_none (by rw [bytesOf_length]; omega)]
  · rw [if_neg hcl] at h
    simp at h
theorem readv_bad (count : Int) (s : ByteArray) : readv count s = ([], some 2) ∨ ∃ l, readv count s = (l, none) := by
  unfold readv
  split
  · exact .inl rfl
  · split
    · exact .inl rfl
    · split
      · exact .inr ⟨_, rfl⟩
      · exact .inl rfl

/-! the document's Lay -/
def hd (l : List ByteArray) : Nat → List Int
  | 0 => []
  | i + 1 => hd l i ++ [((layE l (i + 1) : Int) / 256) % 256, (layE l (i + 1) : Int) % 256]
def dt (l : List ByteArray) : Nat → List Int
  | 0 => []
  | i + 1 => dt l i ++ bytesOf (l.getD i ⟨#[]⟩)
theorem hd_len (l : List ByteArray) : ∀ i, (hd l i).length = 2 * i
  | 0 => rfl
  | i + 1 => by rw [hd, List.length_append, hd_len l i]; simp; omega
theorem dt_len (l : List ByteArray) : ∀ i, i ≤ l.length → (dt l i).length = layE l i - 2 * l.length
  | 0, _ => by simp [dt, layE]
  | i + 1, h => by
    have ih := dt_len l i (by omega)
    have e := layE_succ l i h
    have e3 : 2 * l.length ≤ layE l i := by unfold layE; omega
    rw [dt, List.length_append, ih, bytesOf_length]
    omega
theorem hd_at (l : List ByteArray) : ∀ i j, j < i → (hd l i)[2 * j]? = some ((layE l (j + 1) : Int) / 256 % 256) ∧ (hd l i)[2 * j + 1]? = some ((layE l (j + 1) : Int) % 256)
  | 0, j, h => by omega
  | i + 1, j, h => by
    have hl := hd_len l i
    rw [hd]
    by_cases c : j = i
    · subst c
      rw [List.getElem?_append_right (by omega), List.getElem?_append_right (by omega), hl, show 2 * j - 2 * j = 0 by omega, show 2 * j + 1 - 2 * j = 1 by omega]
      exact ⟨rfl, rfl⟩
    · rw [List.getElem?_append_left (by omega), List.getElem?_append_left (by omega)]
      exact hd_at l i j (by omega)
theorem dt_at (l : List ByteArray) : ∀ i, i ≤ l.length → ∀ j (hj : j < l.length), j < i → ∀ m, m < l[j].size → (dt l i)[layE l j - 2 * l.length + m]? = (bytesOf l[j])[m]?
  | 0, _, j, _, h, _, _ => by omega
  | i + 1, hi, j, hj, h, m, hm => by
    have hl := dt_len l i (by omega)
    have e := layE_succ l j hj
    rw [gD l j hj] at e
    have e3 : 2 * l.length ≤ layE l j := by unfold layE; omega
    rw [dt, gD l i hi]
    by_cases c : j = i
    · subst c
      rw [List.getElem?_append_right (by omega), hl]
      congr 1
      omega
    · have ih := dt_at l i (by omega) j hj (by omega) m hm
      have hlt : layE l j - 2 * l.length + m < (dt l i).length := by
        rcases Nat.lt_or_ge (layE l j - 2 * l.length + m) (dt l i).length with h1 | h1
        · exact h1
        · rw [List.getElem?_eq_none h1] at ih
          rw [List.getElem?_eq_getElem (by rw [bytesOf_length]; exact hm)] at ih
          cases ih
      rw [List.getElem?_append_left hlt]
      exact ih
theorem layC_eq (l : List ByteArray) (hfit : layE l l.length ≤ 4072) : layC l l.length = hd l l.length ++ dt l l.length ++ List.replicate (4072 - layE l l.length) 0 := by
  obtain ⟨i1, i2, i3⟩ := layC_inv l hfit l.length (Nat.le_refl _)
  have h1 := hd_len l l.length
  have h2 := dt_len l l.length (Nat.le_refl _)
  have e3 : 2 * l.length ≤ layE l l.length := by unfold layE; omega
  refine List.ext_getElem? fun k => ?_
  by_cases c1 : k < 2 * l.length
  · have hj : k / 2 < l.length := by omega
    obtain ⟨a1, a2⟩ := i1 (k / 2) hj
    obtain ⟨b1, b2⟩ := hd_at l l.length (k / 2) hj
    rw [List.append_assoc, List.getElem?_append_left (by omega)]
    by_cases par : k = 2 * (k / 2)
    · rw [← par] at a1 b1
      rw [a1, b1]
    · have par : k = 2 * (k / 2) + 1 := by omega
      rw [← par] at a2 b2
      rw [a2, b2]
  · by_cases c2 : k < layE l l.length
    · obtain ⟨j, hj1, hj2, hj3⟩ := find_cell l k (by simp [layE]; omega) l.length (Nat.le_refl _) c2
      have e1 := layE_succ l j hj1
      rw [gD l j hj1] at e1
      have e4 : 2 * l.length ≤ layE l j := by unfold layE; omega
      have a1 := i2 j hj1 hj1 (k - layE l j) (by omega)
      have a2 := dt_at l l.length (Nat.le_refl _) j hj1 hj1 (k - layE l j) (by omega)
      rw [show layE l j + (k - layE l j) = k by omega] at a1
      rw [show layE l j - 2 * l.length + (k - layE l j) = k - 2 * l.length by omega] at a2
      rw [List.append_assoc, List.getElem?_append_right (by omega), h1, List.getElem?_append_left (by omega), a1, a2]
    · rw [List.getElem?_append_right (by rw [List.length_append]; omega), List.length_append, h1, h2]
      by_cases c3 : k < 4072
      · rw [i3 k (.inl (by omega)) c3, List.getElem?_replicate, if_pos (by omega)]
      · rw [List.getElem?_eq_none (by rw [layC_len l hfit _ (Nat.le_refl _)]; omega), List.getElem?_eq_none (by rw [List.length_replicate]; omega)]
def totR (l : List ByteArray) (i : Nat) : Nat := 2 * i + ((l.take i).map (·.size)).sum
theorem totR_succ (l : List ByteArray) (i : Nat) (h : i < l.length) : totR l (i + 1) = totR l i + 2 + l[i].size := by
  unfold totR
  rw [List.take_succ_eq_append_getElem h, List.map_append, List.sum_append]
  simp
  omega
theorem size_w2 (s a : Int) : wrap64 (wrap64 (wrap64 s + 2) + a) = wrap64 (s + 2 + a) := by unfold wrap64; omega
theorem enc2 (E : Nat) (h : E ≤ 4072) : (wrap64 (Int.tdiv (E : Int) 256)) % 256 = (E : Int) / 256 % 256 ∧ (Int.tmod (E : Int) 256) % 256 = (E : Int) % 256 := by
  rw [Int.tdiv_eq_ediv_of_nonneg (by omega), Int.tmod_eq_emod_of_nonneg (by omega), w64 (by omega) (by omega)]
  exact ⟨rfl, by omega⟩
theorem add_w (a b c : Nat) (h : a + b = c) (hc : c ≤ 4072) : wrap64 ((a : Int) + (b : Int)) = (c : Int) := by rw [w64 (by omega) (by omega)]; omega
theorem inc_w (i : Nat) (h : i ≤ 8796093022208) : wrap64 ((i : Int) + 1) = ((i + 1 : Nat) : Int) := w64 (by omega) (by omega)
theorem RSizeC_ev (l : List ByteArray) (hl : l.length ≤ 8796093022208) : Ev (fun k => copseref6_Size.f k l) (wrap64 ((layE l l.length : Nat) : Int)) := by
  have h0 := Ev.loop (σ := fun i k => copseref6_Size.l0 k l (wrap64 ((totR l i : Nat) : Int)) (i : Int)) (r := wrap64 ((layE l l.length : Nat) : Int)) (n := l.length) (fun i hi k => by
    have e := totR_succ l i hi
    have c1 : (i : Int) < (l.length : Int) := by omega
    have c2 : (0 : Int) ≤ (i : Int) := by omega
    have e2 : ((totR l (i + 1) : Nat) : Int) = ((totR l i : Nat) : Int) + 2 + (l[i].size : Int) := by omega
    have w1 := inc_w i (by omega)
    simp only [copseref6_Size.l0]
    rw [if_pos c1, if_pos c2, rdO l i hi, size_w2, w1, e2]) (Ev.done fun k => by
    simp only [copseref6_Size.l0]
    rw [if_neg (by omega)]
    rfl) 0 (by omega)
  rw [show totR l 0 = 0 by simp [totR], show wrap64 ((0 : Nat) : Int) = 0 by simp [wrap64]] at h0
  exact h0
theorem RLay_ev (l : List ByteArray) (hl : l.length ≤ 8796093022208) (hfit : layE l l.length ≤ 4072) : Ev (fun k => copseref6_Lay.f k l) (layS l, 0) := by
  have hS := RSizeC_ev l hl
  rw [w64 (by omega) (by omega)] at hS
  have hn : l.length ≤ 2036 := by unfold layE at hfit; omega
  have e0 : layE l 0 = 2 * l.length := by simp [layE]
  unfold copseref6_Lay.f
  refine Ev.bind hS (Ev.congr (f := fun k => copseref6_Lay.l0 k l ((layE l l.length : Nat) : Int) ([] : List Int) ((layE l 0 : Nat) : Int) 0) (fun k => ?_) ?_)
  · rw [if_neg (by omega), w64 (by omega) (by omega), e0]
    rfl
  have l2 := Ev.loop (σ := fun i k => copseref6_Lay.l2 k (hd l l.length ++ dt l l.length ++ List.replicate i 0) ((layE l l.length + i : Nat) : Int)) (r := (layS l, 0)) (n := 4072 - layE l l.length) (fun i hi k => by
    have h1 := hd_len l l.length
    have h2 := dt_len l l.length (Nat.le_refl _)
    have hlen : (hd l l.length ++ dt l l.length ++ List.replicate i 0).length < 140737488355328 := by
      rw [List.length_append, List.length_append, List.length_replicate]; omega
    have c1 : ((layE l l.length + i : Nat) : Int) < 4072 := by omega
    have w1 : wrap64 (((layE l l.length + i : Nat) : Int) + 1) = ((layE l l.length + (i + 1) : Nat) : Int) := inc_w (layE l l.length + i) (by omega)
    simp only [copseref6_Lay.l2]
    rw [if_pos c1, if_pos hlen, w1, List.append_assoc _ _ [0], ← List.replicate_succ']) (Ev.done fun k => by
    simp only [copseref6_Lay.l2]
    rw [if_neg (by omega), ← layC_eq l hfit]
    rfl) 0 (by omega)
  have l1 := Ev.loop (σ := fun i k => copseref6_Lay.l1 k l ((layE l l.length : Nat) : Int) (hd l l.length ++ dt l i) (i : Int)) (r := (layS l, 0)) (n := l.length) (fun i hi k => by
    have h1 := hd_len l l.length
    have h2 := dt_len l i (by omega)
    have e1 := layE_succ l i hi
    have e2 := layE_le l (i + 1) hi
    rw [gD l i hi] at e1
    have hlen : (hd l l.length ++ dt l i).length + l[i].size < 140737488355328 := by rw [List.length_append]; omega
    have c1 : (i : Int) < (l.length : Int) := by omega
    have c2 : (0 : Int) ≤ (i : Int) := by omega
    have w1 := inc_w i (by omega)
    simp only [copseref6_Lay.l1]
    rw [if_pos c1, if_pos c2, rdO l i hi, if_pos hlen, w1, List.append_assoc, show dt l i ++ bytesOf l[i] = dt l (i + 1) by rw [dt, gD l i hi]]) (Ev.step (fun k => by
    simp only [copseref6_Lay.l1]
    rw [if_neg (by omega)]) (by simpa using l2)) 0 (by omega)
  have l0 := Ev.loop (σ := fun i k => copseref6_Lay.l0 k l ((layE l l.length : Nat) : Int) (hd l i) ((layE l i : Nat) : Int) (i : Int)) (r := (layS l, 0)) (n := l.length) (fun i hi k => by
    have h1 := hd_len l i
    have e1 := layE_succ l i hi
    have e2 := layE_le l (i + 1) hi
    rw [gD l i hi] at e1
    have c1 : (i : Int) < (l.length : Int) := by omega
    have c2 : (0 : Int) ≤ (i : Int) := by omega
    have c3 : ∀ a b : Int, (hd l i).length + [a, b].length < 140737488355328 := fun a b => by rw [h1]; simp; omega
    have d := enc2 (layE l (i + 1)) (by omega)
    have w1 := inc_w i (by omega)
    have w3 := add_w (layE l i) l[i].size (layE l (i + 1)) (by omega) (by omega)
    simp only [copseref6_Lay.l0]
    rw [if_pos c1, if_pos c2, rdO l i hi, w3, d.1, d.2, Option.bind_some, if_pos (c3 _ _), w1]
    rfl) (Ev.step (fun k => by
    simp only [copseref6_Lay.l0]
    rw [if_neg (by omega)]) (by simpa [dt] using l1)) 0 (by omega)
  exact l0

/-! the cells of pairs -/
theorem bytes_append (s t : ByteArray) : bytesOf (s ++ t) = bytesOf s ++ bytesOf t := by
  unfold bytesOf
  rw [ByteArray.data_append, Array.toList_append, List.map_append]
theorem size_append (s t : ByteArray) : (s ++ t).size = s.size + t.size := by rw [← bytesOf_length, bytes_append, List.length_append, bytesOf_length, bytesOf_length]
def head1 (k : Nat) : List Int := [(k : Int)]
def head2 (v : Nat) : List Int := [(v : Int) / 256, (v : Int) % 256]
def cellB (p : S58) : ByteArray := strOfNums (head1 p.f0.size) ++ strOfNums (head2 p.f1.size) ++ p.f0 ++ p.f1
theorem str_len (l : List Int) : (strOfNums l).size = l.length := by simp [strOfNums, ByteArray.size]
theorem cellB_size (p : S58) : (cellB p).size = 3 + p.f0.size + p.f1.size := by
  unfold cellB
  rw [size_append, size_append, size_append, str_len, str_len]
  simp [head1, head2]
def encs_ (l : List S58) : List ByteArray := l.map cellB
theorem encs_len (l : List S58) : (encs_ l).length = l.length := List.length_map _
theorem encs_E (l : List S58) : ((layE (encs_ l) (encs_ l).length : Nat) : Int) = sizeT l := by
  have : ∀ m : List S58, (2 * m.length : Int) + ((((encs_ m).map (·.size)).sum : Nat) : Int) = sizeT m := by
    intro m
    induction m with
    | nil => rfl
    | cons p m ih =>
      have : sizeT (p :: m) = cost p + sizeT m := by simp [sizeT]
      rw [this]
      simp only [encs_, List.map_cons, List.sum_cons, List.length_cons, cellB_size] at ih ⊢
      unfold cost
      omega
  rw [← this l]
  unfold layE
  rw [List.take_of_length_le (Nat.le_refl _), encs_len]
  omega
theorem sizeT_bd (l : List S58) (h : ∀ p ∈ l, okp p) : 0 ≤ sizeT l ∧ sizeT l ≤ 960 * (l.length : Int) := by
  induction l with
  | nil => simp [sizeT]
  | cons p l ih =>
    have h1 := h p (by simp)
    have h2 := ih (fun q hq => h q (by simp [hq]))
    have : sizeT (p :: l) = cost p + sizeT l := by simp [sizeT]
    rw [this]
    obtain ⟨a, b, c⟩ := h1
    unfold cost
    simp only [List.length_cons]
    omega
theorem chk_ok {l : List S58} {root : Bool} (h : chk l root = none) : (∀ p ∈ l, okp p) ∧ Rises l ∧ ¬ wrap64 (sizeT l) > 4072 ∧ l.length ≠ 0 := by
  unfold chk at h
  split at h
  · rename_i h1
    split at h
    · rename_i h2
      split at h
      · cases h
      · rename_i h3
        split at h
        · cases h
        · rename_i h4
          exact ⟨h1, h2, h3, h4⟩
    · cases h
  · cases h
theorem chk_fit {l : List S58} {root : Bool} (hl : l.length * 32 ≤ 140737488351232) (h : chk l root = none) : layE (encs_ l) (encs_ l).length ≤ 4072 := by
  obtain ⟨h1, h2, h3, h4⟩ := chk_ok h
  have hb := sizeT_bd l h1
  have hE := encs_E l
  rw [w64 (by omega) (by omega)] at h3
  omega

/-! the document's cells of pairs -/
theorem RPut1_ev (n : Nat) (h : n ≤ 255) : Ev (fun k => copseref1_Put.f k (n : Int) 1) (head1 n, 0) := by
  have h1 : (n : Int) / 256 = 0 := by omega
  have h2 : (n : Int) % 256 = n := by omega
  refine ⟨12, fun k hk => ?_⟩
  obtain ⟨j, rfl⟩ : ∃ j, k = j + 12 := ⟨k - 12, by omega⟩
  simp [copseref1_Put.f, copseref1_Put.j0, copseref1_Put.l0, wrap64, IntKind.wrap, IntKind.bits, IntKind.signed, shr, head1, h1, h2]
theorem RPut2_ev (n : Nat) (h : n ≤ 700) : Ev (fun k => copseref1_Put.f k (n : Int) 2) (head2 n, 0) := by
  have h1 : (n : Int) / 65536 = 0 := by omega
  have h2 : (n : Int) / 256 % 256 = n / 256 := by omega
  refine ⟨12, fun k hk => ?_⟩
  obtain ⟨j, rfl⟩ : ∃ j, k = j + 12 := ⟨k - 12, by omega⟩
  simp [copseref1_Put.f, copseref1_Put.j0, copseref1_Put.l0, wrap64, IntKind.wrap, IntKind.bits, IntKind.signed, shr, head2, h1, h2]
theorem strOf_append (a b : List Int) : strOfNums (a ++ b) = strOfNums a ++ strOfNums b := by
  apply ByteArray.ext
  rw [ByteArray.data_append]
  simp [strOfNums]
theorem u64_small {n : Int} (h0 : 0 ≤ n) (h1 : n < 9223372036854775808) : IntKind.u64.wrap n = n := by
  simp [IntKind.wrap, IntKind.bits, IntKind.signed]
  omega
theorem RCell_ev (p : S58) (h : okp p) : Ev (fun k => copseref7_cell.f k p.f0 p.f1) (cellB p) := by
  obtain ⟨h1, h2, h3⟩ := h
  have hb1 : Ev (fun k => copseref1_Bytes.f k (p.f0.size : Int) 1) (head1 p.f0.size) := by
    unfold copseref1_Bytes.f
    rw [u64_small (by omega) (by omega)]
    exact Ev.bind (RPut1_ev _ h2) (Ev.const fun k => rfl)
  have hb2 : Ev (fun k => copseref1_Bytes.f k (p.f1.size : Int) 2) (head2 p.f1.size) := by
    unfold copseref1_Bytes.f
    rw [u64_small (by omega) (by omega)]
    exact Ev.bind (RPut2_ev _ h3) (Ev.const fun k => rfl)
  unfold copseref7_cell.f cellB
  refine Ev.bind hb1 (Ev.bind hb2 (Ev.const fun k => ?_))
  have s1 : (strOfNums (head1 p.f0.size ++ head2 p.f1.size)).size = 3 := by rw [str_len]; rfl
  rw [if_pos (by simp [head1, head2]), Option.bind_some, if_pos (by rw [s1]; omega), if_pos (by rw [size_append, s1]; omega), strOf_append]

noncomputable def rencv (l : List S58) : ByteArray × Int := if chk l true = none then (layS (encs_ l), 0) else ((⟨#[]⟩ : ByteArray), rnum (chk l true))
theorem chk_pos (l : List S58) (root : Bool) : chk l root ≠ none → rnum (chk l root) ≠ 0 := by
  unfold chk rnum
  split
  · split
    · split
      · simp
      · split
        · simp
        · split
          · simp
          · split <;> simp
    · simp
  · simp
set_option maxHeartbeats 4000000 in
theorem REncode_ev (l : List S58) (hl : l.length * 32 ≤ 140737488351232) : Ev (fun k => copseref7_Encode.f k l) (rencv l) := by
  unfold copseref7_Encode.f
  refine Ev.bind (RCheck_ev l true hl) ?_
  unfold rencv
  by_cases hc : chk l true = none
  · have hfit := chk_fit hl hc
    obtain ⟨hok, _⟩ := chk_ok hc
    rw [if_pos hc]
    refine Ev.congr (fun k => if_pos (by rw [hc]; rfl)) ?_
    have hL := RLay_ev (encs_ l) (by rw [encs_len]; omega) hfit
    obtain ⟨B, hB⟩ : ∃ B, B = layS (encs_ l) := ⟨_, rfl⟩
    rw [← hB] at hL ⊢
    clear hB hfit hc
    have := Ev.loop' (σ := fun i k => copseref7_Encode.l0 k l (encs_ (l.take i)) (i : Int)) (r := (B, 0)) (n := l.length) (fun i hi hn => by
      have hlen : (encs_ (l.take i)).length < 8796093022208 := by rw [encs_len, List.length_take]; omega
      have c1 : (i : Int) < (l.length : Int) := by omega
      have c2 : (0 : Int) ≤ (i : Int) := by omega
      have hs : encs_ (l.take i) ++ [cellB l[i]] = encs_ (l.take (i + 1)) := by rw [← take_snoc l i hi]; unfold encs_; rw [List.map_append]; rfl
      have w1 : wrap64 ((i : Int) + 1) = ((i + 1 : Nat) : Int) := w64 (by omega) (by omega)
      have hcell := RCell_ev _ (hok _ (List.getElem_mem hi))
      have hn2 : Ev (fun k => (fun k t204 => copseref7_Encode.l0 k l (encs_ (l.take i) ++ [t204]) ((i + 1 : Nat) : Int)) k (cellB l[i])) (B, 0) := Ev.congr (fun k => by simp only [hs]) hn
      refine Ev.step (fun k => ?_) (Ev.bind (f := fun k t204 => copseref7_Encode.l0 k l (encs_ (l.take i) ++ [t204]) ((i + 1 : Nat) : Int)) hcell hn2)
      simp only [copseref7_Encode.l0, if_pos hlen, w1]
      rw [if_pos c1, if_pos c2, rdp l i hi]) (by
      rw [List.take_of_length_le (Nat.le_refl _)]
      refine Ev.step (f := fun k => (copseref6_Lay.f k (encs_ l)).bind fun bt208 => (some (bt208.1, bt208.2))) (fun k => ?_) (Ev.bind hL (Ev.const fun k => rfl))
      simp only [copseref7_Encode.l0]
      rw [if_neg (by omega)]) 0 (by omega)
    exact this
  · rw [if_neg hc]
    exact Ev.const fun k => if_neg (chk_pos l true hc)

/-! the document's Read -/
noncomputable def rreadv (count : Int) (s : ByteArray) : List ByteArray × Int := ((readv count s).1, (readv count s).2.getD 0)
theorem sum_slot (x y : Nat) (hx : x < 256) (hy : y < 256) : wrap64 ((wrap64 ((wrap64 (x : Int)) * 256)) + (wrap64 (y : Int))) = ((x * 256 + y : Nat) : Int) := by
  rw [w64 (n := (x : Int)) (by omega) (by omega), w64 (n := (x : Int) * 256) (by omega) (by omega), w64 (n := (y : Int)) (by omega) (by omega), w64 (by omega) (by omega)]
  omega
theorem rclean_ev (s : ByteArray) (hs : s.size = 4072) (l : List ByteArray) (t : Nat) (r : List ByteArray × Int) (hc : clean s t → r = (l, 0)) (hn : ¬ clean s t → r = ([], 2)) (ht : t ≤ 4072) :
    Ev (fun k => copseref6_Read.l1 k s l (t : Int)) r := by
  by_cases h : clean s t
  · rw [hc h]
    have := Ev.loop (σ := fun i k => copseref6_Read.l1 k s l ((t + i : Nat) : Int)) (r := (l, 0)) (n := 4072 - t) (fun i hi k => by
      have hb : b_ s (t + i) = 0 := h (t + i) (by omega) (by omega)
      simp only [copseref6_Read.l1]
      rw [if_pos (by omega), if_pos (by omega), if_pos (by omega), bt_b s (t + i) (by omega), hb, if_pos (by rfl), w64 (by omega) (by omega)]
      rfl) (Ev.done fun k => by
      simp only [copseref6_Read.l1]
      rw [if_neg (by omega)]) 0 (by omega)
    exact this
  · rw [hn h]
    have : ∃ k, t ≤ k ∧ k < 4072 ∧ b_ s k ≠ 0 := by
      refine Classical.byContradiction fun hne => h fun k h1 h2 => Classical.byContradiction fun hb => hne ⟨k, h1, h2, hb⟩
    obtain ⟨k0, h1, h2, h3⟩ := this
    have hbad : ∀ k, k < 4072 → b_ s k ≠ 0 → Ev (fun f => copseref6_Read.l1 f s l (k : Int)) ([], 2) := fun k hk hb => Ev.done fun f => by
      simp only [copseref6_Read.l1]
      rw [if_pos (by omega), if_pos (by omega), if_pos (by omega), bt_b s k (by omega), if_neg (by omega)]
    have := Ev.loop' (σ := fun i k => copseref6_Read.l1 k s l ((t + i : Nat) : Int)) (r := (([], 2) : List ByteArray × Int)) (n := k0 - t) (fun i hi hnx => by
      by_cases hb : b_ s (t + i) = 0
      · refine Ev.step (fun k => ?_) hnx
        simp only [copseref6_Read.l1]
        rw [if_pos (by omega), if_pos (by omega), if_pos (by omega), bt_b s (t + i) (by omega), hb, if_pos (by rfl), w64 (by omega) (by omega)]
        rfl
      · exact hbad (t + i) (by omega) hb) (by
      have := hbad k0 h2 h3
      rwa [show t + (k0 - t) = k0 by omega]) 0 (by omega)
    exact this
theorem rread_loop (s : ByteArray) (hs : s.size = 4072) (n : Nat) (hn : n ≤ 2036) : ∀ (d i at_ : Nat) (acc : List ByteArray) (r : List ByteArray × Int), i + d = n → at_ ≤ 4072 → acc.length ≤ i →
    (match readL s d i at_ with | none => r = ([], 2) | some (l, t) => (clean s t → r = (acc ++ l, 0)) ∧ (¬ clean s t → r = ([], 2))) →
    Ev (fun k => copseref6_Read.l0 k (n : Int) s acc (at_ : Int) (i : Int)) r := by
  intro d
  induction d with
  | zero =>
    intro i at_ acc r hi ha hl hr
    simp only [readL] at hr
    rw [List.append_nil] at hr
    refine Ev.step (fun k => ?_) (rclean_ev s hs acc at_ r hr.1 hr.2 ha)
    simp only [copseref6_Read.l0]
    rw [if_neg (by omega)]
  | succ d ih =>
    intro i at_ acc r hi ha hl hr
    have hb1 := b_lt s (2 * i)
    have hb2 := b_lt s (2 * i + 1)
    have w1 : wrap64 (2 * (i : Int)) = ((2 * i : Nat) : Int) := by rw [w64 (by omega) (by omega)]; omega
    have w2 : wrap64 (((2 * i : Nat) : Int) + 1) = ((2 * i + 1 : Nat) : Int) := by rw [w64 (by omega) (by omega)]; omega
    have hs1 : wrap64 ((wrap64 ((wrap64 (bt s ((2 * i : Nat) : Int))) * 256)) + (wrap64 (bt s ((2 * i + 1 : Nat) : Int)))) = ((slot s i : Nat) : Int) := by
      rw [bt_b s (2 * i) (by omega), bt_b s (2 * i + 1) (by omega), sum_slot _ _ hb1 hb2]
      rfl
    unfold readL at hr
    have c1 : (i : Int) < (n : Int) := by omega
    have c2 : (0 : Int) ≤ ((2 * i : Nat) : Int) := by omega
    have c3 : ((2 * i : Nat) : Int) < (s.size : Int) := by omega
    have c4 : (0 : Int) ≤ ((2 * i + 1 : Nat) : Int) := by omega
    have c5 : ((2 * i + 1 : Nat) : Int) < (s.size : Int) := by omega
    by_cases c : slot s i < at_ ∨ 4072 < slot s i
    · rw [if_pos c] at hr
      simp only at hr
      rw [hr]
      refine Ev.done fun k => ?_
      simp only [copseref6_Read.l0, w1, w2, hs1]
      rw [if_pos c1, if_pos c2, if_pos c3, if_pos c4, if_pos c5]
      by_cases e : slot s i < at_
      · rw [if_pos (by omega)]
      · rw [if_neg (by omega), if_pos (by omega)]
    · rw [if_neg c] at hr
      have hstep : ∀ k, copseref6_Read.l0 (k + 1) (n : Int) s acc (at_ : Int) (i : Int) = copseref6_Read.l0 k (n : Int) s (acc ++ [s.extract at_ (slot s i)]) ((slot s i : Nat) : Int) ((i + 1 : Nat) : Int) := fun k => by
        have d1 : ¬ ((slot s i : Nat) : Int) < (at_ : Int) := by omega
        have d2 : ¬ ((slot s i : Nat) : Int) > 4072 := by omega
        have d3 : (0 : Int) ≤ (at_ : Int) := by omega
        have d4 : (at_ : Int) ≤ ((slot s i : Nat) : Int) := by omega
        have d5 : ((slot s i : Nat) : Int) ≤ (s.size : Int) := by omega
        have d6 : acc.length < 8796093022208 := by omega
        have w3 : wrap64 ((i : Int) + 1) = ((i + 1 : Nat) : Int) := w64 (by omega) (by omega)
        simp only [copseref6_Read.l0, w1, w2, hs1, w3]
        rw [if_pos c1, if_pos c2, if_pos c3, if_pos c4, if_pos c5, if_neg d1, if_neg d2, if_pos d3, if_pos d4, if_pos d5, if_pos d6, Int.toNat_natCast, Int.toNat_natCast]
      refine Ev.step hstep (ih (i + 1) (slot s i) _ r (by omega) (by omega) (by simp; omega) ?_)
      rcases hq : readL s d (i + 1) (slot s i) with _ | ⟨l, t⟩
      · rw [hq] at hr
        simpa using hr
      · rw [hq] at hr
        simp only [Option.map_some] at hr
        show (clean s t → r = (acc ++ [s.extract at_ (slot s i)] ++ l, 0)) ∧ (¬clean s t → r = ([], 2))
        rw [List.append_assoc]
        exact hr
theorem RRead_ev (count : Int) (s : ByteArray) : Ev (fun k => copseref6_Read.f k count s) (rreadv count s) := by
  have hbad : Ev (fun k => copseref6_Read.j0 k count s true) ([], 2) := Ev.done fun k => by simp [copseref6_Read.j0]
  unfold rreadv readv
  by_cases c1 : count < 0
  · rw [if_pos (.inl c1)]
    exact Ev.congr (fun k => by unfold copseref6_Read.f; rw [if_pos c1]) hbad
  by_cases c2 : 2036 < count
  · rw [if_pos (.inr (.inl c2))]
    exact Ev.congr (fun k => by unfold copseref6_Read.f; rw [if_neg c1, if_pos c2]) hbad
  by_cases c3 : s.size = 4072
  · rw [if_neg (by omega)]
    obtain ⟨n, rfl⟩ := Int.eq_ofNat_of_zero_le (show 0 ≤ count by omega)
    have hw : wrap64 (2 * (n : Int)) = ((2 * n : Nat) : Int) := by rw [w64 (by omega) (by omega)]; omega
    refine Ev.congr (f := fun k => copseref6_Read.j0 k (n : Int) s false) (fun k => by
      unfold copseref6_Read.f
      rw [if_neg c1, if_neg c2, c3]
      rfl) (Ev.step (f := fun k => copseref6_Read.l0 k (n : Int) s ([] : List ByteArray) ((2 * n : Nat) : Int) 0) (fun k => by
      simp only [copseref6_Read.j0, hw]
      rw [if_neg (by simp)]) ?_)
    refine rread_loop s c3 n (by omega) n 0 (2 * n) [] _ (by omega) (by omega) (by simp) ?_
    rw [Int.toNat_natCast]
    rcases hq : readL s n 0 (2 * n) with _ | ⟨l, t⟩
    · rfl
    · exact ⟨fun h => by simp [h], fun h => by simp [h]⟩
  · rw [if_pos (.inr (.inr c3))]
    exact Ev.congr (fun k => by
      unfold copseref6_Read.f
      rw [if_neg c1, if_neg c2, show ((s.size : Int) != 4072) = true by rw [bne_iff_ne]; omega]) hbad

/-! a cell's pair -/
def pk (c : ByteArray) : Nat := b_ c 0
def pv (c : ByteArray) : Nat := b_ c 1 * 256 + b_ c 2
def pcut (c : ByteArray) : S58 := ⟨c.extract 3 (3 + pk c), c.extract (3 + pk c) c.size⟩
def pairok (c : ByteArray) : Prop := 3 ≤ c.size ∧ c.size = 3 + pk c + pv c
def pairokb (c : ByteArray) : Bool := decide (3 ≤ c.size) && decide (c.size = 3 + pk c + pv c)
theorem pairokb_iff (c : ByteArray) : pairokb c = true ↔ pairok c := by unfold pairokb pairok; rw [Bool.and_eq_true, decide_eq_true_eq, decide_eq_true_eq]
def nopair : S58 := ⟨(⟨#[]⟩ : ByteArray), (⟨#[]⟩ : ByteArray)⟩
theorem pk_lt (c : ByteArray) : pk c < 256 := b_lt c 0
theorem pv_lt (c : ByteArray) : pv c < 65536 := by
  have h1 := b_lt c 1
  have h2 := b_lt c 2
  unfold pv
  omega
theorem pk_w0 (a : Nat) (h0 : a < 256) : wrap64 (3 + wrap64 (a : Int)) = ((3 + a : Nat) : Int) := by
  rw [w64 (n := (a : Int)) (by omega) (by omega), w64 (by omega) (by omega)]
  omega
theorem pv_w0 (a b : Nat) (h0 : a < 256) (h1 : b < 65536) : wrap64 (((3 + a : Nat) : Int) + ((b : Nat) : Int)) = ((3 + a + b : Nat) : Int) := by
  rw [w64 (by omega) (by omega)]
  omega
theorem pair_conds (n a b : Nat) (h3 : 3 ≤ n) : (0 : Int) < (n : Int) ∧ (1 : Int) < (n : Int) ∧ (2 : Int) < (n : Int) ∧ ¬ (n : Int) < 3 ∧ (3 : Int) ≤ ((3 + a : Nat) : Int) ∧ (0 : Int) ≤ ((3 + a : Nat) : Int) ∧ (n = 3 + a + b → (n : Int) = ((3 + a + b : Nat) : Int) ∧ ((3 + a : Nat) : Int) ≤ (n : Int)) ∧ (n ≠ 3 + a + b → ¬ (n : Int) = ((3 + a + b : Nat) : Int)) ∧ (n < 3 + a → (n : Int) < ((3 + a : Nat) : Int)) ∧ (¬ n < 3 + a → ¬ (n : Int) < ((3 + a : Nat) : Int) ∧ ((3 + a : Nat) : Int) ≤ (n : Int)) := by omega
theorem Pair_eq (c : ByteArray) : leaf_pair.f c = some (if pairokb c = true then ((pcut c).f0, (pcut c).f1, true) else (nopair.f0, nopair.f1, false)) := by
  unfold leaf_pair.f
  by_cases c1 : c.size < 3
  · rw [if_pos (by omega), if_neg (fun h => absurd ((pairokb_iff c).1 h).1 (by omega))]
    rfl
  · obtain ⟨d1, d2, d3, d0, d4, d5, d6, d7, _, _⟩ := pair_conds c.size (pk c) (pv c) (by omega)
    have t0 : bt c 0 = (pk c : Int) := bt_b c 0 (by omega)
    have t1 : bt c 1 = (b_ c 1 : Int) := bt_b c 1 (by omega)
    have t2 : bt c 2 = (b_ c 2 : Int) := bt_b c 2 (by omega)
    have hs : Go.bits .or .i64 (wrap64 ((wrap64 (b_ c 1 : Int)) * 256)) (wrap64 (b_ c 2 : Int)) = ((pv c : Nat) : Int) := or_slot (b_ c 1) (b_ c 2) (b_lt c 1) (b_lt c 2)
    rw [if_neg d0, if_pos d1, if_pos d2, if_pos d3, t0, t1, t2, hs, pk_w0 _ (pk_lt c), pv_w0 _ _ (pk_lt c) (pv_lt c)]
    by_cases e : c.size = 3 + pk c + pv c
    · rw [if_pos (d6 e).1, if_pos d4, if_pos (d6 e).2, if_pos d5, if_pos ((pairokb_iff c).2 ⟨Nat.le_of_not_lt c1, e⟩), Int.toNat_natCast]
      rfl
    · rw [if_neg (d7 e), if_neg (fun h => e ((pairokb_iff c).1 h).2)]
      rfl
/-! the cells of pairs that may be -/
theorem cellB_bytes (p : S58) (h1 : p.f0.size < 256) (h2 : p.f1.size < 65536) : bytesOf (cellB p) = [(p.f0.size : Int), (p.f1.size : Int) / 256, (p.f1.size : Int) % 256] ++ (bytesOf p.f0 ++ bytesOf p.f1) := by
  unfold cellB
  rw [bytes_append, bytes_append, bytes_append, bytes_str _ (by unfold head1; intro z hz; simp only [List.mem_singleton] at hz; omega), bytes_str _ (by unfold head2; intro z hz; simp only [List.mem_cons, List.not_mem_nil, or_false] at hz; omega)]
  simp [head1, head2]
theorem b_of (s : ByteArray) (k : Nat) (z : Int) (h : (bytesOf s)[k]? = some z) : b_ s k = z.toNat := by
  unfold b_
  rw [List.getD_eq_getElem?_getD, h]
  rfl
theorem cell_pk (p : S58) (h1 : p.f0.size < 256) (h2 : p.f1.size < 65536) : pk (cellB p) = p.f0.size := by
  unfold pk
  rw [b_of _ 0 (p.f0.size : Int) (by rw [cellB_bytes p h1 h2]; rfl)]
  omega
theorem cell_pv (p : S58) (h1 : p.f0.size < 256) (h2 : p.f1.size < 65536) : pv (cellB p) = p.f1.size := by
  unfold pv
  rw [b_of _ 1 ((p.f1.size : Int) / 256) (by rw [cellB_bytes p h1 h2]; rfl), b_of _ 2 ((p.f1.size : Int) % 256) (by rw [cellB_bytes p h1 h2]; rfl)]
  omega
theorem cell_ok (p : S58) (h1 : p.f0.size < 256) (h2 : p.f1.size < 65536) : pairok (cellB p) := by
  have hs := cellB_size p
  unfold pairok
  rw [cell_pk p h1 h2, cell_pv p h1 h2]
  omega
theorem pcut_cell (p : S58) (h1 : p.f0.size < 256) (h2 : p.f1.size < 65536) : pcut (cellB p) = p := by
  have hs := cellB_size p
  have hb := cellB_bytes p h1 h2
  have e0 : (cellB p).extract 3 (3 + p.f0.size) = p.f0 := bytes_inj (by
    rw [bx_bytes, hb]
    rw [show ([(p.f0.size : Int), (p.f1.size : Int) / 256, (p.f1.size : Int) % 256] ++ (bytesOf p.f0 ++ bytesOf p.f1)).take (3 + p.f0.size) = [(p.f0.size : Int), (p.f1.size : Int) / 256, (p.f1.size : Int) % 256] ++ bytesOf p.f0 by
      rw [List.take_append, List.take_of_length_le (by simp), List.take_append_of_le_length (by rw [bytesOf_length]; simp), List.take_of_length_le (by rw [bytesOf_length]; simp)]]
    rw [List.drop_append_of_le_length (by simp)]
    rfl)
  have e1 : (cellB p).extract (3 + p.f0.size) (cellB p).size = p.f1 := bytes_inj (by
    rw [bx_bytes, List.take_of_length_le (by rw [bytesOf_length]; exact Nat.le_refl _), hb, List.drop_append, List.drop_of_length_le (by simp), List.nil_append, List.drop_append, List.drop_of_length_le (by rw [bytesOf_length]; simp), List.nil_append, bytesOf_length]
    simp)
  unfold pcut
  rw [cell_pk p h1 h2, e0, e1]
theorem three_bytes (c : ByteArray) (h : 3 ≤ c.size) : (bytesOf c).take 3 = [(b_ c 0 : Int), (b_ c 1 : Int), (b_ c 2 : Int)] := by
  refine List.ext_getElem? fun k => ?_
  rw [List.getElem?_take]
  by_cases c3 : k < 3
  · rw [if_pos c3, b_get c k (by omega)]
    rcases (show k = 0 ∨ k = 1 ∨ k = 2 by omega) with rfl | rfl | rfl <;> rfl
  · rw [if_neg c3, List.getElem?_eq_none (by simp; omega)]
theorem pcut_size (c : ByteArray) (h : pairok c) : (pcut c).f0.size = pk c ∧ (pcut c).f1.size = pv c := by
  obtain ⟨h1, h2⟩ := h
  have hl := bytesOf_length c
  have e1 : (pcut c).f0.size = (bytesOf (c.extract 3 (3 + pk c))).length := (bytesOf_length _).symm
  have e2 : (pcut c).f1.size = (bytesOf (c.extract (3 + pk c) c.size)).length := (bytesOf_length _).symm
  rw [e1, e2, bx_bytes, bx_bytes, List.length_drop, List.length_take, List.length_drop, List.length_take, hl]
  omega
theorem cell_pcut (c : ByteArray) (h : pairok c) : cellB (pcut c) = c := by
  obtain ⟨h1, h2⟩ := pcut_size c h
  have hk := pk_lt c
  have hv := pv_lt c
  have hd : (pv c : Int) / 256 = (b_ c 1 : Int) ∧ (pv c : Int) % 256 = (b_ c 2 : Int) := by
    have a1 := b_lt c 1
    have a2 := b_lt c 2
    unfold pv
    omega
  obtain ⟨h3, h4⟩ := h
  have hl := bytesOf_length c
  refine bytes_inj ?_
  rw [cellB_bytes _ (by omega) (by omega), h1, h2, hd.1, hd.2]
  unfold pcut
  rw [bx_bytes, bx_bytes]
  rw [show [(pk c : Int), (b_ c 1 : Int), (b_ c 2 : Int)] = (bytesOf c).take 3 from (three_bytes c h3).symm, List.take_of_length_le (i := c.size) (by omega)]
  rw [← List.append_assoc, show (bytesOf c).take 3 ++ ((bytesOf c).take (3 + pk c)).drop 3 = (bytesOf c).take (3 + pk c) by
    have := List.take_append_drop 3 ((bytesOf c).take (3 + pk c))
    rwa [List.take_take, show min 3 (3 + pk c) = 3 by omega] at this]
  exact List.take_append_drop _ _
/-! what Decode answers -/
theorem readv_err (count : Int) (s : ByteArray) : ∀ l e, readv count s = (l, some e) → l = [] ∧ e = 2 := by
  intro l e h
  rcases readv_bad count s with hb | ⟨l', hb⟩ <;> rw [hb] at h <;> simp_all
open Classical in
noncomputable def decL (c : List ByteArray) : List S58 × Option Int := if (∀ x ∈ c, pairok x) ∧ chk (c.map pcut) true = none then (c.map pcut, none) else ([], some 2)
noncomputable def decv (count : Int) (s : ByteArray) : List S58 × Option Int := if (readv count s).2.isNone = true then decL (readv count s).1 else ([], some 2)
theorem map_snoc {α β : Type} (f : α → β) (l : List α) (i : Nat) (h : i < l.length) : (l.take i).map f ++ [f l[i]] = (l.take (i + 1)).map f := by
  rw [← take_snoc l i h, List.map_append]
  rfl
theorem dec_loop (c : List ByteArray) (hc : c.length ≤ 2036) : Ev (fun k => leaf_Decode.l0 k ([] : List S58) c (c.length : Int) 0) (decL c) := by
  have hstep : ∀ i (hi : i < c.length), pairok c[i] → ∀ k, leaf_Decode.l0 (k + 1) ((c.take i).map pcut) c (c.length : Int) (i : Int) = leaf_Decode.l0 k ((c.take (i + 1)).map pcut) c (c.length : Int) ((i + 1 : Nat) : Int) := fun i hi ho k => by
    have c1 : (i : Int) < (c.length : Int) := by omega
    have c2 : (0 : Int) ≤ (i : Int) := by omega
    have hlen : ((c.take i).map pcut).length < 4398046511104 := by rw [List.length_map, List.length_take]; omega
    have hw : wrap64 ((i : Int) + 1) = ((i + 1 : Nat) : Int) := w64 (by omega) (by omega)
    have hp : pairokb c[i] = true := (pairokb_iff _).2 ho
    simp only [leaf_Decode.l0]
    rw [if_pos c1, if_pos c2, if_pos c1, rdO c i hi, Pair_eq, Option.bind_some, if_pos hp, if_pos rfl, if_pos hlen, hw, ← map_snoc pcut c i hi]
  have hbad : ∀ i (hi : i < c.length), ¬ pairok c[i] → Ev (fun k => leaf_Decode.l0 k ((c.take i).map pcut) c (c.length : Int) (i : Int)) ([], some 2) := fun i hi ho => Ev.done fun k => by
    have c1 : (i : Int) < (c.length : Int) := by omega
    have c2 : (0 : Int) ≤ (i : Int) := by omega
    have hp : ¬ pairokb c[i] = true := fun h => ho ((pairokb_iff _).1 h)
    simp only [leaf_Decode.l0]
    rw [if_pos c1, if_pos c2, if_pos c1, rdO c i hi, Pair_eq, Option.bind_some, if_neg hp, if_neg (by simp)]
  unfold decL
  by_cases ha : ∀ x ∈ c, pairok x
  · refine Ev.loop (σ := fun i k => leaf_Decode.l0 k ((c.take i).map pcut) c (c.length : Int) (i : Int)) (n := c.length) (fun i hi k => hstep i hi (ha _ (List.getElem_mem hi)) k) ?_ 0 (by omega)
    rw [List.take_of_length_le (Nat.le_refl _)]
    have hC := Check_ev (c.map pcut) true (by rw [List.length_map]; omega)
    refine Ev.step (f := fun k => (leaf_Check.f k (c.map pcut) true).bind fun t135 => (if t135.isNone = true then (some (c.map pcut, none)) else (some (([] : List S58), some 2)))) (fun k => ?_) (Ev.bind hC (Ev.const fun k => ?_))
    · have c1 : ¬ (c.length : Int) < (c.length : Int) := by omega
      simp only [leaf_Decode.l0]
      rw [if_neg c1]
    · rcases hq : chk (c.map pcut) true with _ | q
      · rw [if_pos (by rfl), if_pos ⟨ha, rfl⟩]
      · rw [if_neg (by simp), if_neg (fun h => by simp at h)]
  · rw [if_neg (fun h => ha h.1)]
    obtain ⟨i0, hi0, hb⟩ : ∃ i, ∃ hi : i < c.length, ¬ pairok c[i] := by
      refine Classical.byContradiction fun hn => ha fun p hp => Classical.byContradiction fun hb => hn ?_
      obtain ⟨i, hi, rfl⟩ := List.mem_iff_getElem.1 hp
      exact ⟨i, hi, hb⟩
    refine Ev.loop' (σ := fun i k => leaf_Decode.l0 k ((c.take i).map pcut) c (c.length : Int) (i : Int)) (n := i0) (fun i hi hn => ?_) (hbad i0 hi0 hb) 0 (by omega)
    by_cases ho : pairok c[i]
    · exact Ev.step (fun k => hstep i (by omega) ho k) hn
    · exact hbad i (by omega) ho
theorem Decode_ev (count : Int) (s : ByteArray) : Ev (fun k => leaf_Decode.f k count s) (decv count s) := by
  unfold leaf_Decode.f decv
  refine Ev.bind (Read_ev count s) ?_
  rcases readv_bad count s with h | ⟨l, h⟩
  · rw [h]
    exact Ev.const fun k => by rw [if_neg (by simp), if_neg (by simp)]
  · obtain ⟨h1, h2, h3⟩ := readv_lay count s l h
    have h4 : 2 * l.length ≤ 4072 := by unfold layE at h2; omega
    rw [h]
    exact Ev.congr (fun k => if_pos (by rfl)) (dec_loop l (by omega))

/-! the document's Decode -/
def pairOfv (c : ByteArray) : S58 := if c.size < 3 ∨ c.size < 3 + pk c then nopair else pcut c
theorem PairOf_eq (c : ByteArray) : copseref7_pairOf.f c = some ((pairOfv c).f0, (pairOfv c).f1) := by
  unfold copseref7_pairOf.f pairOfv
  by_cases c1 : c.size < 3
  · rw [if_pos (by omega), if_pos (.inl c1)]
    rfl
  · obtain ⟨d1, d2, d3, d0, d4, d5, _, _, d6, d7⟩ := pair_conds c.size (pk c) (pv c) (by omega)
    have t0 : bt c 0 = (pk c : Int) := bt_b c 0 (by omega)
    rw [if_neg d0, if_pos d1, t0, pk_w0 _ (pk_lt c)]
    by_cases e : c.size < 3 + pk c
    · rw [if_pos (d6 e), if_pos (.inr e)]
      rfl
    · rw [if_neg (d7 e).1, if_pos d4, if_pos (d7 e).2, if_pos d5, if_neg (fun h => h.elim c1 e), Int.toNat_natCast]
      rfl
theorem pairOfv_ok (c : ByteArray) (h : pairok c) : pairOfv c = pcut c := by
  obtain ⟨h1, h2⟩ := h
  exact if_neg (by omega)
theorem nopair_bad : ¬ okp nopair := by unfold okp nopair; decide
theorem rpair_back (c : ByteArray) (ho : okp (pairOfv c)) (h : cellB (pairOfv c) = c) : pairok c ∧ pairOfv c = pcut c := by
  obtain ⟨o1, o2, o3⟩ := ho
  have := cell_ok (pairOfv c) (by omega) (by omega)
  rw [h] at this
  exact ⟨this, pairOfv_ok c this⟩
theorem lay_inj (l m : List ByteArray) (hl : layE l l.length ≤ 4072) (hm : layE m m.length ≤ 4072) (hn : l.length = m.length) (h : layS l = layS m) : l = m := by
  have h1 := lay_readv l hl
  have h2 := lay_readv m hm
  rw [hn, h, h2] at h1
  exact (Prod.mk.inj h1).1.symm
theorem map_at {α : Type} (f g : α → α) : ∀ c : List α, c.map f = c → ∀ x ∈ c, f x = x
  | [], _, x, hx => by cases hx
  | a :: c, h, x, hx => by
    simp only [List.map_cons, List.cons.injEq] at h
    rcases List.mem_cons.1 hx with rfl | hx
    · exact h.1
    · exact map_at f g c h.2 x hx
/-- The document's answer is the program's. -/
theorem rdec_eq (c : List ByteArray) (s : ByteArray) (hn : c.length ≤ 2036) (hfit : layE c c.length ≤ 4072) (hs : layS c = s) :
    (chk (c.map pairOfv) true = none ∧ layS (encs_ (c.map pairOfv)) = s) ↔ ((∀ x ∈ c, pairok x) ∧ chk (c.map pcut) true = none) := by
  constructor
  · rintro ⟨h1, h2⟩
    obtain ⟨hok, _⟩ := chk_ok h1
    have hf := chk_fit (by rw [List.length_map]; omega) h1
    have he := lay_inj (encs_ (c.map pairOfv)) c hf hfit (by rw [encs_len, List.length_map]) (h2.trans hs.symm)
    have he2 : c.map (fun x => cellB (pairOfv x)) = c := by
      unfold encs_ at he
      rw [List.map_map] at he
      exact he
    have hall : ∀ x ∈ c, pairok x ∧ pairOfv x = pcut x := fun x hx => rpair_back x (hok _ (List.mem_map_of_mem hx)) (map_at (fun x => cellB (pairOfv x)) id c he2 x hx)
    have hmap : c.map pairOfv = c.map pcut := List.map_congr_left fun x hx => (hall x hx).2
    exact ⟨fun x hx => (hall x hx).1, by rw [← hmap]; exact h1⟩
  · rintro ⟨h1, h2⟩
    have hmap : c.map pairOfv = c.map pcut := List.map_congr_left fun x hx => pairOfv_ok x (h1 x hx)
    rw [hmap]
    refine ⟨h2, ?_⟩
    have : encs_ (c.map pcut) = c := by
      unfold encs_
      rw [List.map_map]
      exact (List.map_congr_left (g := id) fun x hx => cell_pcut x (h1 x hx)).trans (List.map_id c)
    rw [this, hs]
noncomputable def rdecv (count : Int) (s : ByteArray) : List S58 × Int := ((decv count s).1, rnum (decv count s).2)
theorem RDecode_ev (count : Int) (s : ByteArray) : Ev (fun k => copseref7_Decode.f k count s) (rdecv count s) := by
  have hR := RRead_ev count s
  unfold rreadv at hR
  unfold copseref7_Decode.f rdecv decv
  refine Ev.bind hR ?_
  rcases readv_bad count s with h | ⟨c, h⟩
  · rw [h]
    exact Ev.const fun k => by rw [if_neg (by simp), if_neg (by simp)]; rfl
  · obtain ⟨h1, h2, h3⟩ := readv_lay count s c h
    have h4 : 2 * c.length ≤ 4072 := by unfold layE at h2; omega
    rw [h]
    refine Ev.congr (f := fun k => copseref7_Decode.l0 k s c ([] : List S58) 0) (fun k => if_pos (by rfl)) ?_
    rw [if_pos (by rfl)]
    have hE := REncode_ev (c.map pairOfv) (by rw [List.length_map]; omega)
    have hiff := rdec_eq c s (by omega) h2 h3
    have hmap : ((∀ x ∈ c, pairok x) ∧ chk (c.map pcut) true = none) → c.map pairOfv = c.map pcut := fun h => List.map_congr_left fun x hx => pairOfv_ok x (h.1 x hx)
    obtain ⟨L, hL⟩ : ∃ L, L = c.map pairOfv := ⟨_, rfl⟩
    rw [← hL] at hE hiff hmap
    refine Ev.loop (σ := fun i k => copseref7_Decode.l0 k s c ((c.take i).map pairOfv) (i : Int)) (n := c.length) (fun i hi k => ?_) ?_ 0 (by omega)
    · have c1 : (i : Int) < (c.length : Int) := by omega
      have c2 : (0 : Int) ≤ (i : Int) := by omega
      have hlen : ((c.take i).map pairOfv).length < 4398046511104 := by rw [List.length_map, List.length_take]; omega
      have hw : wrap64 ((i : Int) + 1) = ((i + 1 : Nat) : Int) := w64 (by omega) (by omega)
      simp only [copseref7_Decode.l0]
      rw [if_pos c1, if_pos c2, rdO c i hi, PairOf_eq, Option.bind_some, if_pos hlen, hw, ← map_snoc pairOfv c i hi]
    · rw [List.take_of_length_le (Nat.le_refl _), ← hL]
      refine Ev.step (f := fun k => (copseref7_Encode.f k L).bind fun bt200 => (if bt200.2 = 0 then (if bt200.1.toList = s.toList then (some (L, 0)) else (some (([] : List S58), 2))) else (some (([] : List S58), 2)))) (fun k => ?_) (Ev.bind hE (Ev.const fun k => ?_))
      · have c1 : ¬ (c.length : Int) < (c.length : Int) := by omega
        simp only [copseref7_Decode.l0]
        rw [if_neg c1]
      · unfold rencv decL
        by_cases q1 : chk L true = none
        · rw [if_pos q1, if_pos rfl]
          by_cases q2 : layS (encs_ L) = s
          · have hh := hiff.1 ⟨q1, q2⟩
            rw [if_pos (by rw [q2]), if_pos hh, hmap hh]
            rfl
          · have hh : ¬ ((∀ x ∈ c, pairok x) ∧ chk (c.map pcut) true = none) := fun h => q2 (hiff.2 h).2
            rw [if_neg (fun h => q2 (ba_inj h)), if_neg hh]
            rfl
        · have hh : ¬ ((∀ x ∈ c, pairok x) ∧ chk (c.map pcut) true = none) := fun h => q1 (hiff.2 h).1
          rw [if_neg q1, if_neg (chk_pos L true q1), if_neg hh]
          rfl

theorem dec_num (count : Int) (s : ByteArray) : copsekit_Num.f (decv count s).2 = some (rdecv count s).2 := by
  unfold rdecv decv decL rnum
  split
  · split <;> simp [copsekit_Num.f, en]
  · simp [copsekit_Num.f, en]
theorem dec_len (count : Int) (s : ByteArray) : (decv count s).1.length ≤ 2036 := by
  unfold decv decL
  rcases readv_bad count s with h | ⟨c, h⟩
  · rw [h]; simp
  · obtain ⟨h1, h2, h3⟩ := readv_lay count s c h
    have h4 : 2 * c.length ≤ 4072 := by unfold layE at h2; omega
    rw [h]
    split
    · split
      · simp; omega
      · simp
    · simp
theorem pure_side : ∀ (a0_0 : Int) (a0_1 : ByteArray), (Lit.int .i64 a0_0).wf = true → a0_1.size ≤ 140737488351232 → ∃ k, copselaw7_LeafDecodes.f k a0_0 a0_1 = some true := by
  intro c s _ _
  refine Ev.rounds (g := fun k => copselaw7_LeafDecodes.f k c s) ?_
  have hl := dec_len c s
  have hn := dec_num c s
  unfold copselaw7_LeafDecodes.f
  refine Ev.bind (Decode_ev c s) (Ev.bind (RDecode_ev c s) ?_)
  refine Ev.bind (SamePairs_ev _ (by omega)) (Ev.const fun k => ?_)
  rw [if_pos rfl, hn]
  simp
end Go.Proofs.YtdailhlghlledaaDoor.XLeafDecodes
