-- Printed for this claim by a program (wip/printx/reads.py) that builds on the kit's print. Not trusted: Lean checks it.
import Derived.Test.YtmjdkddpfcfepaaDoorXCellsReadsx0
import Derived.Test.YtmjdkddpfcfepaaDoorXCellsReadsx1
import Derived.Test.YtmjdkddpfcfepaaDoorXCellsReadsx2
import Derived.Test.YtmjdkddpfcfepaaDoorXCellsReadsx3
namespace Go.Proofs.YtmjdkddpfcfepaaDoor.XCellsReads
open Go.RowKit Go.Proofs.YtmjdkddpfcfepaaDoorW.PrintWords Go.Proofs.YtmjdkddpfcfepaaDoorW.PrintLast Go.Proofs.YtmjdkddpfcfepaaDoorW.PrintMore
attribute [local go_sem] max2_int min2_int max_two min_two max_three min_three max_four min_four   -- for this text's walks alone
set_option linter.unusedVariables false
set_option linter.unusedSimpArgs false

/-! rows of rows: an outer row of N slices, each a row of the call's own, no two in one block -/
structure RowsS (w0 wS W : World) (ga : Addr) (N : Nat) (V : Nat → Value) (Y : Nat → List ByteArray) : Prop where
  cell : ∀ i, i < N → W.cell? (ga.add i) = some (V i)
  far : ∀ i, i < N → (V i).ownBlock ≠ some ga.block
  row : ∀ i, i < N → Kd.R Kd.string 9 W w0.heap.size (fun _ => True) (V i) (Y i)
  apart : ∀ i j, i < N → j < N → i ≠ j → ∀ b, (V i).ownBlock = some b → (V j).ownBlock ≠ some b
  below : Below w0.heap.size w0 W
  size : wS.heap.size ≤ W.heap.size
  keep : ∀ b, b < wS.heap.size → (∀ i, i < N → (V i).ownBlock ≠ some b) → W.heap[b]? = wS.heap[b]?
theorem add_block (a : Addr) (n : Nat) : (a.add n).block = a.block := by unfold Addr.add; split <;> rfl
theorem RowsS.step {w0 wS W W' : World} {ga : Addr} {N : Nat} {V : Nat → Value} {Y : Nat → List ByteArray} (h : RowsS w0 wS W ga N V Y) (hb : Below W.heap.size W W') : RowsS w0 wS W' ga N V Y where
  cell := fun i hi => (hb.cell (World.block_lt_of_cell? W _ (h.cell i hi))).trans (h.cell i hi)
  far := h.far
  row := fun i hi => Kd.R_below (h.row i hi) hb
  apart := h.apart
  below := below_step h.below hb
  size := Nat.le_trans h.size hb.size
  keep := fun b hlt hne => (hb.block b (Nat.lt_of_lt_of_le hlt h.size)).trans (h.keep b hlt hne)
/-- A row of the call's own has been written (its own block alone, and new ones). -/
theorem RowsS.grown {w0 wS W W' : World} {ga : Addr} {N : Nat} {V : Nat → Value} {Y Y' : Nat → List ByteArray} (h : RowsS w0 wS W ga N V Y) {row : Option Nat} (hg : W.grownBy W' row) (hr : row ≠ some ga.block) (hB : Below w0.heap.size w0 W') (hk : ∀ b, row = some b → wS.heap.size ≤ b ∨ ∃ i, i < N ∧ (V i).ownBlock = some b)
    (hrow : ∀ i, i < N → (∃ b, row = some b ∧ (V i).ownBlock = some b) → Kd.R Kd.string 9 W' w0.heap.size (fun _ => True) (V i) (Y' i)) (hY : ∀ i, i < N → ¬ (∃ b, row = some b ∧ (V i).ownBlock = some b) → Y' i = Y i) : RowsS w0 wS W' ga N V Y' where
  cell := fun i hi => hg.cell (h.cell i hi) (by rw [add_block]; exact fun e => hr e.symm)
  far := h.far
  row := fun i hi => by
    by_cases c : ∃ b, row = some b ∧ (V i).ownBlock = some b
    · exact hrow i hi c
    · rw [hY i hi c]
      exact Kd.R_grown2 (h.row i hi) rfl hg (fun k hk e => c ⟨k, hk, e.symm⟩)
  apart := h.apart
  below := hB
  size := Nat.le_trans h.size hg.size
  keep := fun b hlt hne => (hg.block b (Nat.lt_of_lt_of_le hlt h.size) (fun e => by
    rcases hk b e.symm with h1 | ⟨i, hi, h2⟩
    · omega
    · exact hne i hi h2)).trans (h.keep b hlt hne)
/-- A store into row i. -/
theorem RowsS.put {w0 wS W : World} {ga : Addr} {N : Nat} {V : Nat → Value} {Y : Nat → List ByteArray} (h : RowsS w0 wS W ga N V Y) (i : Nat) (hi : i < N) {g n c : Nat} (hV : V i = .slice (some ⟨g, 0, none⟩) n c) (k : Int) (s : ByteArray) :
    RowsS w0 wS (W.setCell ⟨g, k.toNat, none⟩ (.string s)) ga N V (fun j => if j = i then (Y i).set k.toNat s else Y j) := by
  have hr := h.row i hi
  rw [hV] at hr
  have hb : (V i).ownBlock = some g := by rw [hV]; rfl
  have hp := Kd.R_putg hr k s
  refine h.grown (row := some g) hp.2 (fun e => h.far i hi (hb.trans e)) (below_set h.below (Kd.R_base hr g rfl)) (fun b e => .inr ⟨i, hi, by rw [hb]; exact e⟩) (fun j hj hc => ?_) (fun j hj hc => ?_)
  · obtain ⟨b, hb1, hb2⟩ := hc
    obtain rfl := Option.some.inj hb1
    by_cases e : j = i
    · subst e
      rw [if_pos rfl, hV]
      exact hp.1
    · exact absurd hb2 (h.apart i j hi hj (fun e2 => e e2.symm) g hb)
  · by_cases e : j = i
    · subst e
      exact absurd ⟨g, rfl, hb⟩ hc
    · rw [if_neg e]
/-- A row's own memory behind its end is written: the row stays. -/
theorem own_beyond {w : World} {base e n c g j : Nat} {xs : List Value} {u : Value} (h : w.ownsRow base e 1 (.slice (some ⟨g, 0, none⟩) n c) n xs) (hj : n ≤ j) : (w.setCell ⟨g, j, none⟩ u).ownsRow base e 1 (.slice (some ⟨g, 0, none⟩) n c) n xs := by
  obtain ⟨h1, h2⟩ := h
  refine ⟨h1, ?_⟩
  rcases h2 with ⟨h2, _⟩ | ⟨g', cap, cur, hv, hb, hg, hn, hc, hs, ht⟩
  · simp at h2
  · simp only [Value.slice.injEq, Option.some.injEq, Addr.mk.injEq, and_true, true_and] at hv
    obtain ⟨rfl, rfl⟩ := hv
    refine .inr ⟨g, c, cur.setIfInBounds j u, rfl, hb, ?_, hn, hc, by rw [Array.size_setIfInBounds]; exact hs, ?_⟩
    · have hlt := (Array.getElem?_eq_some_iff.1 hg).1
      simp only [World.setCell, Array.getElem?_modify, if_true, hg, Option.map_some]
      rfl
    · rw [Array.toList_setIfInBounds, Nat.mul_one, List.take_set_of_le hj]
      simpa using ht
/-- .. and the row that is one longer is there. -/
theorem own_longer {w : World} {base e n c g : Nat} {xs : List Value} {u : Value} (h : w.ownsRow base e 1 (.slice (some ⟨g, 0, none⟩) n c) n xs) (hj : n < c) : (w.setCell ⟨g, n, none⟩ u).ownsRow base e 1 (.slice (some ⟨g, 0, none⟩) (n + 1) c) (n + 1) (xs ++ [u]) := by
  obtain ⟨h1, h2⟩ := h
  refine ⟨by rw [List.length_append, h1]; simp, ?_⟩
  rcases h2 with ⟨h2, _⟩ | ⟨g', cap, cur, hv, hb, hg, hn, hc, hs, ht⟩
  · simp at h2
  · simp only [Value.slice.injEq, Option.some.injEq, Addr.mk.injEq, and_true, true_and] at hv
    obtain ⟨rfl, rfl⟩ := hv
    refine .inr ⟨g, c, cur.setIfInBounds n u, rfl, hb, ?_, hj, hc, by rw [Array.size_setIfInBounds]; exact hs, ?_⟩
    · simp only [World.setCell, Array.getElem?_modify, if_true, hg, Option.map_some]
      rfl
    · rw [Array.toList_setIfInBounds, Nat.mul_one]
      have hlen : n < cur.toList.length := by rw [Array.length_toList, hs]; omega
      have ht2 : cur.toList.take n = xs := by simpa using ht
      rw [List.take_succ_eq_append_getElem (by rw [List.length_set]; exact hlen), List.take_set_of_le (Nat.le_refl n), ht2, List.getElem_set_self]
/-- What is known of the slice that grows out of row i: it lies in that row's memory, behind it, or in memory of its own. -/
def MoreA (wS : World) (ga : Addr) (N : Nat) (V : Nat → Value) (i : Nat) (v : Value) (m : Nat) : Prop :=
  (∃ g n c, V i = .slice (some ⟨g, 0, none⟩) n c ∧ v = .slice (some ⟨g, 0, none⟩) m c ∧ n ≤ m) ∨ (∀ b, v.ownBlock = some b → b ≠ ga.block ∧ wS.heap.size ≤ b ∧ ∀ j, j < N → (V j).ownBlock ≠ some b)
theorem set_off {α : Type} (l : List α) (k : Nat) (x : α) (h : l.length ≤ k) : l.set k x = l := List.set_eq_of_length_le h
theorem more_step {P : Program} {ops : Array Oper} {rest : List Oper} {o : Oper} {a : Act} {Q : Exit → Act → World → Prop} (hgd : o.guard = none) (sO xO : Operand) (t : TypeId)
    (ho : o.op = .call { callee := .builtin .append, args := #[sO, xO], argTypes := #[t, t] }) (ht : P.underlying t = some (.slice 9))
    (hinfo : (P.info? 9).map (fun i => (i.zero, i.size, i.bytes)) = some (some (.string ⟨#[]⟩), 1, 16)) {w0 wS W : World} {ga : Addr} {N : Nat} {V : Nat → Value} {Y : Nat → List ByteArray} (h : RowsS w0 wS W ga N V Y) (i : Nat) (hi : i < N)
    (v : Value) (Z : List ByteArray) (s : ByteArray) (hv : Kd.R Kd.string 9 W w0.heap.size (fun _ => True) v Z) (hA : MoreA wS ga N V i v Z.length) (hs : a.eval sO = v) (H : Nat) (hx : a.eval xO = .slice (some ⟨H, 0, none⟩) 1 1) (hH : W.cell? ⟨H, 0, none⟩ = some (.string s))
    (hl : Z.length + 1 ≤ 8796093022208)
    (k : ∀ v' w', RowsS w0 wS w' ga N V Y → Kd.R Kd.string 9 w' w0.heap.size (fun _ => True) v' (Z ++ [s]) → MoreA wS ga N V i v' (Z ++ [s]).length → wpList P ops Q rest (a.put o.dst v') w') : wpList P ops Q (o :: rest) a W := by
  obtain ⟨i0, hi0, hzz⟩ := Option.map_eq_some_iff.1 hinfo
  simp only [Prod.mk.injEq] at hzz
  obtain ⟨hz0, hz1, hz2⟩ := hzz
  have hown := Kd.own_of_R hv
  have hgal : ga.block < W.heap.size := by
    have := World.block_lt_of_cell? W _ (h.cell i hi)
    rwa [add_block] at this
  have hlenE : (encs Value.string Z).length = Z.length := by simp [encs]
  have hc1 : ∀ j u, [Value.string s][j]? = some u → W.cell? ((⟨H, 0, none⟩ : Addr).add j) = some u := fun j u hj => by
    cases j with
    | zero =>
      simp only [List.getElem?_cons_zero, Option.some.injEq] at hj
      subst hj
      exact hH
    | succ j => simp at hj
  have hone : ∀ u ∈ [Value.string s], u.oneCell' = true := fun u hu => by
    simp only [List.mem_singleton] at hu
    subst hu
    rfl
  -- a new row
  have hgrow : ∀ v' w', w'.ownsRow W.heap.size 9 1 v' (Z.length + 1) (encs Value.string Z ++ [Value.string s]) → W.grownBy w' none → wpList P ops Q rest (a.put o.dst v') w' := fun v' w' hown' hg => by
    have he : encs Value.string Z ++ [Value.string s] = encs Value.string (Z ++ [s]) := by simp [encs]
    have hbl := below_size h.below
    have hR : Kd.R Kd.string 9 w' W.heap.size (fun _ => True) v' (Z ++ [s]) := Kd.R_of_own (h1 := fun _ => rfl) (by rw [he] at hown'; simpa using hown') (fun _ _ => trivial)
    refine k v' w' (h.grown (row := none) hg (by simp) ?_ (fun b e => by cases e) (fun j hj hc => ?_) (fun _ _ _ => rfl)) (Kd.R_lower hR hbl) (.inr fun b hb => ?_)
    · exact h.below.grown hg hbl (fun k hk => by cases hk)
    · obtain ⟨b, hb, _⟩ := hc
      cases hb
    · have hge := Kd.R_base hR b hb
      have hsz := h.size
      refine ⟨by omega, by omega, fun j hj e => ?_⟩
      have := Kd.R_lt (h.row j hj) b e
      omega
  have hbase := below_size h.below
  rcases hown.2 with ⟨hvn, h0⟩ | ⟨g, cap, cur, hve, hbg, hg, hnc, hcm, hcs, htake⟩
  · obtain rfl : Z = [] := List.length_eq_zero_iff.1 h0
    exact wpList_append_grows W hgd sO xO t ho 9 i0 (.string ⟨#[]⟩) 1 16 ht hi0 hz0 hz1 hz2 rfl (by omega) none 0 0 [] (by rw [hs, hvn]) (fun _ => ⟨rfl, rfl⟩) rfl (fun b hb => by cases hb) ⟨H, 0, none⟩ 1 1 [Value.string s] hx rfl hc1 hone (by omega) (by simp only [maxLen]; omega) (by omega)
      (fun v' w' h1 h2 => hgrow v' w' h1 h2)
  · subst hve
    refine wpList_append_arg W hgd sO xO t ho 9 i0 (.string ⟨#[]⟩) 1 16 ht hi0 hz0 hz1 hz2 rfl (by omega) g 0 Z.length cap (encs Value.string Z) hs (by rw [hlenE]; omega) (fun j u hj => ?_) ⟨H, 0, none⟩ 1 1 [Value.string s] hx rfl hc1 hone (fun hr j hj => ?_) (by simp only [maxLen]; omega) (by omega) (fun hr => ?_) (fun _ => hgrow)
    · have := hown.cells (g := g) rfl j u hj
      rw [add_plain] at this
      rw [Nat.zero_add]
      exact this
    · simp only [List.length_singleton] at hj
      obtain rfl : j = 0 := by omega
      rw [Nat.zero_add, Nat.mul_one, Nat.add_zero]
      refine ⟨?_, blk_frozen hg _⟩
      rw [blk_cell hg]
      rw [Array.getElem?_eq_getElem (by omega)]
      rfl
    · have hput := Kd.R_putg hv (Z.length : Int) s
      rw [Int.toNat_natCast, set_off Z _ _ (Nat.le_refl _)] at hput
      have hlong := own_longer (u := Value.string s) hown (by omega)
      have he : encs Value.string Z ++ [Value.string s] = encs Value.string (Z ++ [s]) := by simp [encs]
      rw [he] at hlong
      show wpList P ops Q rest (a.put o.dst (.slice (some ⟨g, 0, none⟩) (Z.length + 1) cap)) (W.setCell ⟨g, 0 + Z.length * 1, none⟩ (.string s))
      rw [Nat.zero_add, Nat.mul_one]
      have hne : g ≠ ga.block := by
        rcases hA with ⟨g', n, c, hV, hve, _⟩ | hA
        · simp only [Value.slice.injEq, Option.some.injEq, Addr.mk.injEq, and_true, true_and] at hve
          have := h.far i hi
          rw [hV] at this
          intro e
          exact this (by rw [← hve.1, e]; rfl)
        · exact (hA g rfl).1
      refine k _ _ (h.grown (row := some g) hput.2 (fun e => hne (Option.some.inj e)) (below_set h.below hbg) (fun b e => ?_) (fun j hj hc => ?_) (fun _ _ _ => rfl)) (Kd.R_of_own (h1 := fun _ => rfl) (by simpa using hlong) (fun _ _ => trivial)) ?_
      · obtain rfl := Option.some.inj e
        rcases hA with ⟨g', n, c, hV, hve, hn⟩ | hA
        · simp only [Value.slice.injEq, Option.some.injEq, Addr.mk.injEq, and_true, true_and] at hve
          exact .inr ⟨i, hi, by rw [hV, ← hve.1]; rfl⟩
        · exact .inl (hA g rfl).2.1
      · obtain ⟨b, hb1, hb2⟩ := hc
        obtain rfl := Option.some.inj hb1
        rcases hA with ⟨g', n, c, hV, hve, hn⟩ | hA
        · simp only [Value.slice.injEq, Option.some.injEq, Addr.mk.injEq, and_true, true_and] at hve
          obtain ⟨rfl, rfl⟩ := hve
          have hji : j = i := Classical.byContradiction fun e => h.apart i j hi hj (fun e2 => e e2.symm) g (by rw [hV]; rfl) hb2
          subst hji
          have hr := h.row j hj
          rw [hV] at hr ⊢
          have hnl := (Kd.R_reads' hr).1
          have hp := (Kd.R_putg hr (Z.length : Int) s).1
          rw [Int.toNat_natCast, set_off (Y j) _ _ (by omega)] at hp
          exact hp
        · exact absurd hb2 ((hA g rfl).2.2 j hj)
      · rcases hA with ⟨g', n, c, hV, hve, hn⟩ | hA
        · simp only [Value.slice.injEq, Option.some.injEq, Addr.mk.injEq, and_true, true_and] at hve
          obtain ⟨rfl, rfl⟩ := hve
          exact .inl ⟨g, n, cap, hV, by rw [List.length_append, List.length_singleton], by rw [List.length_append]; omega⟩
        · exact .inr fun b hb => hA b hb
theorem MoreA.start {w0 wS W : World} {ga : Addr} {N : Nat} {V : Nat → Value} {Y : Nat → List ByteArray} (h : RowsS w0 wS W ga N V Y) (i : Nat) (hi : i < N) : MoreA wS ga N V i (V i) (Y i).length := by
  obtain ⟨A, c, e⟩ := Kd.R_slice (h.row i hi)
  rcases A with _ | a
  · exact .inr fun b hb => by rw [e] at hb; simp [Value.ownBlock] at hb
  · obtain ⟨inner, ho⟩ := Kd.R_own (h.row i hi)
    rcases ho.2 with ⟨h1, h2⟩ | ⟨g, cap, cur, hv, _⟩
    · rw [h1] at e
      simp at e
    · exact .inl ⟨g, (Y i).length, cap, hv, hv, Nat.le_refl _⟩
def mkS (i : Nat) : ByteArray := strOfNums [109, (i : Int) % 256]
def copselaw6_lone.T7 : Bool × List (List Nat × List Nat) := (true, [([], []), ([], []), ([0, 1], [0, 1]), ([2], [2]), ([], []), ([], []), ([5], [5]), ([6], [6]), ([7], [7]), ([3, 4, 0, 1, 2, 3, 4, 5, 6, 7, 8], [3, 4]), ([9, 8, 0, 1, 2, 3, 4, 5, 6, 7, 8], [8, 9])])
def copselaw6_lone.B7 : List Nat := [0, 0, 3, 7, 0, 0, 32, 96, 224, 511, 1023]
theorem copselaw6_lone.tab7 : rtab .any (opsOf Tryd.f20 7) = copselaw6_lone.T7 := by kernel_rfl
theorem copselaw6_lone.bits7 : waitsOk copselaw6_lone.T7.2 copselaw6_lone.B7 = true := by kernel_rfl
def copselaw6_lone.T24 : Bool × List (List Nat × List Nat) := (true, [([], []), ([], []), ([0, 1], [0, 1]), ([2], [2]), ([], []), ([3, 4], [3, 4]), ([5], [5]), ([], []), ([7], [7]), ([8], [8]), ([9], [9]), ([6, 10], [6, 10])])
def copselaw6_lone.B24 : List Nat := [0, 0, 3, 7, 0, 31, 63, 0, 128, 384, 896, 2047]
theorem copselaw6_lone.tab24 : rtab .any (opsOf Tryd.f20 24) = copselaw6_lone.T24 := by kernel_rfl
theorem copselaw6_lone.bits24 : waitsOk copselaw6_lone.T24.2 copselaw6_lone.B24 = true := by kernel_rfl
theorem natlt_b {a b : Nat} (h : a < b) : decide ((a : Int) < (b : Int)) = true ∧ decide (a < b) = true := ⟨decide_eq_true (by omega), decide_eq_true h⟩
theorem natge_b {a b : Nat} (h : ¬ a < b) : decide ((a : Int) < (b : Int)) = false ∧ decide (a < b) = false := ⟨decide_eq_false (by omega), decide_eq_false h⟩
theorem wnat {a : Nat} (h : a ≤ 4611686018427387904) : wrap64 ((a : Int) + 1) = ((a + 1 : Nat) : Int) := by unfold wrap64; omega
set_option maxHeartbeats 16000000 in
set_option maxRecDepth 100000 in
theorem copselaw6_lone.calls (w0 w : World) (ga : Addr) (N cO : Nat) (V : Nat → Value) (Y : Nat → List ByteArray) (hR : RowsS w0 w w ga N V Y) (hN : N ≤ 1000) (hlen : ∀ i, i < N → (Y i).length ≤ 4096) :
    Calls Tryd.prog 20 #[.slice (some ga) N cO] w fun e w' => e = .returned (.bool true) ∧ ∃ Y1, RowsS w0 w w' ga N V Y1 := by
  have HR := Aside0.mk hR
  have HN := Aside0.mk hN
  have HL := Aside0.mk hlen
  clear hR hN hlen
  go_enter Tryd.func20, Tryd.ntmps20
  go_wp2
  go_loopg [3] (N + 1) (fun kq v3 w' => ∃ (i : Nat) (Y1 : Nat → List ByteArray), v3 = .int .i64 (i : Int) ∧ Aside0 (i + kq = N + 1 ∧ i ≤ N) ∧ Aside0 (RowsS w0 w w' ga N V Y1) ∧ Aside0 (∀ j, j < N → (Y1 j).length = (Y j).length) ∧ Aside0 (∀ j, j < i → ∀ q, q < (Y1 j).length → (Y1 j)[q]? = some (mkS j)))
  case atStart => exact ⟨0, Y, rfl, ⟨by omega, by omega⟩, HR, ⟨fun _ _ => rfl⟩, ⟨fun j hj => absurd hj (Nat.not_lt_zero _)⟩⟩
  case round =>
    obtain ⟨i, Y1, rfl, HA, HR1, HL1, HM1⟩ := hrel
    clear HR
    cases gk with
    | zero => exact absurd HA.out (by omega)
    | succ k1 =>
      by_cases c2 : i < N
      · obtain ⟨c2b, c2d⟩ := natlt_b c2
        go_wp2
        go_loopg [4] ((Y i).length + 1) (fun kq v4 w' => ∃ (m : Nat) (Y2 : Nat → List ByteArray), v4 = .int .i64 (m : Int) ∧ Aside0 (m + kq = (Y i).length + 1 ∧ m ≤ (Y i).length) ∧ Aside0 (RowsS w0 w w' ga N V Y2) ∧ Aside0 (∀ j, j < N → (Y2 j).length = (Y j).length) ∧ Aside0 (∀ j, j < i → ∀ q, q < (Y2 j).length → (Y2 j)[q]? = some (mkS j)) ∧ Aside0 (∀ q, q < m → (Y2 i)[q]? = some (mkS i)))
        case atStart => exact ⟨0, Y1, rfl, ⟨by omega, by omega⟩, HR1, HL1, HM1, ⟨fun q hq => absurd hq (Nat.not_lt_zero _)⟩⟩
        case round =>
          obtain ⟨m, Y2, rfl, HA2, HR2, HL2, HM2, HP2⟩ := hrel
          clear HR1 HL1 HM1
          cases gk with
          | zero => exact absurd HA2.out (by omega)
          | succ k2 =>
            have hcell := HR2.out.cell i c2
            obtain ⟨Ai, ci, ei⟩ := Kd.R_slice (HR2.out.row i c2)
            rw [ei] at hcell
            have EI := Aside0.mk ei
            clear ei
            have hpb := eq_true (Int.natCast_nonneg i : 0 ≤ (i : Int))
            have hqb := eq_true (show (i : Int) < (N : Int) by omega)
            by_cases c3 : m < (Y2 i).length
            · obtain ⟨c3b, c3d⟩ := natlt_b c3
              go_wp2
              have HH := Aside0.mk (HR2.out.step (below_drew (Below.refl _ _)))
              have hcell2 := (below_drew (Below.refl wr.heap.size wr)).cell (World.block_lt_of_cell? wr _ hcell) |>.trans hcell
              refine start_ (n := 11) (S := fun w' => w'.cell? (ga.add i) = some (.slice Ai (Y2 i).length ci)) (ds := [10]) #[false, false, false, false, false, false, false, false, false, false, false] (by kernel_rfl) rfl rfl hcell2 (fun hHeld => ?_); refine with_tabW copselaw6_lone.tab7 copselaw6_lone.bits7 (fun HT_ HW_ => ?_)
              clear hcell
              generalize wr.drew = w7 at HH hcell2 hHeld ⊢
              refine pure_ (i := 0) (N := some 26) (v := ?_) (a' := ?_) #[true, false, false, false, false, false, false, false, false, false, false] rfl rfl (any_of HT_.out (by kernel_rfl)) (fun _ _ _ h => h) (Or.inl ⟨by rfl, ?_⟩) ?_ ?_
              rotate_left
              · intro w'
                go_simp
                with_reducible rfl
              rotate_left
              · simp only [Act.put, List.setIfInBounds_toArray, List.set_cons_zero, List.set_cons_succ, i64_w, i32_w]
                rfl
              refine pure_ (i := 1) (N := some 27) (v := ?_) (a' := ?_) #[true, true, false, false, false, false, false, false, false, false, false] rfl rfl (any_of HT_.out (by kernel_rfl)) (fun _ _ _ h => h) (Or.inl ⟨by rfl, ?_⟩) ?_ ?_
              rotate_left
              · intro w'
                go_simp
                with_reducible rfl
              rotate_left
              · simp only [Act.put, List.setIfInBounds_toArray, List.set_cons_zero, List.set_cons_succ, i64_w, i32_w]
                rfl
              refine pure_ (i := 2) (N := some 28) (v := ?_) (a' := ?_) #[true, true, true, false, false, false, false, false, false, false, false] rfl rfl (any_of HT_.out (by kernel_rfl)) (fun _ _ _ h => h) (Or.inl ⟨by rfl, ?_⟩) ?_ ?_
              rotate_left
              · intro w'
                go_simp
                with_reducible rfl
              rotate_left
              · simp only [Act.put, List.setIfInBounds_toArray, List.set_cons_zero, List.set_cons_succ, i64_w, i32_w]
                rfl
              refine take_ (i := 3) (N := some 29) (v := ?_) (a' := ?_) #[true, true, true, true, false, false, false, false, false, false, false] rfl rfl (take_ofW HT_.out HW_.out (by kernel_rfl)) (fun _ _ _ h => h) (Or.inl ⟨by rfl, ?_⟩) hHeld ?_ ?_
              rotate_left
              · rintro w' s0
                go_simp
                with_reducible rfl
              rotate_left
              · simp only [Act.put, List.setIfInBounds_toArray, List.set_cons_zero, List.set_cons_succ, i64_w, i32_w]
                rfl
              refine pure_ (i := 4) (N := some 30) (v := ?_) (a' := ?_) #[true, true, true, true, true, false, false, false, false, false, false] rfl rfl (any_of HT_.out (by kernel_rfl)) (fun _ _ _ h => h) (Or.inl ⟨by rfl, ?_⟩) ?_ ?_
              rotate_left
              · intro w'
                go_simp
                with_reducible rfl
              rotate_left
              · simp only [Act.put, List.setIfInBounds_toArray, List.set_cons_zero, List.set_cons_succ, i64_w, i32_w]
                rfl
              refine pure_ (i := 5) (N := some 31) (v := ?_) (a' := ?_) #[true, true, true, true, true, true, false, false, false, false, false] rfl rfl (any_of HT_.out (by kernel_rfl)) (fun _ _ _ h => h) (Or.inl ⟨by rfl, ?_⟩) ?_ ?_
              rotate_left
              · intro w'
                go_simp
                with_reducible rfl
              rotate_left
              · simp only [Act.put, List.setIfInBounds_toArray, List.set_cons_zero, List.set_cons_succ, i64_w, i32_w]
                rfl
              refine pure_ (i := 6) (N := some 32) (v := ?_) (a' := ?_) #[true, true, true, true, true, true, true, false, false, false, false] rfl rfl (any_of HT_.out (by kernel_rfl)) (fun _ _ _ h => h) (Or.inl ⟨by rfl, ?_⟩) ?_ ?_
              rotate_left
              · intro w'
                go_simp
                with_reducible rfl
              rotate_left
              · simp only [Act.put, List.setIfInBounds_toArray, List.set_cons_zero, List.set_cons_succ, i64_w, i32_w]
                rfl
              refine one_ (i := 7) (N := some 33) #[true, true, true, true, true, true, true, true, false, false, false] rfl rfl (one_of HT_.out (by kernel_rfl)) (by decide) (fun K hK => ?_)
              refine Kd.R_lit_step (Kd.int .u8) _ 5 ?hg (N := 33) ?hd (xs := ([109, (i : Int) % 256] : List Int)) (inner := [.int .u8 109, .int .u8 ((i : Int) % 256)]) (ok := fun _ => True) (okp := fun _ => True) ?hr ?hp (fun _ hk => hk) trivial (Below.refl _ _) (Nat.le_refl _) (by simp) ?_; (case hd => rfl); (case hg => rfl); (case hr => first | (go_simp; done) | (go_simp; rfl)); (case hp => exact (Reps.one (show Kd.M (Kd.int .u8) _ _ _ 109 [.int .u8 109] from rfl) (Reps.one (show Kd.M (Kd.int .u8) _ _ _ ((i : Int) % 256) [.int .u8 ((i : Int) % 256)] from rfl) (Reps.none _ _))))
              intro v116 w8 ho9 hb hg_ hnew_
              clear hg_ hnew_
              have HH8 := Aside0.mk (HH.out.step hb)
              have hcell8 := (hb.cell (World.block_lt_of_cell? w7 _ hcell2)).trans hcell2
              have HO117 := Aside0.mk ho9
              clear ho9 hb
              refine hK.out _ _ hcell8 (fun hHeld => ?_)
              clear hK K
              refine norm_ (a' := ?_) ?_ ?_
              rotate_left
              · show Act.put _ (some 33) _ = _
                simp only [Act.put, List.setIfInBounds_toArray, List.set_cons_zero, List.set_cons_succ, i64_w, i32_w]
                rfl
              obtain ⟨go5, co5, eo5, gb5, gl5, cl5, HG5⟩ := Kd.R_form (HH8.out.row i c2) (by omega)
              have EV5 := Aside0.mk eo5
              have E5 := Aside0.mk (EI.out.symm.trans eo5)
              obtain ⟨rfl, rfl⟩ : Ai = some ⟨go5, 0, none⟩ ∧ ci = co5 := by have e_ := E5.out; injection e_ with e1_ e2_ e3_; exact ⟨e1_, e3_⟩
              clear eo5 E5 HG5
              have hr8 := HH8.out.row i c2
              rw [EV5.out] at hr8
              obtain ⟨hx5_0, hf5_0⟩ := Kd.R_celln (⟨#[]⟩ : ByteArray) hr8 (m : Int) (Int.natCast_nonneg m) (by omega)
              clear hr8
              rw [Int.toNat_natCast] at hx5_0 hf5_0
              have p5 := eq_true (Int.natCast_nonneg m : 0 ≤ (m : Int))
              have q5 := eq_true (show (m : Int) < ((Y2 i).length : Int) by omega)
              have HP := Aside0.mk (HH8.out.put i c2 EV5.out (m : Int) (mkS i))
              simp only [Int.toNat_natCast] at HP
              refine one_ (i := 8) (N := some 34) #[true, true, true, true, true, true, true, true, true, false, false] rfl rfl (one_of HT_.out (by kernel_rfl)) (by decide) (fun K hK => ?_)
              have hcv10 := own_string (P := Tryd.prog) Tryd.underlying53 Tryd.underlying5 Tryd.underlying9 (Kd.own_of_R HO117.out)
              refine value_ (w1 := ?_) (v := ?_) (by rfl) rfl ?_ ?_
              rotate_left 2
              · go_simp
                constructor
                · rfl
                · rfl
              clear hcv10
              refine hK.out _ _ hcell8 (fun hHeld => ?_)
              clear hK K
              refine norm_ (a' := ?_) ?_ ?_
              rotate_left
              · show Act.put _ (some 34) _ = _
                simp only [Act.put, List.setIfInBounds_toArray, List.set_cons_zero, List.set_cons_succ, i64_w, i32_w]
                rfl
              refine pure_ (i := 9) (N := some 35) (v := ?_) (a' := ?_) #[true, true, true, true, true, true, true, true, true, true, false] rfl rfl (any_of HT_.out (by kernel_rfl)) (fun _ _ _ h => h) (Or.inl ⟨by rfl, ?_⟩) ?_ ?_
              rotate_left
              · intro w'
                go_simp
                with_reducible rfl
              rotate_left
              · simp only [Act.put, List.setIfInBounds_toArray, List.set_cons_zero, List.set_cons_succ, i64_w, i32_w]
                rfl
              refine last_ (i := 10) (N := none) #[true, true, true, true, true, true, true, true, true, true, true] rfl rfl (one_of HT_.out (by kernel_rfl)) (by decide) (fun K hK => ?_)
              refine skip_ (w1 := ?_) (by rfl) rfl ?_ ?_
              rotate_left
              · go_simp
                rfl
              refine hK.out _ _ ?_
              clear hK K
              refine done_ (done_of HT_.out (by kernel_rfl)) ?_
              try go_wp2
              go_roundg k2
              case measure => omega
              case rel =>
                refine ⟨m + 1, fun j => if j = i then (Y2 i).set m (mkS i) else Y2 j, (by have := HA2.out; have := HL.out i c2; first | rfl | rw [wnat (by omega)] | exact congrArg _ (wnat (by omega))), ⟨by have := HA2.out.1; omega, by have := HL2.out i c2; omega⟩, HP, ⟨fun j hj => ?_⟩, ⟨fun j hj q hq => ?_⟩, ⟨fun q hq => ?_⟩⟩
                · dsimp only; by_cases e : j = i
                  · subst e; rw [if_pos rfl, List.length_set]; exact HL2.out j hj
                  · rw [if_neg e]; exact HL2.out j hj
                · dsimp only at hq ⊢; rw [if_neg (by omega)] at hq ⊢; exact HM2.out j hj q hq
                · dsimp only; rw [if_pos rfl, List.getElem?_set]
                  by_cases e : m = q
                  · subst e; rw [if_pos rfl, if_pos c3]
                  · rw [if_neg e]; exact HP2.out q (by omega)
            · obtain ⟨c3b, c3d⟩ := natge_b c3
              go_wp2
              go_roundg k1
              case measure => omega
              case rel =>
                refine ⟨i + 1, Y2, (by have := HN.out; first | rfl | rw [wnat (by omega)] | exact congrArg _ (wnat (by omega))), ⟨by have := HA.out.1; omega, by omega⟩, HR2, HL2, ⟨fun j hj q hq => ?_⟩⟩
                by_cases e : j = i
                · subst e; exact HP2.out q (by have := HL2.out j c2; have := HA2.out; omega)
                · exact HM2.out j (by omega) q hq
      · obtain ⟨c2b, c2d⟩ := natge_b c2
        have HMa := Aside0.mk (show ∀ j, j < N → ∀ q, q < (Y1 j).length → (Y1 j)[q]? = some (mkS j) from fun j hj => HM1.out j (by omega))
        clear HM1
        go_wp2
        go_loopg [5, 6] (N + 1) (fun kq v5 v6 w' => ∃ (i : Nat) (gr : Int), v6 = .int .i64 (i : Int) ∧ v5 = .int .i64 gr ∧ Aside0 (i + kq = N + 1 ∧ i ≤ N) ∧ Aside0 (64 * (i : Int) ≤ gr ∧ gr ≤ 5000 * (i : Int)) ∧ Aside0 (RowsS w0 w w' ga N V Y1))
        case atStart => exact ⟨0, 0, rfl, rfl, ⟨by omega, by omega⟩, ⟨by omega, by omega⟩, HR1⟩
        case round =>
          obtain ⟨i, gr, rfl, rfl, HA, HG, HR2⟩ := hrel
          clear HR1 c2b c2d
          cases gk with
          | zero => exact absurd HA.out (by omega)
          | succ k1 =>
            by_cases c2 : i < N
            · obtain ⟨c2b, c2d⟩ := natlt_b c2
              have hcell := HR2.out.cell i c2
              obtain ⟨Ai, ci, ei⟩ := Kd.R_slice (HR2.out.row i c2)
              rw [ei] at hcell
              have hpb := eq_true (Int.natCast_nonneg i : 0 ≤ (i : Int))
              have hqb := eq_true (show (i : Int) < (N : Int) by omega)
              have hRi := HR2.out.row i c2
              have hAi : MoreA w ga N V i (V i) (Y1 i).length := MoreA.start HR2.out i c2
              rw [ei] at hRi
              have hAi2 : MoreA w ga N V i (.slice Ai (Y1 i).length ci) (Y1 i).length := by rw [← ei]; exact hAi
              have HRi := Aside0.mk hRi
              have HAi := Aside0.mk hAi2
              clear ei hRi hAi hAi2
              go_wp2
              go_loopg [7, 8] 65 (fun kq v7 v8 w' => ∃ (m : Nat) (Z : List ByteArray), v8 = .int .i64 (m : Int) ∧ Aside0 (m + kq = 65 ∧ m ≤ 64) ∧ Aside0 (RowsS w0 w w' ga N V Y1) ∧ Aside0 (Kd.R Kd.string 9 w' w0.heap.size (fun _ => True) v7 Z) ∧ Aside0 (MoreA w ga N V i v7 Z.length) ∧ Aside0 (Z.length = (Y1 i).length + m))
              case atStart => exact ⟨0, Y1 i, rfl, ⟨by omega, by omega⟩, HR2, HRi, HAi, ⟨rfl⟩⟩
              case round =>
                obtain ⟨m, Z, rfl, HA3, HR3, HZ, HAz, HLz⟩ := hrel
                clear HR2 HRi HAi hcell
                cases gk with
                | zero => exact absurd HA3.out (by omega)
                | succ k2 =>
                  by_cases c3 : m < 64
                  · have c3b : decide ((m : Int) < 64) = true := decide_eq_true (by omega)
                    have hal := below_alloc (Below.refl wr.heap.size wr) (.cells #[.string (⟨#[109, 111, 114, 101]⟩ : ByteArray)] 9)
                    go_wp2_with (first | (at_builtin; refine more_step rfl (.tmp 50) (.tmp 51) 22 rfl Tryd.underlying22 info9 (HR3.out.step hal) i c2 _ Z (⟨#[109, 111, 114, 101]⟩ : ByteArray) (Kd.R_below HZ.out hal) HAz.out rfl wr.heap.size rfl ((blk_cell (heap_alloc_new wr _) 0).trans rfl) (by have := HLz.out; have := HL.out i c2; have := HL1.out i c2; omega) ?_; intro v' w' h1_ h2_ h3_; have HR4 := Aside0.mk h1_; have HZ4 := Aside0.mk h2_; have HA4 := Aside0.mk h3_; clear h1_ h2_ h3_))
                    go_roundg k2
                    case measure => omega
                    case rel => exact ⟨m + 1, Z ++ [(⟨#[109, 111, 114, 101]⟩ : ByteArray)], (by have := HN.out; first | rfl | rw [wnat (by omega)] | exact congrArg _ (wnat (by omega))), ⟨by have := HA3.out.1; omega, by omega⟩, HR4, HZ4, HA4, ⟨by rw [List.length_append, List.length_singleton, HLz.out]; omega⟩⟩
                  · have c3b : decide ((m : Int) < 64) = false := decide_eq_false (by omega)
                    obtain ⟨Az, cz, ez⟩ := Kd.R_slice HZ.out
                    subst ez
                    go_wp2
                    go_roundg k1
                    case measure => omega
                    case rel =>
                      have hbl := HL.out i c2
                      have hll := HL1.out i c2
                      have hzl := HLz.out
                      have hm := HA3.out
                      have hg := HG.out
                      have hn := HN.out
                      refine ⟨i + 1, gr + (Z.length : Int), (by have := HN.out; first | rfl | rw [wnat (by omega)] | exact congrArg _ (wnat (by omega))), by first | rw [show wrap64 (gr + (Z.length : Int)) = gr + (Z.length : Int) by unfold wrap64; omega] | (rw [show IntKind.i64.wrap (gr + (Z.length : Int)) = gr + (Z.length : Int) from (i64_w _).trans (by unfold wrap64; omega)]) | rfl, ⟨by have := HA.out.1; omega, by omega⟩, ⟨by omega, by omega⟩, HR3⟩
            · obtain ⟨c2b, c2d⟩ := natge_b c2
              go_wp2
              go_loopg [9] (N + 1) (fun kq v9 w' => ∃ (i2 : Nat), v9 = .int .i64 (i2 : Int) ∧ Aside0 (i2 + kq = N + 1 ∧ i2 ≤ N) ∧ Aside0 (RowsS w0 w w' ga N V Y1))
              case atStart => exact ⟨0, rfl, ⟨by omega, by omega⟩, HR2⟩
              case round =>
                obtain ⟨i2, rfl, HA2, HR3⟩ := hrel
                clear HR2 c2b c2d
                cases gk with
                | zero => exact absurd HA2.out (by omega)
                | succ k2 =>
                  by_cases c4 : i2 < N
                  · obtain ⟨c4b, c4d⟩ := natlt_b c4
                    go_wp2
                    go_loopg [10] ((Y1 i2).length + 1) (fun kq v10 w' => ∃ (m : Nat), v10 = .int .i64 (m : Int) ∧ Aside0 (m + kq = (Y1 i2).length + 1 ∧ m ≤ (Y1 i2).length) ∧ Aside0 (RowsS w0 w w' ga N V Y1))
                    case atStart => exact ⟨0, rfl, ⟨by omega, by omega⟩, HR3⟩
                    case round =>
                      obtain ⟨m, rfl, HA3, HR4⟩ := hrel
                      clear HR3
                      cases gk with
                      | zero => exact absurd HA3.out (by omega)
                      | succ k3 =>
                        have hcell := HR4.out.cell i2 c4
                        obtain ⟨Ai, ci, ei⟩ := Kd.R_slice (HR4.out.row i2 c4)
                        rw [ei] at hcell
                        have hRi := HR4.out.row i2 c4
                        rw [ei] at hRi
                        clear ei
                        have hpb := eq_true (Int.natCast_nonneg i2 : 0 ≤ (i2 : Int))
                        have hqb := eq_true (show (i2 : Int) < (N : Int) by omega)
                        by_cases c5 : m < (Y1 i2).length
                        · obtain ⟨c5b, c5d⟩ := natlt_b c5
                          obtain ⟨ad, e115, hx115⟩ := Kd.at_string (Kd.R_reads' hRi).2.2 (m : Int) (Int.natCast_nonneg m) (by omega)
                          cases e115
                          rw [Int.toNat_natCast, show rdOf ByteArray.empty (Y1 i2) (m : Int) = mkS i2 by
                            unfold rdOf
                            rw [Int.toNat_natCast, List.getD_eq_getElem?_getD, HMa.out i2 c4 m c5]
                            rfl] at hx115
                          clear hRi
                          have p5 := eq_true (Int.natCast_nonneg m : 0 ≤ (m : Int))
                          have q5 := eq_true (show (m : Int) < ((Y1 i2).length : Int) by omega)
                          go_wp2
                          have hd_ := below_drew (Below.refl wr.heap.size wr)
                          have HH := Aside0.mk (HR4.out.step hd_)
                          have hcell2 := (hd_.cell (World.block_lt_of_cell? wr _ hcell)).trans hcell
                          have hx2 := (hd_.cell (World.block_lt_of_cell? wr _ hx115)).trans hx115
                          clear hd_ hcell hx115
                          refine start_ (n := 12) (S := fun w' => w'.cell? (ga.add i2) = some (.slice (some ad) (Y1 i2).length ci) ∧ w'.cell? (ad.add m) = some (.string (mkS i2))) (ds := []) #[false, false, false, false, false, false, false, false, false, false, false, false] (by kernel_rfl) rfl rfl ⟨hcell2, hx2⟩ (fun hHeld => ?_); refine with_tabW copselaw6_lone.tab24 copselaw6_lone.bits24 (fun HT_ HW_ => ?_)
                          generalize wr.drew = w7 at HH hcell2 hx2 hHeld ⊢
                          refine pure_ (i := 0) (N := some 72) (v := ?_) (a' := ?_) #[true, false, false, false, false, false, false, false, false, false, false, false] rfl rfl (any_of HT_.out (by kernel_rfl)) (fun _ _ _ h => h) (Or.inl ⟨by rfl, ?_⟩) ?_ ?_
                          rotate_left
                          · intro w'
                            go_simp
                            with_reducible rfl
                          rotate_left
                          · simp only [Act.put, List.setIfInBounds_toArray, List.set_cons_zero, List.set_cons_succ, i64_w, i32_w]
                            rfl
                          refine pure_ (i := 1) (N := some 73) (v := ?_) (a' := ?_) #[true, true, false, false, false, false, false, false, false, false, false, false] rfl rfl (any_of HT_.out (by kernel_rfl)) (fun _ _ _ h => h) (Or.inl ⟨by rfl, ?_⟩) ?_ ?_
                          rotate_left
                          · intro w'
                            go_simp
                            with_reducible rfl
                          rotate_left
                          · simp only [Act.put, List.setIfInBounds_toArray, List.set_cons_zero, List.set_cons_succ, i64_w, i32_w]
                            rfl
                          refine pure_ (i := 2) (N := some 74) (v := ?_) (a' := ?_) #[true, true, true, false, false, false, false, false, false, false, false, false] rfl rfl (any_of HT_.out (by kernel_rfl)) (fun _ _ _ h => h) (Or.inl ⟨by rfl, ?_⟩) ?_ ?_
                          rotate_left
                          · intro w'
                            go_simp
                            with_reducible rfl
                          rotate_left
                          · simp only [Act.put, List.setIfInBounds_toArray, List.set_cons_zero, List.set_cons_succ, i64_w, i32_w]
                            rfl
                          refine take_ (i := 3) (N := some 75) (v := ?_) (a' := ?_) #[true, true, true, true, false, false, false, false, false, false, false, false] rfl rfl (take_ofW HT_.out HW_.out (by kernel_rfl)) (fun _ _ _ h => h) (Or.inl ⟨by rfl, ?_⟩) hHeld ?_ ?_
                          rotate_left
                          · rintro w' ⟨s0, s1⟩
                            go_simp
                            with_reducible rfl
                          rotate_left
                          · simp only [Act.put, List.setIfInBounds_toArray, List.set_cons_zero, List.set_cons_succ, i64_w, i32_w]
                            rfl
                          refine pure_ (i := 4) (N := some 76) (v := ?_) (a' := ?_) #[true, true, true, true, true, false, false, false, false, false, false, false] rfl rfl (any_of HT_.out (by kernel_rfl)) (fun _ _ _ h => h) (Or.inl ⟨by rfl, ?_⟩) ?_ ?_
                          rotate_left
                          · intro w'
                            go_simp
                            with_reducible rfl
                          rotate_left
                          · simp only [Act.put, List.setIfInBounds_toArray, List.set_cons_zero, List.set_cons_succ, i64_w, i32_w]
                            rfl
                          refine pure_ (i := 5) (N := some 77) (v := ?_) (a' := ?_) #[true, true, true, true, true, true, false, false, false, false, false, false] rfl rfl (any_of HT_.out (by kernel_rfl)) (fun _ _ _ h => h) (Or.inl ⟨by rfl, ?_⟩) ?_ ?_
                          rotate_left
                          · intro w'
                            go_simp
                            with_reducible rfl
                          rotate_left
                          · simp only [Act.put, List.setIfInBounds_toArray, List.set_cons_zero, List.set_cons_succ, i64_w, i32_w]
                            rfl
                          refine take_ (i := 6) (N := some 78) (v := ?_) (a' := ?_) #[true, true, true, true, true, true, true, false, false, false, false, false] rfl rfl (take_ofW HT_.out HW_.out (by kernel_rfl)) (fun _ _ _ h => h) (Or.inl ⟨by rfl, ?_⟩) hHeld ?_ ?_
                          rotate_left
                          · rintro w' ⟨s0, s1⟩
                            go_simp
                            with_reducible rfl
                          rotate_left
                          · simp only [Act.put, List.setIfInBounds_toArray, List.set_cons_zero, List.set_cons_succ, i64_w, i32_w]
                            rfl
                          refine pure_ (i := 7) (N := some 79) (v := ?_) (a' := ?_) #[true, true, true, true, true, true, true, true, false, false, false, false] rfl rfl (any_of HT_.out (by kernel_rfl)) (fun _ _ _ h => h) (Or.inl ⟨by rfl, ?_⟩) ?_ ?_
                          rotate_left
                          · intro w'
                            go_simp
                            with_reducible rfl
                          rotate_left
                          · simp only [Act.put, List.setIfInBounds_toArray, List.set_cons_zero, List.set_cons_succ, i64_w, i32_w]
                            rfl
                          refine pure_ (i := 8) (N := some 80) (v := ?_) (a' := ?_) #[true, true, true, true, true, true, true, true, true, false, false, false] rfl rfl (any_of HT_.out (by kernel_rfl)) (fun _ _ _ h => h) (Or.inl ⟨by rfl, ?_⟩) ?_ ?_
                          rotate_left
                          · intro w'
                            go_simp
                            with_reducible rfl
                          rotate_left
                          · simp only [Act.put, List.setIfInBounds_toArray, List.set_cons_zero, List.set_cons_succ, i64_w, i32_w]
                            rfl
                          refine one_ (i := 9) (N := some 81) #[true, true, true, true, true, true, true, true, true, true, false, false] rfl rfl (one_of HT_.out (by kernel_rfl)) (by decide) (fun K hK => ?_)
                          refine Kd.R_lit_step (Kd.int .u8) _ 5 ?hg (N := 81) ?hd (xs := ([109, (i2 : Int) % 256] : List Int)) (inner := [.int .u8 109, .int .u8 ((i2 : Int) % 256)]) (ok := fun _ => True) (okp := fun _ => True) ?hr ?hp (fun _ hk => hk) trivial (Below.refl _ _) (Nat.le_refl _) (by simp) ?_; (case hd => rfl); (case hg => rfl); (case hr => first | (go_simp; done) | (go_simp; rfl)); (case hp => exact (Reps.one (show Kd.M (Kd.int .u8) _ _ _ 109 [.int .u8 109] from rfl) (Reps.one (show Kd.M (Kd.int .u8) _ _ _ ((i2 : Int) % 256) [.int .u8 ((i2 : Int) % 256)] from rfl) (Reps.none _ _))))
                          intro v116 w8 ho9 hb hg_ hnew_
                          clear hg_ hnew_
                          have HH8 := Aside0.mk (HH.out.step hb)
                          have hcell8 := (hb.cell (World.block_lt_of_cell? w7 _ hcell2)).trans hcell2
                          have hx8 := (hb.cell (World.block_lt_of_cell? w7 _ hx2)).trans hx2
                          have HO117 := Aside0.mk ho9
                          clear ho9 hb
                          refine hK.out _ _ ⟨hcell8, hx8⟩ (fun hHeld => ?_)
                          clear hK K
                          refine norm_ (a' := ?_) ?_ ?_
                          rotate_left
                          · show Act.put _ (some 81) _ = _
                            simp only [Act.put, List.setIfInBounds_toArray, List.set_cons_zero, List.set_cons_succ, i64_w, i32_w]
                            rfl
                          refine one_ (i := 10) (N := some 82) #[true, true, true, true, true, true, true, true, true, true, true, false] rfl rfl (one_of HT_.out (by kernel_rfl)) (by decide) (fun K hK => ?_)
                          have hcv10 := own_string (P := Tryd.prog) Tryd.underlying53 Tryd.underlying5 Tryd.underlying9 (Kd.own_of_R HO117.out)
                          refine value_ (w1 := ?_) (v := ?_) (by rfl) rfl ?_ ?_
                          rotate_left 2
                          · go_simp
                            constructor
                            · rfl
                            · rfl
                          clear hcv10
                          refine hK.out _ _ ⟨hcell8, hx8⟩ (fun hHeld => ?_)
                          clear hK K
                          refine norm_ (a' := ?_) ?_ ?_
                          rotate_left
                          · show Act.put _ (some 82) _ = _
                            simp only [Act.put, List.setIfInBounds_toArray, List.set_cons_zero, List.set_cons_succ, i64_w, i32_w]
                            rfl
                          have hmk : (strOfNums ([109, (i2 : Int) % 256] : List Int)) = mkS i2 := rfl
                          have hbe : ((mkS i2).toList == (strOfNums ([109, (i2 : Int) % 256] : List Int)).toList) = true := by rw [hmk, beq_self_eq_true]
                          have hbn : ((mkS i2).toList != (strOfNums ([109, (i2 : Int) % 256] : List Int)).toList) = false := by rw [hmk, bne_self_eq_false]
                          refine pure_ (i := 11) (N := some 83) (v := ?_) (a' := ?_) #[true, true, true, true, true, true, true, true, true, true, true, true] rfl rfl (any_of HT_.out (by kernel_rfl)) (fun _ _ _ h => h) (Or.inl ⟨by rfl, ?_⟩) ?_ ?_
                          rotate_left
                          · intro w'
                            go_simp
                            with_reducible rfl
                          rotate_left
                          · simp only [Act.put, List.setIfInBounds_toArray, List.set_cons_zero, List.set_cons_succ, i64_w, i32_w]
                            rfl
                          refine done_ (done_of HT_.out (by kernel_rfl)) ?_
                          try go_wp2
                          go_roundg k3
                          case measure => omega
                          case rel => exact ⟨m + 1, (by have := HL.out i2 c4; have := HL1.out i2 c4; first | rfl | rw [wnat (by omega)] | exact congrArg _ (wnat (by omega))), ⟨by have := HA3.out.1; omega, by omega⟩, HH8⟩
                        · obtain ⟨c5b, c5d⟩ := natge_b c5
                          go_wp2
                          go_roundg k2
                          case measure => omega
                          case rel => exact ⟨i2 + 1, (by have := HN.out; first | rfl | rw [wnat (by omega)] | exact congrArg _ (wnat (by omega))), ⟨by have := HA2.out.1; omega, by omega⟩, HR4⟩
                  · obtain ⟨c4b, c4d⟩ := natge_b c4
                    have hiN : i = N := by have := HA.out; omega
                    have hgr := HG.out
                    rw [hiN] at hgr
                    have hmul : wrap64 (64 * (N : Int)) = 64 * (N : Int) := by have := HN.out; unfold wrap64; omega
                    have hge : decide (wrap64 (64 * (N : Int)) ≤ gr) = true := by rw [hmul]; exact decide_eq_true hgr.1
                    go_wp2
                    go_ret
                    exact ⟨by first | rfl | (simp [*]; done), _, HR3.out⟩
def V3 (a b c : Value) (i : Nat) : Value := if i = 0 then a else if i = 1 then b else c
def Y3 (a b c : List ByteArray) (i : Nat) : List ByteArray := if i = 0 then a else if i = 1 then b else c
def AP3 (a b c m : Value) : Prop := ∀ k, (a.ownBlock = some k → some k ≠ b.ownBlock ∧ some k ≠ c.ownBlock ∧ some k ≠ m.ownBlock) ∧ (b.ownBlock = some k → some k ≠ c.ownBlock ∧ some k ≠ m.ownBlock) ∧ (c.ownBlock = some k → some k ≠ m.ownBlock)
theorem three_cases {i : Nat} (h : i < 3) : i = 0 ∨ i = 1 ∨ i = 2 := by omega
theorem rows3 {w W : World} {a b c m : Value} {x y z : List ByteArray} (ha : Kd.R Kd.string 9 W w.heap.size (fun _ => True) a x) (hb : Kd.R Kd.string 9 W w.heap.size (fun _ => True) b y) (hc : Kd.R Kd.string 9 W w.heap.size (fun _ => True) c z) (hap : AP3 a b c m) (HB : Below w.heap.size w W) :
    RowsS w (W.alloc (.cells #[a, b, c] 22)) (W.alloc (.cells #[a, b, c] 22)) ⟨W.heap.size, 0, none⟩ 3 (V3 a b c) (Y3 x y z) where
  cell := fun i hi => by
    rw [add_plain, blk_cell (heap_alloc_new W _)]
    rcases three_cases hi with rfl | rfl | rfl <;> rfl
  far := fun i hi => by
    rcases three_cases hi with rfl | rfl | rfl
    · exact fun e => absurd (Kd.R_lt ha _ e) (Nat.lt_irrefl _)
    · exact fun e => absurd (Kd.R_lt hb _ e) (Nat.lt_irrefl _)
    · exact fun e => absurd (Kd.R_lt hc _ e) (Nat.lt_irrefl _)
  row := fun i hi => by
    rcases three_cases hi with rfl | rfl | rfl
    · exact Kd.R_alloc ha _
    · exact Kd.R_alloc hb _
    · exact Kd.R_alloc hc _
  apart := fun i j hi hj hne k h1 h2 => by
    obtain ⟨p, q, r⟩ := hap k
    rcases three_cases hi with rfl | rfl | rfl <;> rcases three_cases hj with rfl | rfl | rfl
    · exact hne rfl
    · exact (p h1).1 h2.symm
    · exact (p h1).2.1 h2.symm
    · exact (p h2).1 h1.symm
    · exact hne rfl
    · exact (q h1).1 h2.symm
    · exact (p h2).2.1 h1.symm
    · exact (q h2).1 h1.symm
    · exact hne rfl
  below := below_alloc HB _
  size := Nat.le_refl _
  keep := fun _ _ _ => rfl
/-- What lone leaves of a row and of a block that are none of the three. -/
theorem rows3_row {w W W' : World} {a b c m : Value} {t : List ByteArray} {g : Addr} {Y : Nat → List ByteArray} {o : Obj} (hap : AP3 a b c m) (hm : Kd.R Kd.string 9 W w.heap.size (fun _ => True) m t) (hr : RowsS w (W.alloc o) W' g 3 (V3 a b c) Y) : Kd.R Kd.string 9 W' w.heap.size (fun _ => True) m t :=
  Kd.R_mono (Kd.R_step (Kd.R_tight rfl (Kd.R_alloc hm o)) (fun k hk hlt => hr.keep k hlt (fun i hi e => by
    obtain ⟨p, q, r⟩ := hap k
    rcases three_cases hi with rfl | rfl | rfl
    · exact (p e).2.2 hk
    · exact (q e).2 hk
    · exact (r e) hk))) (fun _ _ => trivial)
theorem rows3_blk {w W W' : World} {a b c : Value} {x y z : List ByteArray} {g : Addr} {Y : Nat → List ByteArray} {o : Obj} {gb : Nat} {cs : Array Value} (ha : Kd.R Kd.string 9 W w.heap.size (fun _ => True) a x) (hb : Kd.R Kd.string 9 W w.heap.size (fun _ => True) b y) (hc : Kd.R Kd.string 9 W w.heap.size (fun _ => True) c z) (hk : W.heap[gb]? = some (.cells cs 35 (0, 0))) (hr : RowsS w (W.alloc o) W' g 3 (V3 a b c) Y) : W'.heap[gb]? = some (.cells cs 35 (0, 0)) :=
  (hr.keep gb (blk_lt (blk_alloc hk o)) (fun i hi e => by
    rcases three_cases hi with rfl | rfl | rfl
    · exact Kd.R_ne ha hk (by decide) e.symm
    · exact Kd.R_ne hb hk (by decide) e.symm
    · exact Kd.R_ne hc hk (by decide) e.symm)).trans (blk_alloc hk o)
/-! ### copselaw6_CellsReads: function 4 -/
def copselaw6_CellsReads.j0 : Nat → List ByteArray → Int → Bool → Int → ByteArray → Option (Bool)
  | 0, _, _, _, _, _ => none
  | k + 1, x9, x10, x94, x121000, x121001 => if x94 = true then (some false) else ((cells_Read.f k x121000 x121001).bind fun bt147 => ((copsekit_Num.f bt147.2).bind fun t151 => (if t151 = x10 then ((copseref0_SameStrings.f k bt147.1 x9).bind fun t152 => (some t152)) else (some false))))
def copselaw6_CellsReads.f0 (k : Nat) (a0_0 : Int) (a0_1 : ByteArray) : Option (Bool) := (cells_Read.f k a0_0 a0_1).bind fun bt121 => (if a0_1.size + a0_1.size ≤ 9223372036854775807 then ((cells_Read.f k a0_0 (a0_1 ++ a0_1)).bind fun bt125 => ((cells_Read.f k a0_0 a0_1).bind fun bt129 => ((copseref6_Read.f k a0_0 a0_1).bind fun bt133 => ((copseref6_Read.f k a0_0 (a0_1 ++ a0_1)).bind fun bt137 => ((copsekit_Num.f bt121.2).bind fun t141 => (if t141 = bt133.2 then ((copsekit_Num.f bt129.2).bind fun t142 => (if t142 = bt133.2 then ((copsekit_Num.f bt125.2).bind fun t143 => (if t143 = bt137.2 then ((copseref0_SameStrings.f k bt121.1 bt133.1).bind fun t144 => (if t144 = true then ((copseref0_SameStrings.f k bt129.1 bt133.1).bind fun t145 => (if t145 = true then ((copseref0_SameStrings.f k bt125.1 bt137.1).bind fun t146 => (copselaw6_CellsReads.j0 k bt133.1 bt133.2 (!t146) a0_0 a0_1)) else (copselaw6_CellsReads.j0 k bt133.1 bt133.2 true a0_0 a0_1))) else (copselaw6_CellsReads.j0 k bt133.1 bt133.2 true a0_0 a0_1))) else (copselaw6_CellsReads.j0 k bt133.1 bt133.2 true a0_0 a0_1))) else (copselaw6_CellsReads.j0 k bt133.1 bt133.2 true a0_0 a0_1))) else (copselaw6_CellsReads.j0 k bt133.1 bt133.2 true a0_0 a0_1))))))) else (none))
theorem copselaw6_CellsReads.mono_l : ∀ k, (∀ y0 y1 y2 y3 y4, LeO (copselaw6_CellsReads.j0 k y0 y1 y2 y3 y4) (copselaw6_CellsReads.j0 (k + 1) y0 y1 y2 y3 y4))
  | 0 => fun _ _ _ _ _ r h => by simp [copselaw6_CellsReads.j0] at h
  | k + 1 => by
    have ih0 := copselaw6_CellsReads.mono_l k
    · intro y0 y1 y2 y3 y4
      unfold copselaw6_CellsReads.j0
      repeat' first
      | (with_reducible exact ih0 _ _ _ _ _)
      | (with_reducible exact cells_Read.mono _ _ _)
      | (with_reducible exact copseref0_SameStrings.mono _ _ _)
      | (with_reducible exact copseref6_Read.mono _ _ _)
      | (with_reducible exact LeO.refl _)
      | (with_reducible exact LeO.none _)
      | (with_reducible refine LeO.ite ?_ ?_)
      | (with_reducible refine LeO.bind ?_ (fun _ => ?_))
      | exact ih0 _ _ _ _ _
      | exact cells_Read.mono _ _ _
      | exact copseref0_SameStrings.mono _ _ _
      | exact copseref6_Read.mono _ _ _
      | exact LeO.none _
      | refine LeO.ite ?_ ?_
      | refine LeO.bind ?_ (fun _ => ?_)
theorem copselaw6_CellsReads.mono0 : ∀ a0 a1 k, LeO (copselaw6_CellsReads.f0 k a0 a1) (copselaw6_CellsReads.f0 (k + 1) a0 a1) := by
  intro a0 a1 k
  have ih0 := copselaw6_CellsReads.mono_l k
  unfold copselaw6_CellsReads.f0
  repeat' first
      | (with_reducible exact ih0 _ _ _ _ _)
      | (with_reducible exact cells_Read.mono _ _ _)
      | (with_reducible exact copseref0_SameStrings.mono _ _ _)
      | (with_reducible exact copseref6_Read.mono _ _ _)
      | (with_reducible exact LeO.refl _)
      | (with_reducible exact LeO.none _)
      | (with_reducible refine LeO.ite ?_ ?_)
      | (with_reducible refine LeO.bind ?_ (fun _ => ?_))
      | exact ih0 _ _ _ _ _
      | exact cells_Read.mono _ _ _
      | exact copseref0_SameStrings.mono _ _ _
      | exact copseref6_Read.mono _ _ _
      | exact LeO.none _
      | refine LeO.ite ?_ ?_
      | refine LeO.bind ?_ (fun _ => ?_)
def copselaw6_CellsReads.lens (k : Nat) (a0_0 : Int) (a0_1 : ByteArray) : Prop := (∀ l e, cells_Read.f k a0_0 a0_1 = some (l, e) → l.length ≤ 4096) ∧ (∀ l e, cells_Read.f k a0_0 (a0_1 ++ a0_1) = some (l, e) → l.length ≤ 4096)
open Classical in
noncomputable def copselaw6_CellsReads.f (k : Nat) (a0_0 : Int) (a0_1 : ByteArray) : Option (Bool) := if copselaw6_CellsReads.lens k a0_0 a0_1 then copselaw6_CellsReads.f0 k a0_0 a0_1 else none
set_option maxHeartbeats 8000000 in
set_option maxRecDepth 100000 in
theorem copselaw6_CellsReads.calls (k : Nat) (E : Int → Addr) (a0_0 : Int) (a0_1 : ByteArray) (r : Bool) (w : World) (hG : Glob E w) (h' : copselaw6_CellsReads.f k a0_0 a0_1 = some r) :
    Calls Tryd.prog 4 #[.agg #[.int .i64 a0_0, .string a0_1]] w fun e w' => e = .returned (.bool r) ∧ Below w.heap.size w w' := by
  have hlens : copselaw6_CellsReads.lens k a0_0 a0_1 := by
    unfold copselaw6_CellsReads.f at h'
    by_cases c_ : copselaw6_CellsReads.lens k a0_0 a0_1
    · exact c_
    · rw [if_neg c_] at h'; cases h'
  have h : copselaw6_CellsReads.f0 k a0_0 a0_1 = some r := by
    unfold copselaw6_CellsReads.f at h'
    rwa [if_pos hlens] at h'
  clear h'
  have hu35 := Tryd.underlying35
  have HB := Aside0.mk (Below.refl w.heap.size w)
  have HG := Aside0.mk hG
  clear hG
  have H : ((cells_Read.f k a0_0 a0_1).bind fun bt121 => (if a0_1.size + a0_1.size ≤ 9223372036854775807 then ((cells_Read.f k a0_0 (a0_1 ++ a0_1)).bind fun bt125 => ((cells_Read.f k a0_0 a0_1).bind fun bt129 => ((copseref6_Read.f k a0_0 a0_1).bind fun bt133 => ((copseref6_Read.f k a0_0 (a0_1 ++ a0_1)).bind fun bt137 => ((copsekit_Num.f bt121.2).bind fun t141 => (if t141 = bt133.2 then ((copsekit_Num.f bt129.2).bind fun t142 => (if t142 = bt133.2 then ((copsekit_Num.f bt125.2).bind fun t143 => (if t143 = bt137.2 then ((copseref0_SameStrings.f k bt121.1 bt133.1).bind fun t144 => (if t144 = true then ((copseref0_SameStrings.f k bt129.1 bt133.1).bind fun t145 => (if t145 = true then ((copseref0_SameStrings.f k bt125.1 bt137.1).bind fun t146 => (copselaw6_CellsReads.j0 k bt133.1 bt133.2 (!t146) a0_0 a0_1)) else (copselaw6_CellsReads.j0 k bt133.1 bt133.2 true a0_0 a0_1))) else (copselaw6_CellsReads.j0 k bt133.1 bt133.2 true a0_0 a0_1))) else (copselaw6_CellsReads.j0 k bt133.1 bt133.2 true a0_0 a0_1))) else (copselaw6_CellsReads.j0 k bt133.1 bt133.2 true a0_0 a0_1))) else (copselaw6_CellsReads.j0 k bt133.1 bt133.2 true a0_0 a0_1))))))) else (none))) = some r := h
  clear h
  replace H := Option.bind_eq_some_iff.mp H
  obtain ⟨⟨t121, t122⟩, A20, H⟩ := H
  replace H : (if a0_1.size + a0_1.size ≤ 9223372036854775807 then ((cells_Read.f k a0_0 (a0_1 ++ a0_1)).bind fun bt125 => ((cells_Read.f k a0_0 a0_1).bind fun bt129 => ((copseref6_Read.f k a0_0 a0_1).bind fun bt133 => ((copseref6_Read.f k a0_0 (a0_1 ++ a0_1)).bind fun bt137 => ((copsekit_Num.f t122).bind fun t141 => (if t141 = bt133.2 then ((copsekit_Num.f bt129.2).bind fun t142 => (if t142 = bt133.2 then ((copsekit_Num.f bt125.2).bind fun t143 => (if t143 = bt137.2 then ((copseref0_SameStrings.f k t121 bt133.1).bind fun t144 => (if t144 = true then ((copseref0_SameStrings.f k bt129.1 bt133.1).bind fun t145 => (if t145 = true then ((copseref0_SameStrings.f k bt125.1 bt137.1).bind fun t146 => (copselaw6_CellsReads.j0 k bt133.1 bt133.2 (!t146) a0_0 a0_1)) else (copselaw6_CellsReads.j0 k bt133.1 bt133.2 true a0_0 a0_1))) else (copselaw6_CellsReads.j0 k bt133.1 bt133.2 true a0_0 a0_1))) else (copselaw6_CellsReads.j0 k bt133.1 bt133.2 true a0_0 a0_1))) else (copselaw6_CellsReads.j0 k bt133.1 bt133.2 true a0_0 a0_1))) else (copselaw6_CellsReads.j0 k bt133.1 bt133.2 true a0_0 a0_1))))))) else (none)) = some r := H
  have A2 := Aside0.mk A20
  clear A20
  by_cases c3 : a0_1.size + a0_1.size ≤ 9223372036854775807
  · rw [if_pos c3] at H
    have c3b0 := eq_true c3
    have c3b1 : decide (a0_1.size + a0_1.size ≤ 9223372036854775807) = true := decide_eq_true c3
    try have c3b2 : (9223372036854775807 < a0_1.size + a0_1.size) = False := eq_false (Nat.not_lt.2 c3)
    replace H := Option.bind_eq_some_iff.mp H
    obtain ⟨⟨t125, t126⟩, A40, H⟩ := H
    replace H : ((cells_Read.f k a0_0 a0_1).bind fun bt129 => ((copseref6_Read.f k a0_0 a0_1).bind fun bt133 => ((copseref6_Read.f k a0_0 (a0_1 ++ a0_1)).bind fun bt137 => ((copsekit_Num.f t122).bind fun t141 => (if t141 = bt133.2 then ((copsekit_Num.f bt129.2).bind fun t142 => (if t142 = bt133.2 then ((copsekit_Num.f t126).bind fun t143 => (if t143 = bt137.2 then ((copseref0_SameStrings.f k t121 bt133.1).bind fun t144 => (if t144 = true then ((copseref0_SameStrings.f k bt129.1 bt133.1).bind fun t145 => (if t145 = true then ((copseref0_SameStrings.f k t125 bt137.1).bind fun t146 => (copselaw6_CellsReads.j0 k bt133.1 bt133.2 (!t146) a0_0 a0_1)) else (copselaw6_CellsReads.j0 k bt133.1 bt133.2 true a0_0 a0_1))) else (copselaw6_CellsReads.j0 k bt133.1 bt133.2 true a0_0 a0_1))) else (copselaw6_CellsReads.j0 k bt133.1 bt133.2 true a0_0 a0_1))) else (copselaw6_CellsReads.j0 k bt133.1 bt133.2 true a0_0 a0_1))) else (copselaw6_CellsReads.j0 k bt133.1 bt133.2 true a0_0 a0_1)))))) = some r := H
    have A4 := Aside0.mk A40
    clear A40
    replace H := Option.bind_eq_some_iff.mp H
    obtain ⟨⟨t129, t130⟩, A50, H⟩ := H
    replace H : ((copseref6_Read.f k a0_0 a0_1).bind fun bt133 => ((copseref6_Read.f k a0_0 (a0_1 ++ a0_1)).bind fun bt137 => ((copsekit_Num.f t122).bind fun t141 => (if t141 = bt133.2 then ((copsekit_Num.f t130).bind fun t142 => (if t142 = bt133.2 then ((copsekit_Num.f t126).bind fun t143 => (if t143 = bt137.2 then ((copseref0_SameStrings.f k t121 bt133.1).bind fun t144 => (if t144 = true then ((copseref0_SameStrings.f k t129 bt133.1).bind fun t145 => (if t145 = true then ((copseref0_SameStrings.f k t125 bt137.1).bind fun t146 => (copselaw6_CellsReads.j0 k bt133.1 bt133.2 (!t146) a0_0 a0_1)) else (copselaw6_CellsReads.j0 k bt133.1 bt133.2 true a0_0 a0_1))) else (copselaw6_CellsReads.j0 k bt133.1 bt133.2 true a0_0 a0_1))) else (copselaw6_CellsReads.j0 k bt133.1 bt133.2 true a0_0 a0_1))) else (copselaw6_CellsReads.j0 k bt133.1 bt133.2 true a0_0 a0_1))) else (copselaw6_CellsReads.j0 k bt133.1 bt133.2 true a0_0 a0_1))))) = some r := H
    have A5 := Aside0.mk A50
    clear A50
    replace H := Option.bind_eq_some_iff.mp H
    obtain ⟨⟨t133, t134⟩, A60, H⟩ := H
    replace H : ((copseref6_Read.f k a0_0 (a0_1 ++ a0_1)).bind fun bt137 => ((copsekit_Num.f t122).bind fun t141 => (if t141 = t134 then ((copsekit_Num.f t130).bind fun t142 => (if t142 = t134 then ((copsekit_Num.f t126).bind fun t143 => (if t143 = bt137.2 then ((copseref0_SameStrings.f k t121 t133).bind fun t144 => (if t144 = true then ((copseref0_SameStrings.f k t129 t133).bind fun t145 => (if t145 = true then ((copseref0_SameStrings.f k t125 bt137.1).bind fun t146 => (copselaw6_CellsReads.j0 k t133 t134 (!t146) a0_0 a0_1)) else (copselaw6_CellsReads.j0 k t133 t134 true a0_0 a0_1))) else (copselaw6_CellsReads.j0 k t133 t134 true a0_0 a0_1))) else (copselaw6_CellsReads.j0 k t133 t134 true a0_0 a0_1))) else (copselaw6_CellsReads.j0 k t133 t134 true a0_0 a0_1))) else (copselaw6_CellsReads.j0 k t133 t134 true a0_0 a0_1)))) = some r := H
    have A6 := Aside0.mk A60
    clear A60
    replace H := Option.bind_eq_some_iff.mp H
    obtain ⟨⟨t137, t138⟩, A70, H⟩ := H
    replace H : ((copsekit_Num.f t122).bind fun t141 => (if t141 = t134 then ((copsekit_Num.f t130).bind fun t142 => (if t142 = t134 then ((copsekit_Num.f t126).bind fun t143 => (if t143 = t138 then ((copseref0_SameStrings.f k t121 t133).bind fun t144 => (if t144 = true then ((copseref0_SameStrings.f k t129 t133).bind fun t145 => (if t145 = true then ((copseref0_SameStrings.f k t125 t137).bind fun t146 => (copselaw6_CellsReads.j0 k t133 t134 (!t146) a0_0 a0_1)) else (copselaw6_CellsReads.j0 k t133 t134 true a0_0 a0_1))) else (copselaw6_CellsReads.j0 k t133 t134 true a0_0 a0_1))) else (copselaw6_CellsReads.j0 k t133 t134 true a0_0 a0_1))) else (copselaw6_CellsReads.j0 k t133 t134 true a0_0 a0_1))) else (copselaw6_CellsReads.j0 k t133 t134 true a0_0 a0_1))) = some r := H
    have A7 := Aside0.mk A70
    clear A70
    have HC8 := Aside0.mk H
    clear H
    go_enter Tryd.func4, Tryd.ntmps4
    go_upto_region 6 with (first | ((with_reducible refine gate_dst (N := 1) rfl ?_); refine box_event ?hg (N := 1) ?hd (cs := #[.int .i64 a0_0, .string a0_1]) (t := 35) ?hr ?_; (case hd => rfl); (case hg => rfl); (case hr => first | (go_simp; done) | (go_simp; rfl)); intro gb120 hg w9 hbox hb; have n0_ := Aside0.mk (below_step (by repeat (first | (with_reducible first | exact HB.out | apply below_alloc | apply pw_below_drewN | apply below_drew1) | exact HB.out)) hb); have n1_ := Aside0.mk (hbox); have n2_ := Aside0.mk ((by rw [hg]; exact (below_size (by repeat (first | (with_reducible first | exact HB.out | apply below_alloc | apply pw_below_drewN | apply below_drew1) | exact HB.out))) : w.heap.size ≤ gb120)); have n3_ := Aside0.mk ((by rw [hg]; exact (below_size (by repeat (first | (with_reducible first | exact HB.out | apply below_alloc | apply pw_below_drewN | apply below_drew1) | exact HB.out))) : w.heap.size ≤ gb120)); clear HB; have HB := n0_; have BK120 := n1_; have GW120 := n2_; have GE120 := n3_; clear n0_ n1_ n2_ n3_; clear hb hbox hg; have hcz10_0 : w9.cell? ⟨gb120, 0, none⟩ = some (.int .i64 a0_0) := (blk_cell BK120.out 0).trans rfl; have hcz10_1 : w9.cell? ⟨gb120, 1, none⟩ = some (.string a0_1) := (blk_cell BK120.out 1).trans rfl; have hfz10_0 := blk_frozen BK120.out 0; have hfz10_1 := blk_frozen BK120.out 1) | ((with_reducible refine gate_callee (f := 18) rfl ?_); refine goesL_ (some 20) rfl rfl Tryd.func18 (by kernel_rfl) rfl #[.int .i64 a0_0, .string a0_1] rfl (by (try simp only [List.map_toArray, List.map_cons, List.map_nil]); first | done | rfl | (simp only [List.length_drop, List.length_take]; rfl)) ?_; (with_reducible refine (cells_Read.calls k E a0_0 a0_1 t121 t122 _ ?side1 A2.out).mono ?_); (case side1 => exact (Glob.below HG.out (by repeat (first | (with_reducible first | exact HB.out | apply below_alloc | apply pw_below_drewN | apply below_drew1 | refine below_set ?_ GE120.out) | exact HB.out)))); rintro e w11 ⟨v123, rfl, ho0, hb⟩; refine ⟨_, rfl, ?_⟩; have n0_ := Aside0.mk (Kd.R_lower ho0 (below_size (by repeat (first | (with_reducible first | exact HB.out | apply below_alloc | apply pw_below_drewN | apply below_drew1 | refine below_set ?_ GE120.out) | exact HB.out)))); have n1_ := Aside0.mk (blk_below (g := gb120) (o := .cells #[.int .i64 a0_0, .string a0_1] 35 (0, 0)) (by (with_reducible repeat (first | refine blk_drewN ?_ _ | refine blk_drew ?_ | refine blk_alloc ?_ _)); exact BK120.out) hb); have n2_ := Aside0.mk (below_step (by repeat (first | (with_reducible first | exact HB.out | apply below_alloc | apply pw_below_drewN | apply below_drew1 | refine below_set ?_ GE120.out) | exact HB.out)) hb); clear BK120; clear HB; have HO124 := n0_; have BK120 := n1_; have HB := n2_; clear n0_ n1_ n2_; (try clear hb); (try clear hb2); (try clear hk); (try clear hi); (try clear ho0); (try simp only [errW_none, errW_some]); have hcz12_0 : w11.cell? ⟨gb120, 0, none⟩ = some (.int .i64 a0_0) := (blk_cell BK120.out 0).trans rfl; have hcz12_1 : w11.cell? ⟨gb120, 1, none⟩ = some (.string a0_1) := (blk_cell BK120.out 1).trans rfl; have hfz12_0 := blk_frozen BK120.out 0; have hfz12_1 := blk_frozen BK120.out 1) | ((with_reducible refine gate_callee (f := 18) rfl ?_); refine goesL_ (some 31) rfl rfl Tryd.func18 (by kernel_rfl) rfl #[.int .i64 a0_0, .string (a0_1 ++ a0_1)] rfl (by (try simp only [List.map_toArray, List.map_cons, List.map_nil]); first | done | rfl | (simp only [List.length_drop, List.length_take]; rfl)) ?_; (with_reducible refine (cells_Read.calls k E a0_0 (a0_1 ++ a0_1) t125 t126 _ ?side1 A4.out).mono ?_); (case side1 => exact (Glob.below HG.out (by repeat (first | (with_reducible first | exact HB.out | apply below_alloc | apply pw_below_drewN | apply below_drew1 | refine below_set ?_ GE120.out) | exact HB.out)))); rintro e w13 ⟨v127, rfl, ho0, hb⟩; refine ⟨_, rfl, ?_⟩; have n0_ := Aside0.mk (Kd.R_elder' (by (with_reducible repeat (first | apply Kd.R_alloc | apply Kd.R_drewN | apply Kd.R_drew)); exact HO124.out) (Kd.R_base ho0) hb); have n1_ := Aside0.mk (Kd.R_lower (Kd.R_new' ho0 (Kd.R_lt (by (with_reducible repeat (first | apply Kd.R_alloc | apply Kd.R_drewN | apply Kd.R_drew)); exact HO124.out))) (below_size (by repeat (first | (with_reducible first | exact HB.out | apply below_alloc | apply pw_below_drewN | apply below_drew1 | refine below_set ?_ GE120.out) | exact HB.out)))); have n2_ := Aside0.mk (blk_below (g := gb120) (o := .cells #[.int .i64 a0_0, .string a0_1] 35 (0, 0)) (by (with_reducible repeat (first | refine blk_drewN ?_ _ | refine blk_drew ?_ | refine blk_alloc ?_ _)); exact BK120.out) hb); have n3_ := Aside0.mk (below_step (by repeat (first | (with_reducible first | exact HB.out | apply below_alloc | apply pw_below_drewN | apply below_drew1 | refine below_set ?_ GE120.out) | exact HB.out)) hb); clear HO124; clear BK120; clear HB; have HO124 := n0_; have HO128 := n1_; have BK120 := n2_; have HB := n3_; clear n0_ n1_ n2_ n3_; (try clear hb); (try clear hb2); (try clear hk); (try clear hi); (try clear ho0); (try simp only [errW_none, errW_some]); have hcz14_0 : w13.cell? ⟨gb120, 0, none⟩ = some (.int .i64 a0_0) := (blk_cell BK120.out 0).trans rfl; have hcz14_1 : w13.cell? ⟨gb120, 1, none⟩ = some (.string a0_1) := (blk_cell BK120.out 1).trans rfl; have hfz14_0 := blk_frozen BK120.out 0; have hfz14_1 := blk_frozen BK120.out 1) | ((with_reducible refine gate_callee (f := 18) rfl ?_); refine goesL_ (some 39) rfl rfl Tryd.func18 (by kernel_rfl) rfl #[.int .i64 a0_0, .string a0_1] rfl (by (try simp only [List.map_toArray, List.map_cons, List.map_nil]); first | done | rfl | (simp only [List.length_drop, List.length_take]; rfl)) ?_; (with_reducible refine (cells_Read.calls k E a0_0 a0_1 t129 t130 _ ?side1 A5.out).mono ?_); (case side1 => exact (Glob.below HG.out (by repeat (first | (with_reducible first | exact HB.out | apply below_alloc | apply pw_below_drewN | apply below_drew1 | refine below_set ?_ GE120.out) | exact HB.out)))); rintro e w15 ⟨v131, rfl, ho0, hb⟩; refine ⟨_, rfl, ?_⟩; have n0_ := Aside0.mk (Kd.R_elder' (by (with_reducible repeat (first | apply Kd.R_alloc | apply Kd.R_drewN | apply Kd.R_drew)); exact HO124.out) (Kd.R_base ho0) hb); have n1_ := Aside0.mk (Kd.R_elder' (by (with_reducible repeat (first | apply Kd.R_alloc | apply Kd.R_drewN | apply Kd.R_drew)); exact HO128.out) (Kd.R_base ho0) hb); have n2_ := Aside0.mk (Kd.R_lower (Kd.R_new' (Kd.R_new' ho0 (Kd.R_lt (by (with_reducible repeat (first | apply Kd.R_alloc | apply Kd.R_drewN | apply Kd.R_drew)); exact HO124.out))) (Kd.R_lt (by (with_reducible repeat (first | apply Kd.R_alloc | apply Kd.R_drewN | apply Kd.R_drew)); exact HO128.out))) (below_size (by repeat (first | (with_reducible first | exact HB.out | apply below_alloc | apply pw_below_drewN | apply below_drew1 | refine below_set ?_ GE120.out) | exact HB.out)))); have n3_ := Aside0.mk (blk_below (g := gb120) (o := .cells #[.int .i64 a0_0, .string a0_1] 35 (0, 0)) (by (with_reducible repeat (first | refine blk_drewN ?_ _ | refine blk_drew ?_ | refine blk_alloc ?_ _)); exact BK120.out) hb); have n4_ := Aside0.mk (below_step (by repeat (first | (with_reducible first | exact HB.out | apply below_alloc | apply pw_below_drewN | apply below_drew1 | refine below_set ?_ GE120.out) | exact HB.out)) hb); clear HO124; clear HO128; clear BK120; clear HB; have HO124 := n0_; have HO128 := n1_; have HO132 := n2_; have BK120 := n3_; have HB := n4_; clear n0_ n1_ n2_ n3_ n4_; (try clear hb); (try clear hb2); (try clear hk); (try clear hi); (try clear ho0); (try simp only [errW_none, errW_some]); have hcz16_0 : w15.cell? ⟨gb120, 0, none⟩ = some (.int .i64 a0_0) := (blk_cell BK120.out 0).trans rfl; have hcz16_1 : w15.cell? ⟨gb120, 1, none⟩ = some (.string a0_1) := (blk_cell BK120.out 1).trans rfl; have hfz16_0 := blk_frozen BK120.out 0; have hfz16_1 := blk_frozen BK120.out 1) | ((with_reducible refine gate_callee (f := 19) rfl ?_); refine goesL_ (some 47) rfl rfl Tryd.func19 (by kernel_rfl) rfl #[.int .i64 a0_0, .string a0_1] rfl (by (try simp only [List.map_toArray, List.map_cons, List.map_nil]); first | done | rfl | (simp only [List.length_drop, List.length_take]; rfl)) ?_; (with_reducible refine (copseref6_Read.calls k a0_0 a0_1 t133 t134 _ A6.out).mono ?_); rintro e w17 ⟨v135, rfl, ho0, hb⟩; refine ⟨_, rfl, ?_⟩; have n0_ := Aside0.mk (Kd.R_elder' (by (with_reducible repeat (first | apply Kd.R_alloc | apply Kd.R_drewN | apply Kd.R_drew)); exact HO124.out) (Kd.R_base ho0) hb); have n1_ := Aside0.mk (Kd.R_elder' (by (with_reducible repeat (first | apply Kd.R_alloc | apply Kd.R_drewN | apply Kd.R_drew)); exact HO128.out) (Kd.R_base ho0) hb); have n2_ := Aside0.mk (Kd.R_elder' (by (with_reducible repeat (first | apply Kd.R_alloc | apply Kd.R_drewN | apply Kd.R_drew)); exact HO132.out) (Kd.R_base ho0) hb); have n3_ := Aside0.mk (Kd.R_lower (Kd.R_new' (Kd.R_new' (Kd.R_new' ho0 (Kd.R_lt (by (with_reducible repeat (first | apply Kd.R_alloc | apply Kd.R_drewN | apply Kd.R_drew)); exact HO124.out))) (Kd.R_lt (by (with_reducible repeat (first | apply Kd.R_alloc | apply Kd.R_drewN | apply Kd.R_drew)); exact HO128.out))) (Kd.R_lt (by (with_reducible repeat (first | apply Kd.R_alloc | apply Kd.R_drewN | apply Kd.R_drew)); exact HO132.out))) (below_size (by repeat (first | (with_reducible first | exact HB.out | apply below_alloc | apply pw_below_drewN | apply below_drew1 | refine below_set ?_ GE120.out) | exact HB.out)))); have n4_ := Aside0.mk (blk_below (g := gb120) (o := .cells #[.int .i64 a0_0, .string a0_1] 35 (0, 0)) (by (with_reducible repeat (first | refine blk_drewN ?_ _ | refine blk_drew ?_ | refine blk_alloc ?_ _)); exact BK120.out) hb); have n5_ := Aside0.mk (below_step (by repeat (first | (with_reducible first | exact HB.out | apply below_alloc | apply pw_below_drewN | apply below_drew1 | refine below_set ?_ GE120.out) | exact HB.out)) hb); clear HO124; clear HO128; clear HO132; clear BK120; clear HB; have HO124 := n0_; have HO128 := n1_; have HO132 := n2_; have HO136 := n3_; have BK120 := n4_; have HB := n5_; clear n0_ n1_ n2_ n3_ n4_ n5_; (try clear hb); (try clear hb2); (try clear hk); (try clear hi); (try clear ho0); have hcz18_0 : w17.cell? ⟨gb120, 0, none⟩ = some (.int .i64 a0_0) := (blk_cell BK120.out 0).trans rfl; have hcz18_1 : w17.cell? ⟨gb120, 1, none⟩ = some (.string a0_1) := (blk_cell BK120.out 1).trans rfl; have hfz18_0 := blk_frozen BK120.out 0; have hfz18_1 := blk_frozen BK120.out 1) | ((with_reducible refine gate_callee (f := 19) rfl ?_); refine goesL_ (some 58) rfl rfl Tryd.func19 (by kernel_rfl) rfl #[.int .i64 a0_0, .string (a0_1 ++ a0_1)] rfl (by (try simp only [List.map_toArray, List.map_cons, List.map_nil]); first | done | rfl | (simp only [List.length_drop, List.length_take]; rfl)) ?_; (with_reducible refine (copseref6_Read.calls k a0_0 (a0_1 ++ a0_1) t137 t138 _ A7.out).mono ?_); rintro e w19 ⟨v139, rfl, ho0, hb⟩; refine ⟨_, rfl, ?_⟩; have n0_ := Aside0.mk (Kd.R_elder' (by (with_reducible repeat (first | apply Kd.R_alloc | apply Kd.R_drewN | apply Kd.R_drew)); exact HO124.out) (Kd.R_base ho0) hb); have n1_ := Aside0.mk (Kd.R_elder' (by (with_reducible repeat (first | apply Kd.R_alloc | apply Kd.R_drewN | apply Kd.R_drew)); exact HO128.out) (Kd.R_base ho0) hb); have n2_ := Aside0.mk (Kd.R_elder' (by (with_reducible repeat (first | apply Kd.R_alloc | apply Kd.R_drewN | apply Kd.R_drew)); exact HO132.out) (Kd.R_base ho0) hb); have n3_ := Aside0.mk (Kd.R_elder' (by (with_reducible repeat (first | apply Kd.R_alloc | apply Kd.R_drewN | apply Kd.R_drew)); exact HO136.out) (Kd.R_base ho0) hb); have n4_ := Aside0.mk (Kd.R_lower (Kd.R_new' (Kd.R_new' (Kd.R_new' (Kd.R_new' ho0 (Kd.R_lt (by (with_reducible repeat (first | apply Kd.R_alloc | apply Kd.R_drewN | apply Kd.R_drew)); exact HO124.out))) (Kd.R_lt (by (with_reducible repeat (first | apply Kd.R_alloc | apply Kd.R_drewN | apply Kd.R_drew)); exact HO128.out))) (Kd.R_lt (by (with_reducible repeat (first | apply Kd.R_alloc | apply Kd.R_drewN | apply Kd.R_drew)); exact HO132.out))) (Kd.R_lt (by (with_reducible repeat (first | apply Kd.R_alloc | apply Kd.R_drewN | apply Kd.R_drew)); exact HO136.out))) (below_size (by repeat (first | (with_reducible first | exact HB.out | apply below_alloc | apply pw_below_drewN | apply below_drew1 | refine below_set ?_ GE120.out) | exact HB.out)))); have n5_ := Aside0.mk (blk_below (g := gb120) (o := .cells #[.int .i64 a0_0, .string a0_1] 35 (0, 0)) (by (with_reducible repeat (first | refine blk_drewN ?_ _ | refine blk_drew ?_ | refine blk_alloc ?_ _)); exact BK120.out) hb); have n6_ := Aside0.mk (below_step (by repeat (first | (with_reducible first | exact HB.out | apply below_alloc | apply pw_below_drewN | apply below_drew1 | refine below_set ?_ GE120.out) | exact HB.out)) hb); clear HO124; clear HO128; clear HO132; clear HO136; clear BK120; clear HB; have HO124 := n0_; have HO128 := n1_; have HO132 := n2_; have HO136 := n3_; have HO140 := n4_; have BK120 := n5_; have HB := n6_; clear n0_ n1_ n2_ n3_ n4_ n5_ n6_; (try clear hb); (try clear hb2); (try clear hk); (try clear hi); (try clear ho0)))
    (try simp only [Act.put, List.setIfInBounds_toArray, List.set_cons_zero, List.set_cons_succ])
    have AP := Aside0.mk (show AP3 v123 v127 v131 v135 from fun k_ => ⟨fun h_ => have q_ := HO124.out.1 k_ h_; ⟨q_.1.1.1.2, q_.1.1.2, q_.1.2⟩, fun h_ => have q_ := HO128.out.1 k_ h_; ⟨q_.1.1.2, q_.1.2⟩, fun h_ => have q_ := HO132.out.1 k_ h_; q_.1.2⟩)
    have LN := Aside0.mk (show t121.length ≤ 4096 ∧ t125.length ≤ 4096 ∧ t129.length ≤ 4096 from ⟨hlens.1 _ _ A2.out, hlens.2 _ _ A4.out, hlens.1 _ _ A5.out⟩)
    go_cut [94] (fun v94 wc => ∃ (kq : Nat) (x94_7 : Bool), v94 = .bool x94_7 ∧ Aside0 (copselaw6_CellsReads.j0 kq t133 t134 x94_7 a0_0 a0_1 = some r) ∧ Aside0 (kq ≤ k) ∧ Aside0 (Kd.R Kd.string 9 wc w.heap.size (fun _ => True) v135 t133) ∧ Aside0 (Kd.R Kd.string 9 wc w.heap.size (fun _ => True) v123 t121) ∧ Aside0 (Kd.R Kd.string 9 wc w.heap.size (fun _ => True) v127 t125) ∧ Aside0 (Kd.R Kd.string 9 wc w.heap.size (fun _ => True) v131 t129) ∧ Aside0 (wc.heap[gb120]? = some (.cells #[.int .i64 a0_0, .string a0_1] 35 (0, 0))) ∧ Aside0 (Below w.heap.size w wc))
    case first =>
      have H := HC8.out
      clear HC8
      replace H := Option.bind_eq_some_iff.mp H
      obtain ⟨t141, A200, H⟩ := H
      replace H : (if t141 = t134 then ((copsekit_Num.f t130).bind fun t142 => (if t142 = t134 then ((copsekit_Num.f t126).bind fun t143 => (if t143 = t138 then ((copseref0_SameStrings.f k t121 t133).bind fun t144 => (if t144 = true then ((copseref0_SameStrings.f k t129 t133).bind fun t145 => (if t145 = true then ((copseref0_SameStrings.f k t125 t137).bind fun t146 => (copselaw6_CellsReads.j0 k t133 t134 (!t146) a0_0 a0_1)) else (copselaw6_CellsReads.j0 k t133 t134 true a0_0 a0_1))) else (copselaw6_CellsReads.j0 k t133 t134 true a0_0 a0_1))) else (copselaw6_CellsReads.j0 k t133 t134 true a0_0 a0_1))) else (copselaw6_CellsReads.j0 k t133 t134 true a0_0 a0_1))) else (copselaw6_CellsReads.j0 k t133 t134 true a0_0 a0_1)) = some r := H
      have A20 := Aside0.mk A200
      clear A200
      by_cases c21 : t141 = t134
      · rw [if_pos c21] at H
        have c21b0 : (t141 == t134) = true := beq_iff_eq.mpr c21
        have c21b1 : (t141 != t134) = false := bne_eq_false_iff_eq.mpr c21
        clear c21
        (first | rw [c21b0] | (simp only [i64_w, i32_w]; rw [c21b0]) | skip)
        replace H := Option.bind_eq_some_iff.mp H
        obtain ⟨t142, A220, H⟩ := H
        replace H : (if t142 = t134 then ((copsekit_Num.f t126).bind fun t143 => (if t143 = t138 then ((copseref0_SameStrings.f k t121 t133).bind fun t144 => (if t144 = true then ((copseref0_SameStrings.f k t129 t133).bind fun t145 => (if t145 = true then ((copseref0_SameStrings.f k t125 t137).bind fun t146 => (copselaw6_CellsReads.j0 k t133 t134 (!t146) a0_0 a0_1)) else (copselaw6_CellsReads.j0 k t133 t134 true a0_0 a0_1))) else (copselaw6_CellsReads.j0 k t133 t134 true a0_0 a0_1))) else (copselaw6_CellsReads.j0 k t133 t134 true a0_0 a0_1))) else (copselaw6_CellsReads.j0 k t133 t134 true a0_0 a0_1)) = some r := H
        have A22 := Aside0.mk A220
        clear A220
        by_cases c23 : t142 = t134
        · rw [if_pos c23] at H
          have c23b0 : (t142 == t134) = true := beq_iff_eq.mpr c23
          have c23b1 : (t142 != t134) = false := bne_eq_false_iff_eq.mpr c23
          clear c23
          replace H := Option.bind_eq_some_iff.mp H
          obtain ⟨t143, A240, H⟩ := H
          replace H : (if t143 = t138 then ((copseref0_SameStrings.f k t121 t133).bind fun t144 => (if t144 = true then ((copseref0_SameStrings.f k t129 t133).bind fun t145 => (if t145 = true then ((copseref0_SameStrings.f k t125 t137).bind fun t146 => (copselaw6_CellsReads.j0 k t133 t134 (!t146) a0_0 a0_1)) else (copselaw6_CellsReads.j0 k t133 t134 true a0_0 a0_1))) else (copselaw6_CellsReads.j0 k t133 t134 true a0_0 a0_1))) else (copselaw6_CellsReads.j0 k t133 t134 true a0_0 a0_1)) = some r := H
          have A24 := Aside0.mk A240
          clear A240
          by_cases c25 : t143 = t138
          · rw [if_pos c25] at H
            have c25b0 : (t143 == t138) = true := beq_iff_eq.mpr c25
            have c25b1 : (t143 != t138) = false := bne_eq_false_iff_eq.mpr c25
            clear c25
            replace H := Option.bind_eq_some_iff.mp H
            obtain ⟨t144, A260, H⟩ := H
            replace H : (if t144 = true then ((copseref0_SameStrings.f k t129 t133).bind fun t145 => (if t145 = true then ((copseref0_SameStrings.f k t125 t137).bind fun t146 => (copselaw6_CellsReads.j0 k t133 t134 (!t146) a0_0 a0_1)) else (copselaw6_CellsReads.j0 k t133 t134 true a0_0 a0_1))) else (copselaw6_CellsReads.j0 k t133 t134 true a0_0 a0_1)) = some r := H
            have A26 := Aside0.mk A260
            clear A260
            by_cases c27 : t144 = true
            · subst c27
              have H1 : ((copseref0_SameStrings.f k t129 t133).bind fun t145 => (if t145 = true then ((copseref0_SameStrings.f k t125 t137).bind fun t146 => (copselaw6_CellsReads.j0 k t133 t134 (!t146) a0_0 a0_1)) else (copselaw6_CellsReads.j0 k t133 t134 true a0_0 a0_1))) = some r := by rw [if_pos rfl] at H; exact H
              clear H
              have H := H1
              clear H1
              replace H := Option.bind_eq_some_iff.mp H
              obtain ⟨t145, A280, H⟩ := H
              replace H : (if t145 = true then ((copseref0_SameStrings.f k t125 t137).bind fun t146 => (copselaw6_CellsReads.j0 k t133 t134 (!t146) a0_0 a0_1)) else (copselaw6_CellsReads.j0 k t133 t134 true a0_0 a0_1)) = some r := H
              have A28 := Aside0.mk A280
              clear A280
              by_cases c29 : t145 = true
              · subst c29
                have H1 : ((copseref0_SameStrings.f k t125 t137).bind fun t146 => (copselaw6_CellsReads.j0 k t133 t134 (!t146) a0_0 a0_1)) = some r := by rw [if_pos rfl] at H; exact H
                clear H
                have H := H1
                clear H1
                replace H := Option.bind_eq_some_iff.mp H
                obtain ⟨t146, A300, H⟩ := H
                replace H : (copselaw6_CellsReads.j0 k t133 t134 (!t146) a0_0 a0_1) = some r := H
                have A30 := Aside0.mk A300
                clear A300
                have H' := Aside0.mk H
                clear H
                have CA20 := fun (W : World) (hG_ : Glob E W) => copsekit_Num.calls E t122 t141 W hG_ A20.out
                try simp only [errW_none, errW_some] at CA20
                go_wp2_with (first | (go_at_call 16; (with_reducible refine (CA20 _ ?side1).mono ?_); (case side1 => exact (Glob.below HG.out (by repeat (first | (with_reducible first | exact HB.out | apply below_alloc | apply pw_below_drewN | apply below_drew1 | refine below_set ?_ GE120.out) | exact HB.out)))); rintro e w' ⟨rfl, ⟨nd, rfl⟩⟩; have CA22 := fun (W : World) (hG_ : Glob E W) => copsekit_Num.calls E t130 t142 W hG_ A22.out; try simp only [errW_none, errW_some] at CA22) | (go_at_call 16; (with_reducible refine (CA22 _ ?side1).mono ?_); (case side1 => exact (Glob.below HG.out (by repeat (first | (with_reducible first | exact HB.out | apply below_alloc | apply pw_below_drewN | apply below_drew1 | refine below_set ?_ GE120.out) | exact HB.out)))); rintro e w' ⟨rfl, ⟨nd, rfl⟩⟩; have CA24 := fun (W : World) (hG_ : Glob E W) => copsekit_Num.calls E t126 t143 W hG_ A24.out; try simp only [errW_none, errW_some] at CA24) | (go_at_call 16; (with_reducible refine (CA24 _ ?side1).mono ?_); (case side1 => exact (Glob.below HG.out (by repeat (first | (with_reducible first | exact HB.out | apply below_alloc | apply pw_below_drewN | apply below_drew1 | refine below_set ?_ GE120.out) | exact HB.out)))); rintro e w' ⟨rfl, ⟨nd, rfl⟩⟩; obtain ⟨Ao31, co31, eo31⟩ := Kd.R_slice HO124.out; subst eo31; obtain ⟨Ao32, co32, eo32⟩ := Kd.R_slice HO136.out; subst eo32) | (go_at_call 14; (with_reducible refine (copseref0_SameStrings.calls k _ _ t121 _ _ t133 true _ ?side1 ?side2 ?side3 ?side4 A26.out).mono ?_); (case side1 => repeat (first | exact (Kd.R_reads' HO124.out).2.2 | (with_reducible refine Kd.C_alloc ?_ _) | (with_reducible refine Kd.C_drewN ?_ _) | (with_reducible refine Kd.C_drew ?_))); (case side2 => exact (Kd.R_reads' HO124.out).2.1); (case side3 => repeat (first | exact (Kd.R_reads' HO136.out).2.2 | (with_reducible refine Kd.C_alloc ?_ _) | (with_reducible refine Kd.C_drewN ?_ _) | (with_reducible refine Kd.C_drew ?_))); (case side4 => exact (Kd.R_reads' HO136.out).2.1); rintro e w' ⟨rfl, ⟨nd, rfl⟩⟩; obtain ⟨Ao33, co33, eo33⟩ := Kd.R_slice HO132.out; subst eo33) | (go_at_call 14; (with_reducible refine (copseref0_SameStrings.calls k _ _ t129 _ _ t133 true _ ?side1 ?side2 ?side3 ?side4 A28.out).mono ?_); (case side1 => repeat (first | exact (Kd.R_reads' HO132.out).2.2 | (with_reducible refine Kd.C_alloc ?_ _) | (with_reducible refine Kd.C_drewN ?_ _) | (with_reducible refine Kd.C_drew ?_))); (case side2 => exact (Kd.R_reads' HO132.out).2.1); (case side3 => repeat (first | exact (Kd.R_reads' HO136.out).2.2 | (with_reducible refine Kd.C_alloc ?_ _) | (with_reducible refine Kd.C_drewN ?_ _) | (with_reducible refine Kd.C_drew ?_))); (case side4 => exact (Kd.R_reads' HO136.out).2.1); rintro e w' ⟨rfl, ⟨nd, rfl⟩⟩; obtain ⟨Ao34, co34, eo34⟩ := Kd.R_slice HO128.out; subst eo34; obtain ⟨Ao35, co35, eo35⟩ := Kd.R_slice HO140.out; subst eo35) | (go_at_call 14; (with_reducible refine (copseref0_SameStrings.calls k _ _ t125 _ _ t137 t146 _ ?side1 ?side2 ?side3 ?side4 A30.out).mono ?_); (case side1 => repeat (first | exact (Kd.R_reads' HO128.out).2.2 | (with_reducible refine Kd.C_alloc ?_ _) | (with_reducible refine Kd.C_drewN ?_ _) | (with_reducible refine Kd.C_drew ?_))); (case side2 => exact (Kd.R_reads' HO128.out).2.1); (case side3 => repeat (first | exact (Kd.R_reads' HO140.out).2.2 | (with_reducible refine Kd.C_alloc ?_ _) | (with_reducible refine Kd.C_drewN ?_ _) | (with_reducible refine Kd.C_drew ?_))); (case side4 => exact (Kd.R_reads' HO140.out).2.1); rintro e w' ⟨rfl, ⟨nd, rfl⟩⟩))
                go_meet
                case rel => exact ⟨_, (!t146), (by first | rfl | (simp; done) | (simp [*]; done)), H', ⟨by first | omega | exact Nat.le_refl _⟩, ⟨by (with_reducible repeat (first | apply Kd.R_alloc | apply Kd.R_drewN | apply Kd.R_drew)); exact Kd.R_mono HO136.out (fun _ hk => trivial)⟩, ⟨by (with_reducible repeat (first | apply Kd.R_alloc | apply Kd.R_drewN | apply Kd.R_drew)); exact Kd.R_mono HO124.out (fun _ hk => trivial)⟩, ⟨by (with_reducible repeat (first | apply Kd.R_alloc | apply Kd.R_drewN | apply Kd.R_drew)); exact Kd.R_mono HO128.out (fun _ hk => trivial)⟩, ⟨by (with_reducible repeat (first | apply Kd.R_alloc | apply Kd.R_drewN | apply Kd.R_drew)); exact Kd.R_mono HO132.out (fun _ hk => trivial)⟩, ⟨by (with_reducible repeat (first | refine blk_drewN ?_ _ | refine blk_drew ?_ | refine blk_alloc ?_ _)); exact BK120.out⟩, ⟨by repeat (first | (with_reducible first | exact HB.out | apply below_alloc | apply pw_below_drewN | apply below_drew1 | refine below_set ?_ GE120.out) | exact HB.out)⟩⟩
              · replace c29 := Bool.eq_false_iff.mpr c29
                subst c29
                have H1 : (copselaw6_CellsReads.j0 k t133 t134 true a0_0 a0_1) = some r := by rw [if_neg (show ¬ (false = true) by decide)] at H; exact H
                clear H
                have H := H1
                clear H1
                have H' := Aside0.mk H
                clear H
                have CA20 := fun (W : World) (hG_ : Glob E W) => copsekit_Num.calls E t122 t141 W hG_ A20.out
                try simp only [errW_none, errW_some] at CA20
                go_wp2_with (first | (go_at_call 16; (with_reducible refine (CA20 _ ?side1).mono ?_); (case side1 => exact (Glob.below HG.out (by repeat (first | (with_reducible first | exact HB.out | apply below_alloc | apply pw_below_drewN | apply below_drew1 | refine below_set ?_ GE120.out) | exact HB.out)))); rintro e w' ⟨rfl, ⟨nd, rfl⟩⟩; have CA22 := fun (W : World) (hG_ : Glob E W) => copsekit_Num.calls E t130 t142 W hG_ A22.out; try simp only [errW_none, errW_some] at CA22) | (go_at_call 16; (with_reducible refine (CA22 _ ?side1).mono ?_); (case side1 => exact (Glob.below HG.out (by repeat (first | (with_reducible first | exact HB.out | apply below_alloc | apply pw_below_drewN | apply below_drew1 | refine below_set ?_ GE120.out) | exact HB.out)))); rintro e w' ⟨rfl, ⟨nd, rfl⟩⟩; have CA24 := fun (W : World) (hG_ : Glob E W) => copsekit_Num.calls E t126 t143 W hG_ A24.out; try simp only [errW_none, errW_some] at CA24) | (go_at_call 16; (with_reducible refine (CA24 _ ?side1).mono ?_); (case side1 => exact (Glob.below HG.out (by repeat (first | (with_reducible first | exact HB.out | apply below_alloc | apply pw_below_drewN | apply below_drew1 | refine below_set ?_ GE120.out) | exact HB.out)))); rintro e w' ⟨rfl, ⟨nd, rfl⟩⟩; obtain ⟨Ao36, co36, eo36⟩ := Kd.R_slice HO124.out; subst eo36; obtain ⟨Ao37, co37, eo37⟩ := Kd.R_slice HO136.out; subst eo37) | (go_at_call 14; (with_reducible refine (copseref0_SameStrings.calls k _ _ t121 _ _ t133 true _ ?side1 ?side2 ?side3 ?side4 A26.out).mono ?_); (case side1 => repeat (first | exact (Kd.R_reads' HO124.out).2.2 | (with_reducible refine Kd.C_alloc ?_ _) | (with_reducible refine Kd.C_drewN ?_ _) | (with_reducible refine Kd.C_drew ?_))); (case side2 => exact (Kd.R_reads' HO124.out).2.1); (case side3 => repeat (first | exact (Kd.R_reads' HO136.out).2.2 | (with_reducible refine Kd.C_alloc ?_ _) | (with_reducible refine Kd.C_drewN ?_ _) | (with_reducible refine Kd.C_drew ?_))); (case side4 => exact (Kd.R_reads' HO136.out).2.1); rintro e w' ⟨rfl, ⟨nd, rfl⟩⟩; obtain ⟨Ao38, co38, eo38⟩ := Kd.R_slice HO132.out; subst eo38) | (go_at_call 14; (with_reducible refine (copseref0_SameStrings.calls k _ _ t129 _ _ t133 false _ ?side1 ?side2 ?side3 ?side4 A28.out).mono ?_); (case side1 => repeat (first | exact (Kd.R_reads' HO132.out).2.2 | (with_reducible refine Kd.C_alloc ?_ _) | (with_reducible refine Kd.C_drewN ?_ _) | (with_reducible refine Kd.C_drew ?_))); (case side2 => exact (Kd.R_reads' HO132.out).2.1); (case side3 => repeat (first | exact (Kd.R_reads' HO136.out).2.2 | (with_reducible refine Kd.C_alloc ?_ _) | (with_reducible refine Kd.C_drewN ?_ _) | (with_reducible refine Kd.C_drew ?_))); (case side4 => exact (Kd.R_reads' HO136.out).2.1); rintro e w' ⟨rfl, ⟨nd, rfl⟩⟩))
                go_meet
                case rel => exact ⟨_, (true), (by first | rfl | (simp; done) | (simp [*]; done)), H', ⟨by first | omega | exact Nat.le_refl _⟩, ⟨by (with_reducible repeat (first | apply Kd.R_alloc | apply Kd.R_drewN | apply Kd.R_drew)); exact Kd.R_mono HO136.out (fun _ hk => trivial)⟩, ⟨by (with_reducible repeat (first | apply Kd.R_alloc | apply Kd.R_drewN | apply Kd.R_drew)); exact Kd.R_mono HO124.out (fun _ hk => trivial)⟩, ⟨by (with_reducible repeat (first | apply Kd.R_alloc | apply Kd.R_drewN | apply Kd.R_drew)); exact Kd.R_mono HO128.out (fun _ hk => trivial)⟩, ⟨by (with_reducible repeat (first | apply Kd.R_alloc | apply Kd.R_drewN | apply Kd.R_drew)); exact Kd.R_mono HO132.out (fun _ hk => trivial)⟩, ⟨by (with_reducible repeat (first | refine blk_drewN ?_ _ | refine blk_drew ?_ | refine blk_alloc ?_ _)); exact BK120.out⟩, ⟨by repeat (first | (with_reducible first | exact HB.out | apply below_alloc | apply pw_below_drewN | apply below_drew1 | refine below_set ?_ GE120.out) | exact HB.out)⟩⟩
            · replace c27 := Bool.eq_false_iff.mpr c27
              subst c27
              have H1 : (copselaw6_CellsReads.j0 k t133 t134 true a0_0 a0_1) = some r := by rw [if_neg (show ¬ (false = true) by decide)] at H; exact H
              clear H
              have H := H1
              clear H1
              have H' := Aside0.mk H
              clear H
              have CA20 := fun (W : World) (hG_ : Glob E W) => copsekit_Num.calls E t122 t141 W hG_ A20.out
              try simp only [errW_none, errW_some] at CA20
              go_wp2_with (first | (go_at_call 16; (with_reducible refine (CA20 _ ?side1).mono ?_); (case side1 => exact (Glob.below HG.out (by repeat (first | (with_reducible first | exact HB.out | apply below_alloc | apply pw_below_drewN | apply below_drew1 | refine below_set ?_ GE120.out) | exact HB.out)))); rintro e w' ⟨rfl, ⟨nd, rfl⟩⟩; have CA22 := fun (W : World) (hG_ : Glob E W) => copsekit_Num.calls E t130 t142 W hG_ A22.out; try simp only [errW_none, errW_some] at CA22) | (go_at_call 16; (with_reducible refine (CA22 _ ?side1).mono ?_); (case side1 => exact (Glob.below HG.out (by repeat (first | (with_reducible first | exact HB.out | apply below_alloc | apply pw_below_drewN | apply below_drew1 | refine below_set ?_ GE120.out) | exact HB.out)))); rintro e w' ⟨rfl, ⟨nd, rfl⟩⟩; have CA24 := fun (W : World) (hG_ : Glob E W) => copsekit_Num.calls E t126 t143 W hG_ A24.out; try simp only [errW_none, errW_some] at CA24) | (go_at_call 16; (with_reducible refine (CA24 _ ?side1).mono ?_); (case side1 => exact (Glob.below HG.out (by repeat (first | (with_reducible first | exact HB.out | apply below_alloc | apply pw_below_drewN | apply below_drew1 | refine below_set ?_ GE120.out) | exact HB.out)))); rintro e w' ⟨rfl, ⟨nd, rfl⟩⟩; obtain ⟨Ao39, co39, eo39⟩ := Kd.R_slice HO124.out; subst eo39; obtain ⟨Ao40, co40, eo40⟩ := Kd.R_slice HO136.out; subst eo40) | (go_at_call 14; (with_reducible refine (copseref0_SameStrings.calls k _ _ t121 _ _ t133 false _ ?side1 ?side2 ?side3 ?side4 A26.out).mono ?_); (case side1 => repeat (first | exact (Kd.R_reads' HO124.out).2.2 | (with_reducible refine Kd.C_alloc ?_ _) | (with_reducible refine Kd.C_drewN ?_ _) | (with_reducible refine Kd.C_drew ?_))); (case side2 => exact (Kd.R_reads' HO124.out).2.1); (case side3 => repeat (first | exact (Kd.R_reads' HO136.out).2.2 | (with_reducible refine Kd.C_alloc ?_ _) | (with_reducible refine Kd.C_drewN ?_ _) | (with_reducible refine Kd.C_drew ?_))); (case side4 => exact (Kd.R_reads' HO136.out).2.1); rintro e w' ⟨rfl, ⟨nd, rfl⟩⟩))
              go_meet
              case rel => exact ⟨_, (true), (by first | rfl | (simp; done) | (simp [*]; done)), H', ⟨by first | omega | exact Nat.le_refl _⟩, ⟨by (with_reducible repeat (first | apply Kd.R_alloc | apply Kd.R_drewN | apply Kd.R_drew)); exact Kd.R_mono HO136.out (fun _ hk => trivial)⟩, ⟨by (with_reducible repeat (first | apply Kd.R_alloc | apply Kd.R_drewN | apply Kd.R_drew)); exact Kd.R_mono HO124.out (fun _ hk => trivial)⟩, ⟨by (with_reducible repeat (first | apply Kd.R_alloc | apply Kd.R_drewN | apply Kd.R_drew)); exact Kd.R_mono HO128.out (fun _ hk => trivial)⟩, ⟨by (with_reducible repeat (first | apply Kd.R_alloc | apply Kd.R_drewN | apply Kd.R_drew)); exact Kd.R_mono HO132.out (fun _ hk => trivial)⟩, ⟨by (with_reducible repeat (first | refine blk_drewN ?_ _ | refine blk_drew ?_ | refine blk_alloc ?_ _)); exact BK120.out⟩, ⟨by repeat (first | (with_reducible first | exact HB.out | apply below_alloc | apply pw_below_drewN | apply below_drew1 | refine below_set ?_ GE120.out) | exact HB.out)⟩⟩
          · rw [if_neg c25] at H
            have c25b0 : (t143 == t138) = false := beq_eq_false_iff_ne.mpr c25
            have c25b1 : (t143 != t138) = true := bne_iff_ne.mpr c25
            have H' := Aside0.mk H
            clear H
            have CA20 := fun (W : World) (hG_ : Glob E W) => copsekit_Num.calls E t122 t141 W hG_ A20.out
            try simp only [errW_none, errW_some] at CA20
            go_wp2_with (first | (go_at_call 16; (with_reducible refine (CA20 _ ?side1).mono ?_); (case side1 => exact (Glob.below HG.out (by repeat (first | (with_reducible first | exact HB.out | apply below_alloc | apply pw_below_drewN | apply below_drew1 | refine below_set ?_ GE120.out) | exact HB.out)))); rintro e w' ⟨rfl, ⟨nd, rfl⟩⟩; have CA22 := fun (W : World) (hG_ : Glob E W) => copsekit_Num.calls E t130 t142 W hG_ A22.out; try simp only [errW_none, errW_some] at CA22) | (go_at_call 16; (with_reducible refine (CA22 _ ?side1).mono ?_); (case side1 => exact (Glob.below HG.out (by repeat (first | (with_reducible first | exact HB.out | apply below_alloc | apply pw_below_drewN | apply below_drew1 | refine below_set ?_ GE120.out) | exact HB.out)))); rintro e w' ⟨rfl, ⟨nd, rfl⟩⟩; have CA24 := fun (W : World) (hG_ : Glob E W) => copsekit_Num.calls E t126 t143 W hG_ A24.out; try simp only [errW_none, errW_some] at CA24) | (go_at_call 16; (with_reducible refine (CA24 _ ?side1).mono ?_); (case side1 => exact (Glob.below HG.out (by repeat (first | (with_reducible first | exact HB.out | apply below_alloc | apply pw_below_drewN | apply below_drew1 | refine below_set ?_ GE120.out) | exact HB.out)))); rintro e w' ⟨rfl, ⟨nd, rfl⟩⟩))
            go_meet
            case rel => exact ⟨_, (true), (by first | rfl | (simp; done) | (simp [*]; done)), H', ⟨by first | omega | exact Nat.le_refl _⟩, ⟨by (with_reducible repeat (first | apply Kd.R_alloc | apply Kd.R_drewN | apply Kd.R_drew)); exact Kd.R_mono HO136.out (fun _ hk => trivial)⟩, ⟨by (with_reducible repeat (first | apply Kd.R_alloc | apply Kd.R_drewN | apply Kd.R_drew)); exact Kd.R_mono HO124.out (fun _ hk => trivial)⟩, ⟨by (with_reducible repeat (first | apply Kd.R_alloc | apply Kd.R_drewN | apply Kd.R_drew)); exact Kd.R_mono HO128.out (fun _ hk => trivial)⟩, ⟨by (with_reducible repeat (first | apply Kd.R_alloc | apply Kd.R_drewN | apply Kd.R_drew)); exact Kd.R_mono HO132.out (fun _ hk => trivial)⟩, ⟨by (with_reducible repeat (first | refine blk_drewN ?_ _ | refine blk_drew ?_ | refine blk_alloc ?_ _)); exact BK120.out⟩, ⟨by repeat (first | (with_reducible first | exact HB.out | apply below_alloc | apply pw_below_drewN | apply below_drew1 | refine below_set ?_ GE120.out) | exact HB.out)⟩⟩
        · rw [if_neg c23] at H
          have c23b0 : (t142 == t134) = false := beq_eq_false_iff_ne.mpr c23
          have c23b1 : (t142 != t134) = true := bne_iff_ne.mpr c23
          have H' := Aside0.mk H
          clear H
          have CA20 := fun (W : World) (hG_ : Glob E W) => copsekit_Num.calls E t122 t141 W hG_ A20.out
          try simp only [errW_none, errW_some] at CA20
          go_wp2_with (first | (go_at_call 16; (with_reducible refine (CA20 _ ?side1).mono ?_); (case side1 => exact (Glob.below HG.out (by repeat (first | (with_reducible first | exact HB.out | apply below_alloc | apply pw_below_drewN | apply below_drew1 | refine below_set ?_ GE120.out) | exact HB.out)))); rintro e w' ⟨rfl, ⟨nd, rfl⟩⟩; have CA22 := fun (W : World) (hG_ : Glob E W) => copsekit_Num.calls E t130 t142 W hG_ A22.out; try simp only [errW_none, errW_some] at CA22) | (go_at_call 16; (with_reducible refine (CA22 _ ?side1).mono ?_); (case side1 => exact (Glob.below HG.out (by repeat (first | (with_reducible first | exact HB.out | apply below_alloc | apply pw_below_drewN | apply below_drew1 | refine below_set ?_ GE120.out) | exact HB.out)))); rintro e w' ⟨rfl, ⟨nd, rfl⟩⟩))
          go_meet
          case rel => exact ⟨_, (true), (by first | rfl | (simp; done) | (simp [*]; done)), H', ⟨by first | omega | exact Nat.le_refl _⟩, ⟨by (with_reducible repeat (first | apply Kd.R_alloc | apply Kd.R_drewN | apply Kd.R_drew)); exact Kd.R_mono HO136.out (fun _ hk => trivial)⟩, ⟨by (with_reducible repeat (first | apply Kd.R_alloc | apply Kd.R_drewN | apply Kd.R_drew)); exact Kd.R_mono HO124.out (fun _ hk => trivial)⟩, ⟨by (with_reducible repeat (first | apply Kd.R_alloc | apply Kd.R_drewN | apply Kd.R_drew)); exact Kd.R_mono HO128.out (fun _ hk => trivial)⟩, ⟨by (with_reducible repeat (first | apply Kd.R_alloc | apply Kd.R_drewN | apply Kd.R_drew)); exact Kd.R_mono HO132.out (fun _ hk => trivial)⟩, ⟨by (with_reducible repeat (first | refine blk_drewN ?_ _ | refine blk_drew ?_ | refine blk_alloc ?_ _)); exact BK120.out⟩, ⟨by repeat (first | (with_reducible first | exact HB.out | apply below_alloc | apply pw_below_drewN | apply below_drew1 | refine below_set ?_ GE120.out) | exact HB.out)⟩⟩
      · rw [if_neg c21] at H
        have c21b0 : (t141 == t134) = false := beq_eq_false_iff_ne.mpr c21
        have c21b1 : (t141 != t134) = true := bne_iff_ne.mpr c21
        (first | rw [c21b0] | (simp only [i64_w, i32_w]; rw [c21b0]) | skip)
        have H' := Aside0.mk H
        clear H
        have CA20 := fun (W : World) (hG_ : Glob E W) => copsekit_Num.calls E t122 t141 W hG_ A20.out
        try simp only [errW_none, errW_some] at CA20
        go_wp2_with (first | (go_at_call 16; (with_reducible refine (CA20 _ ?side1).mono ?_); (case side1 => exact (Glob.below HG.out (by repeat (first | (with_reducible first | exact HB.out | apply below_alloc | apply pw_below_drewN | apply below_drew1 | refine below_set ?_ GE120.out) | exact HB.out)))); rintro e w' ⟨rfl, ⟨nd, rfl⟩⟩))
        go_meet
        case rel => exact ⟨_, (true), (by first | rfl | (simp; done) | (simp [*]; done)), H', ⟨by first | omega | exact Nat.le_refl _⟩, ⟨by (with_reducible repeat (first | apply Kd.R_alloc | apply Kd.R_drewN | apply Kd.R_drew)); exact Kd.R_mono HO136.out (fun _ hk => trivial)⟩, ⟨by (with_reducible repeat (first | apply Kd.R_alloc | apply Kd.R_drewN | apply Kd.R_drew)); exact Kd.R_mono HO124.out (fun _ hk => trivial)⟩, ⟨by (with_reducible repeat (first | apply Kd.R_alloc | apply Kd.R_drewN | apply Kd.R_drew)); exact Kd.R_mono HO128.out (fun _ hk => trivial)⟩, ⟨by (with_reducible repeat (first | apply Kd.R_alloc | apply Kd.R_drewN | apply Kd.R_drew)); exact Kd.R_mono HO132.out (fun _ hk => trivial)⟩, ⟨by (with_reducible repeat (first | refine blk_drewN ?_ _ | refine blk_drew ?_ | refine blk_alloc ?_ _)); exact BK120.out⟩, ⟨by repeat (first | (with_reducible first | exact HB.out | apply below_alloc | apply pw_below_drewN | apply below_drew1 | refine below_set ?_ GE120.out) | exact HB.out)⟩⟩
    case rest =>
      clear HC8
      try clear c1
      try clear c2
      try clear p2
      try clear c3
      try clear c3b0
      try clear c3b1
      try clear c3b2
      try clear c4
      try clear c18
      try clear c19
      try clear c21
      try clear c21b0
      try clear c21b1
      try clear c23
      try clear c23b0
      try clear c23b1
      try clear c25
      try clear c25b0
      try clear c25b1
      try clear c27
      try clear c29
      try clear hcz10_0
      try clear hcz10_1
      try clear hcz12_0
      try clear hcz12_1
      try clear hcz14_0
      try clear hcz14_1
      try clear hcz16_0
      try clear hcz16_1
      try clear hcz18_0
      try clear hcz18_1
      try clear hfz10_0
      try clear hfz10_1
      try clear hfz12_0
      try clear hfz12_1
      try clear hfz14_0
      try clear hfz14_1
      try clear hfz16_0
      try clear hfz16_1
      try clear hfz18_0
      try clear hfz18_1
      obtain ⟨kq, x94_7, rfl, HA, HJ7, HO_9, HRl, HRo, HRk, BK120, HB⟩ := hcut
      cases kq with
      | zero => exact absurd HA.out (by simp [copselaw6_CellsReads.j0])
      | succ kj7 =>
        have H := HA.out
        clear HA
        simp only [copselaw6_CellsReads.j0] at H
        by_cases c41 : x94_7 = true
        · subst c41
          have H1 : (some false) = some r := by rw [if_pos rfl] at H; exact H
          clear H
          have H := H1
          clear H1
          obtain rfl := Option.some.inj H
          go_wp2
          go_ret
          exact ⟨by first | rfl | (simp [errW_none, errW_some] <;> rfl) | (simp [*, errW_none, errW_some] <;> rfl), by repeat (first | (with_reducible first | exact HB.out | apply below_alloc | apply pw_below_drewN | apply below_drew1 | refine below_set ?_ GE120.out) | exact HB.out)⟩
        · replace c41 := Bool.eq_false_iff.mpr c41
          subst c41
          have H1 : ((cells_Read.f kj7 a0_0 a0_1).bind fun bt147 => ((copsekit_Num.f bt147.2).bind fun t151 => (if t151 = t134 then ((copseref0_SameStrings.f kj7 bt147.1 t133).bind fun t152 => (some t152)) else (some false)))) = some r := by rw [if_neg (show ¬ (false = true) by decide)] at H; exact H
          clear H
          have H := H1
          clear H1
          replace H := Option.bind_eq_some_iff.mp H
          obtain ⟨⟨t147, t148⟩, A420, H⟩ := H
          replace H : ((copsekit_Num.f t148).bind fun t151 => (if t151 = t134 then ((copseref0_SameStrings.f kj7 t147 t133).bind fun t152 => (some t152)) else (some false))) = some r := H
          have A42 := Aside0.mk A420
          clear A420
          replace H := Option.bind_eq_some_iff.mp H
          obtain ⟨t151, A430, H⟩ := H
          replace H : (if t151 = t134 then ((copseref0_SameStrings.f kj7 t147 t133).bind fun t152 => (some t152)) else (some false)) = some r := H
          have A43 := Aside0.mk A430
          clear A430
          by_cases c44 : t151 = t134
          · rw [if_pos c44] at H
            have c44b0 : (t151 == t134) = true := beq_iff_eq.mpr c44
            have c44b1 : (t151 != t134) = false := bne_eq_false_iff_eq.mpr c44
            clear c44
            replace H := Option.bind_eq_some_iff.mp H
            obtain ⟨t152, A450, H⟩ := H
            replace H : (some t152) = some r := H
            have A45 := Aside0.mk A450
            clear A450
            obtain rfl := Option.some.inj H
            have hRl := HRl.out
            have hRo := HRo.out
            have hRk := HRk.out
            have hAP := AP.out
            obtain ⟨Al9, cl9, el9⟩ := Kd.R_slice hRl
            subst el9
            obtain ⟨Ao9, co9, eo9⟩ := Kd.R_slice hRo
            subst eo9
            obtain ⟨Ak9, ck9, ek9⟩ := Kd.R_slice hRk
            subst ek9
            have HQ9 := Aside0.mk (rows3 hRl hRo hRk hAP HB.out)
            have HL9 := Aside0.mk hRl
            have HO9 := Aside0.mk hRo
            have HK9 := Aside0.mk hRk
            have HAP9 := Aside0.mk hAP
            clear hRl hRo hRk hAP HRl HRo HRk AP
            have hcz46_0 : wc.cell? ⟨gb120, 0, none⟩ = some (.int .i64 a0_0) := (blk_cell BK120.out 0).trans rfl
            have hcz46_1 : wc.cell? ⟨gb120, 1, none⟩ = some (.string a0_1) := (blk_cell BK120.out 1).trans rfl
            have hfz46_0 := blk_frozen BK120.out 0
            have hfz46_1 := blk_frozen BK120.out 1
            go_wp2_with (first | ((go_at_call 20; refine (copselaw6_lone.calls w _ ⟨wc.heap.size, 0, none⟩ 3 3 _ _ HQ9.out (by decide) (fun i_ h_ => by obtain ⟨h1_, h2_, h3_⟩ := LN.out; rcases three_cases h_ with rfl | rfl | rfl <;> assumption)).mono ?_); rintro e w90 ⟨rfl, Y9, hr9⟩; have n0_ := Aside0.mk (rows3_row HAP9.out HO_9.out hr9); have n1_ := Aside0.mk (rows3_blk HL9.out HO9.out HK9.out BK120.out hr9); have n2_ := Aside0.mk hr9.below; clear HO_9; clear BK120; clear HB; have HO_9 := n0_; have BK120 := n1_; have HB := n2_; clear n0_ n1_ n2_ hr9; have hcz90_0 : w90.cell? ⟨gb120, 0, none⟩ = some (.int .i64 a0_0) := (blk_cell BK120.out 0).trans rfl; have hcz90_1 : w90.cell? ⟨gb120, 1, none⟩ = some (.string a0_1) := (blk_cell BK120.out 1).trans rfl; have hfz90_0 := blk_frozen BK120.out 0; have hfz90_1 := blk_frozen BK120.out 1) | ((with_reducible refine gate_callee (f := 18) rfl ?_); refine goesL_ (some 106) rfl rfl Tryd.func18 (by kernel_rfl) rfl #[.int .i64 a0_0, .string a0_1] rfl (by (try simp only [List.map_toArray, List.map_cons, List.map_nil]); first | done | rfl | (simp only [List.length_drop, List.length_take]; rfl)) ?_; (with_reducible refine (cells_Read.calls kj7 E a0_0 a0_1 t147 t148 _ ?side1 A42.out).mono ?_); (case side1 => exact (Glob.below HG.out (by repeat (first | (with_reducible first | exact HB.out | apply below_alloc | apply pw_below_drewN | apply below_drew1 | refine below_set ?_ GE120.out) | exact HB.out)))); rintro e w47 ⟨v149, rfl, ho0, hb⟩; refine ⟨_, rfl, ?_⟩; have n0_ := Aside0.mk (Kd.R_elder' (by (with_reducible repeat (first | apply Kd.R_alloc | apply Kd.R_drewN | apply Kd.R_drew)); exact HO_9.out) (Kd.R_base ho0) hb); have n1_ := Aside0.mk (Kd.R_lower (Kd.R_new' ho0 (Kd.R_lt (by (with_reducible repeat (first | apply Kd.R_alloc | apply Kd.R_drewN | apply Kd.R_drew)); exact HO_9.out))) (below_size (by repeat (first | (with_reducible first | exact HB.out | apply below_alloc | apply pw_below_drewN | apply below_drew1 | refine below_set ?_ GE120.out) | exact HB.out)))); have n2_ := Aside0.mk (blk_below (g := gb120) (o := .cells #[.int .i64 a0_0, .string a0_1] 35 (0, 0)) (by (with_reducible repeat (first | refine blk_drewN ?_ _ | refine blk_drew ?_ | refine blk_alloc ?_ _)); exact BK120.out) hb); have n3_ := Aside0.mk (below_step (by repeat (first | (with_reducible first | exact HB.out | apply below_alloc | apply pw_below_drewN | apply below_drew1 | refine below_set ?_ GE120.out) | exact HB.out)) hb); clear HO_9; clear BK120; clear HB; have HO_9 := n0_; have HO150 := n1_; have BK120 := n2_; have HB := n3_; clear n0_ n1_ n2_ n3_; (try clear hb); (try clear hb2); (try clear hk); (try clear hi); (try clear ho0); (try simp only [errW_none, errW_some]); have CA43 := fun (W : World) (hG_ : Glob E W) => copsekit_Num.calls E t148 t151 W hG_ A43.out; try simp only [errW_none, errW_some] at CA43) | (go_at_call 16; (with_reducible refine (CA43 _ ?side1).mono ?_); (case side1 => exact (Glob.below HG.out (by repeat (first | (with_reducible first | exact HB.out | apply below_alloc | apply pw_below_drewN | apply below_drew1 | refine below_set ?_ GE120.out) | exact HB.out)))); rintro e w' ⟨rfl, ⟨nd, rfl⟩⟩; obtain ⟨Ao48, co48, eo48⟩ := Kd.R_slice HO150.out; subst eo48; obtain ⟨Ao49, co49, eo49⟩ := Kd.R_slice HO_9.out; subst eo49) | (go_at_call 14; (with_reducible refine (copseref0_SameStrings.calls kj7 _ _ t147 _ _ t133 t152 _ ?side1 ?side2 ?side3 ?side4 A45.out).mono ?_); (case side1 => repeat (first | exact (Kd.R_reads' HO150.out).2.2 | (with_reducible refine Kd.C_alloc ?_ _) | (with_reducible refine Kd.C_drewN ?_ _) | (with_reducible refine Kd.C_drew ?_))); (case side2 => exact (Kd.R_reads' HO150.out).2.1); (case side3 => repeat (first | exact (Kd.R_reads' HO_9.out).2.2 | (with_reducible refine Kd.C_alloc ?_ _) | (with_reducible refine Kd.C_drewN ?_ _) | (with_reducible refine Kd.C_drew ?_))); (case side4 => exact (Kd.R_reads' HO_9.out).2.1); rintro e w' ⟨rfl, ⟨nd, rfl⟩⟩))
            go_ret
            exact ⟨by first | rfl | (simp [errW_none, errW_some] <;> rfl) | (simp [*, errW_none, errW_some] <;> rfl), by repeat (first | (with_reducible first | exact HB.out | apply below_alloc | apply pw_below_drewN | apply below_drew1 | refine below_set ?_ GE120.out) | exact HB.out)⟩
          · rw [if_neg c44] at H
            have c44b0 : (t151 == t134) = false := beq_eq_false_iff_ne.mpr c44
            have c44b1 : (t151 != t134) = true := bne_iff_ne.mpr c44
            obtain rfl := Option.some.inj H
            have hRl := HRl.out
            have hRo := HRo.out
            have hRk := HRk.out
            have hAP := AP.out
            obtain ⟨Al9, cl9, el9⟩ := Kd.R_slice hRl
            subst el9
            obtain ⟨Ao9, co9, eo9⟩ := Kd.R_slice hRo
            subst eo9
            obtain ⟨Ak9, ck9, ek9⟩ := Kd.R_slice hRk
            subst ek9
            have HQ9 := Aside0.mk (rows3 hRl hRo hRk hAP HB.out)
            have HL9 := Aside0.mk hRl
            have HO9 := Aside0.mk hRo
            have HK9 := Aside0.mk hRk
            have HAP9 := Aside0.mk hAP
            clear hRl hRo hRk hAP HRl HRo HRk AP
            have hcz50_0 : wc.cell? ⟨gb120, 0, none⟩ = some (.int .i64 a0_0) := (blk_cell BK120.out 0).trans rfl
            have hcz50_1 : wc.cell? ⟨gb120, 1, none⟩ = some (.string a0_1) := (blk_cell BK120.out 1).trans rfl
            have hfz50_0 := blk_frozen BK120.out 0
            have hfz50_1 := blk_frozen BK120.out 1
            go_wp2_with (first | ((go_at_call 20; refine (copselaw6_lone.calls w _ ⟨wc.heap.size, 0, none⟩ 3 3 _ _ HQ9.out (by decide) (fun i_ h_ => by obtain ⟨h1_, h2_, h3_⟩ := LN.out; rcases three_cases h_ with rfl | rfl | rfl <;> assumption)).mono ?_); rintro e w90 ⟨rfl, Y9, hr9⟩; have n0_ := Aside0.mk (rows3_row HAP9.out HO_9.out hr9); have n1_ := Aside0.mk (rows3_blk HL9.out HO9.out HK9.out BK120.out hr9); have n2_ := Aside0.mk hr9.below; clear HO_9; clear BK120; clear HB; have HO_9 := n0_; have BK120 := n1_; have HB := n2_; clear n0_ n1_ n2_ hr9; have hcz90_0 : w90.cell? ⟨gb120, 0, none⟩ = some (.int .i64 a0_0) := (blk_cell BK120.out 0).trans rfl; have hcz90_1 : w90.cell? ⟨gb120, 1, none⟩ = some (.string a0_1) := (blk_cell BK120.out 1).trans rfl; have hfz90_0 := blk_frozen BK120.out 0; have hfz90_1 := blk_frozen BK120.out 1) | ((with_reducible refine gate_callee (f := 18) rfl ?_); refine goesL_ (some 106) rfl rfl Tryd.func18 (by kernel_rfl) rfl #[.int .i64 a0_0, .string a0_1] rfl (by (try simp only [List.map_toArray, List.map_cons, List.map_nil]); first | done | rfl | (simp only [List.length_drop, List.length_take]; rfl)) ?_; (with_reducible refine (cells_Read.calls kj7 E a0_0 a0_1 t147 t148 _ ?side1 A42.out).mono ?_); (case side1 => exact (Glob.below HG.out (by repeat (first | (with_reducible first | exact HB.out | apply below_alloc | apply pw_below_drewN | apply below_drew1 | refine below_set ?_ GE120.out) | exact HB.out)))); rintro e w51 ⟨v149, rfl, ho0, hb⟩; refine ⟨_, rfl, ?_⟩; have n0_ := Aside0.mk (Kd.R_elder' (by (with_reducible repeat (first | apply Kd.R_alloc | apply Kd.R_drewN | apply Kd.R_drew)); exact HO_9.out) (Kd.R_base ho0) hb); have n1_ := Aside0.mk (Kd.R_lower (Kd.R_new' ho0 (Kd.R_lt (by (with_reducible repeat (first | apply Kd.R_alloc | apply Kd.R_drewN | apply Kd.R_drew)); exact HO_9.out))) (below_size (by repeat (first | (with_reducible first | exact HB.out | apply below_alloc | apply pw_below_drewN | apply below_drew1 | refine below_set ?_ GE120.out) | exact HB.out)))); have n2_ := Aside0.mk (blk_below (g := gb120) (o := .cells #[.int .i64 a0_0, .string a0_1] 35 (0, 0)) (by (with_reducible repeat (first | refine blk_drewN ?_ _ | refine blk_drew ?_ | refine blk_alloc ?_ _)); exact BK120.out) hb); have n3_ := Aside0.mk (below_step (by repeat (first | (with_reducible first | exact HB.out | apply below_alloc | apply pw_below_drewN | apply below_drew1 | refine below_set ?_ GE120.out) | exact HB.out)) hb); clear HO_9; clear BK120; clear HB; have HO_9 := n0_; have HO150 := n1_; have BK120 := n2_; have HB := n3_; clear n0_ n1_ n2_ n3_; (try clear hb); (try clear hb2); (try clear hk); (try clear hi); (try clear ho0); (try simp only [errW_none, errW_some]); have CA43 := fun (W : World) (hG_ : Glob E W) => copsekit_Num.calls E t148 t151 W hG_ A43.out; try simp only [errW_none, errW_some] at CA43) | (go_at_call 16; (with_reducible refine (CA43 _ ?side1).mono ?_); (case side1 => exact (Glob.below HG.out (by repeat (first | (with_reducible first | exact HB.out | apply below_alloc | apply pw_below_drewN | apply below_drew1 | refine below_set ?_ GE120.out) | exact HB.out)))); rintro e w' ⟨rfl, ⟨nd, rfl⟩⟩))
            go_ret
            exact ⟨by first | rfl | (simp [errW_none, errW_some] <;> rfl) | (simp [*, errW_none, errW_some] <;> rfl), by repeat (first | (with_reducible first | exact HB.out | apply below_alloc | apply pw_below_drewN | apply below_drew1 | refine below_set ?_ GE120.out) | exact HB.out)⟩
  · rw [if_neg c3] at H
    exact absurd H (by simp)


end Go.Proofs.YtmjdkddpfcfepaaDoor.XCellsReads
