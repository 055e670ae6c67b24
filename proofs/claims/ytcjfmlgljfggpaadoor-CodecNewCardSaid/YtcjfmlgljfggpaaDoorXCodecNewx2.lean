-- Printed for this claim by a program (wip/printx) that builds on the kit's print. Not trusted: Lean checks it.
import Derived.Test.YtcjfmlgljfggpaaDoorXCodecNewx0
namespace Go.Proofs.YtcjfmlgljfggpaaDoor.XCodecNew
open Go.RowKit Go.Proofs.YtcjfmlgljfggpaaDoorW.PrintWords Go.Proofs.YtcjfmlgljfggpaaDoorW.PrintLast Go.Proofs.YtcjfmlgljfggpaaDoorW.PrintMore
attribute [local go_sem] max2_int min2_int max_two min_two max_three min_three max_four min_four   -- for this text's walks alone
set_option linter.unusedVariables false
set_option linter.unusedSimpArgs false

/-! ### codec_Put: function 25 -/
def codec_Put.row (a0 : Int) (j : Nat) : List Int := [if 8 ≤ j then a0 / 72057594037927936 % 256 else 0, if 7 ≤ j then a0 / 281474976710656 % 256 else 0, if 6 ≤ j then a0 / 1099511627776 % 256 else 0, if 5 ≤ j then a0 / 4294967296 % 256 else 0, if 4 ≤ j then a0 / 16777216 % 256 else 0, if 3 ≤ j then a0 / 65536 % 256 else 0, if 2 ≤ j then a0 / 256 % 256 else 0, if 1 ≤ j then a0 % 256 else 0]
def codec_Put.f (a0 a1 : Int) : Option (List Int × Option Int) :=
  if 0 ≤ a0 ∧ a0 < 18446744073709551616 then
    if a1 < 1 ∨ 8 < a1 ∨ (a1 < 8 ∧ a0 / 2 ^ (8 * a1).toNat ≠ 0) then some ([], some 1) else some ((codec_Put.row a0 8).drop (8 - a1.toNat), none)
  else none
set_option maxHeartbeats 8000000 in
set_option maxRecDepth 100000 in
theorem codec_Put.refuse (E : Int → Addr) (a0 a1 : Int) (w : World) (hG : Glob E w) (h0 : 0 ≤ a0) (h : a1 < 1 ∨ 8 < a1 ∨ (a1 < 8 ∧ a0 / 2 ^ (8 * a1).toNat ≠ 0)) :
    Calls Tryd.prog 25 #[.int .u64 a0, .int .i64 a1] w fun e w' => e = .returned (.tuple #[.slice none 0 0, errW E (some 1)]) ∧ Below w.heap.size w w' := by
  have hu48 := Tryd.underlying48
  have HB := Aside0.mk (Below.refl w.heap.size w)
  have hx2 : w.cell? ⟨4, 0, none⟩ = some (errW E (some 1)) := Glob.c4 hG
  simp only [errW_some] at hx2
  by_cases h1 : a1 < 1
  · have hb : decide (a1 < 1) = true := decide_eq_true h1
    go_enter Tryd.func25, Tryd.ntmps25
    go_wp2
    repeat (go_quiet (fail); try go_wp2)
    go_ret2
    exact ⟨rfl, by first | exact pw_below_drewN HB.out _ | (repeat (first | exact HB.out | apply pw_below_drewN | apply below_drew1))⟩
  · have hb : decide (a1 < 1) = false := decide_eq_false h1
    by_cases h2 : 8 < a1
    · have hb2 : decide (a1 > 8) = true := decide_eq_true h2
      have hb3 : decide (a1 < 8) = false := decide_eq_false (by omega)
      go_enter Tryd.func25, Tryd.ntmps25
      go_wp2
      repeat (go_quiet (fail); try go_wp2)
      go_ret2
      exact ⟨rfl, by first | exact pw_below_drewN HB.out _ | (repeat (first | exact HB.out | apply pw_below_drewN | apply below_drew1))⟩
    · obtain ⟨h3, h4⟩ : a1 < 8 ∧ a0 / 2 ^ (8 * a1).toNat ≠ 0 := by omega
      have : a1 = 1 ∨ a1 = 2 ∨ a1 = 3 ∨ a1 = 4 ∨ a1 = 5 ∨ a1 = 6 ∨ a1 = 7 := by omega
      rcases this with rfl | rfl | rfl | rfl | rfl | rfl | rfl
      · have h5 : (a0 / 256 != 0) = true := bne_iff_ne.mpr h4
        go_enter Tryd.func25, Tryd.ntmps25
        go_wp2
        repeat (go_quiet (fail); try go_wp2)
        go_ret2
        exact ⟨rfl, by first | exact pw_below_drewN HB.out _ | (repeat (first | exact HB.out | apply pw_below_drewN | apply below_drew1))⟩
      · have h5 : (a0 / 65536 != 0) = true := bne_iff_ne.mpr h4
        go_enter Tryd.func25, Tryd.ntmps25
        go_wp2
        repeat (go_quiet (fail); try go_wp2)
        go_ret2
        exact ⟨rfl, by first | exact pw_below_drewN HB.out _ | (repeat (first | exact HB.out | apply pw_below_drewN | apply below_drew1))⟩
      · have h5 : (a0 / 16777216 != 0) = true := bne_iff_ne.mpr h4
        go_enter Tryd.func25, Tryd.ntmps25
        go_wp2
        repeat (go_quiet (fail); try go_wp2)
        go_ret2
        exact ⟨rfl, by first | exact pw_below_drewN HB.out _ | (repeat (first | exact HB.out | apply pw_below_drewN | apply below_drew1))⟩
      · have h5 : (a0 / 4294967296 != 0) = true := bne_iff_ne.mpr h4
        go_enter Tryd.func25, Tryd.ntmps25
        go_wp2
        repeat (go_quiet (fail); try go_wp2)
        go_ret2
        exact ⟨rfl, by first | exact pw_below_drewN HB.out _ | (repeat (first | exact HB.out | apply pw_below_drewN | apply below_drew1))⟩
      · have h5 : (a0 / 1099511627776 != 0) = true := bne_iff_ne.mpr h4
        go_enter Tryd.func25, Tryd.ntmps25
        go_wp2
        repeat (go_quiet (fail); try go_wp2)
        go_ret2
        exact ⟨rfl, by first | exact pw_below_drewN HB.out _ | (repeat (first | exact HB.out | apply pw_below_drewN | apply below_drew1))⟩
      · have h5 : (a0 / 281474976710656 != 0) = true := bne_iff_ne.mpr h4
        go_enter Tryd.func25, Tryd.ntmps25
        go_wp2
        repeat (go_quiet (fail); try go_wp2)
        go_ret2
        exact ⟨rfl, by first | exact pw_below_drewN HB.out _ | (repeat (first | exact HB.out | apply pw_below_drewN | apply below_drew1))⟩
      · have h5 : (a0 / 72057594037927936 != 0) = true := bne_iff_ne.mpr h4
        go_enter Tryd.func25, Tryd.ntmps25
        go_wp2
        repeat (go_quiet (fail); try go_wp2)
        go_ret2
        exact ⟨rfl, by first | exact pw_below_drewN HB.out _ | (repeat (first | exact HB.out | apply pw_below_drewN | apply below_drew1))⟩
theorem sz5_ : (Tryd.prog.info? 5).map (·.size) = some 1 := by kernel_rfl
def codec_Put.cells (a0 : Int) (j : Nat) : Array Value := ((codec_Put.row a0 j).map (Value.int .u8)).toArray
/-- A block that holds numbers, one a cell, is a row of the call's own. -/
theorem R_of_block_ {k : IntKind} {e : Nat} {w : World} {base g n : Nat} {xs : List Int} (hg : w.heap[g]? = some (.cells (xs.map (Value.int k)).toArray e (0, 0))) (hb : base ≤ g) (hn : xs.length = n) (hl : n ≤ maxLen) :
    Kd.R (Kd.int k) e w base (fun _ => True) (.slice (some ⟨g, 0, none⟩) n n) xs := by
  subst hn
  refine ⟨fun _ _ => trivial, xs.map (Value.int k), ⟨by simp [Kd.int, Kd.scalar], .inr ⟨g, xs.length, _, rfl, hb, hg, Nat.le_refl _, hl, by simp [Kd.int, Kd.scalar], ?_⟩⟩, ?_⟩
  · simp only [Kd.int, Kd.scalar, Nat.mul_one]; exact List.take_of_length_le (by simp)
  · exact Kd.reps_scalar (enc := Value.int k) xs
theorem codec_Put.made_ (n : Nat) (hn : n ≤ 8) (W : World) : (Instr.makeSlice 28 (.int .i64 (n : Int)) (.int .i64 (n : Int))).run Tryd.prog W = .ok (.slice (some ⟨W.heap.size, 0, none⟩) n n) (W.alloc (.cells (List.replicate n (Value.int .u8 0)).toArray 5)) := by
  have h := run_make_row' (P := Tryd.prog) 28 5 (.int .u8 0) 1 Tryd.underlying28 info5 rfl .i64 .i64 n (by omega) (by omega) W
  rw [h, show madeCells #[Value.int .u8 0] n = (List.replicate n (Value.int .u8 0)).toArray by rw [← toList_madeCells_one]]
theorem alloc2_new_ (w : World) (o p : Obj) : ((w.alloc o).alloc p).heap[w.heap.size + 1]? = some p := by
  have h := heap_alloc_new (w.alloc o) p
  rwa [show (w.alloc o).heap.size = w.heap.size + 1 by simp] at h
theorem alloc2_old_ (w : World) (o p : Obj) : ((w.alloc o).alloc p).heap[w.heap.size]? = some o :=
  ((below_alloc (Below.refl _ (w.alloc o)) p).block w.heap.size (by simp)).trans (heap_alloc_new w o)
theorem codec_Put.copied_ (W : World) (a0 : Int) (n : Nat) (hn : n ≤ 8) : 
    (Builtin.copy_ #[28, 28] 3 #[.slice (some ⟨W.heap.size + 1, 0, none⟩) n n, .slice (some ⟨W.heap.size, 8 - n, none⟩) n n]).run Tryd.prog ((W.alloc (.cells (codec_Put.cells a0 8) 70)).alloc (.cells (List.replicate n (Value.int .u8 0)).toArray 5)) =
      .ok (.int .i64 n) (((W.alloc (.cells (codec_Put.cells a0 8) 70)).alloc (.cells (List.replicate n (Value.int .u8 0)).toArray 5)).setRow (W.heap.size + 1) (((codec_Put.row a0 8).drop (8 - n)).map (Value.int .u8)).toArray) := by
  obtain ⟨L, hL⟩ : ∃ L, L = codec_Put.row a0 8 := ⟨_, rfl⟩
  have hlen : L.length = 8 := by rw [hL]; rfl
  have hcl : codec_Put.cells a0 8 = (L.map (Value.int .u8)).toArray := by rw [hL]; rfl
  rw [hcl, ← hL]
  clear hcl hL
  have h := run_copy_row (P := Tryd.prog) ((W.alloc (.cells (L.map (Value.int .u8)).toArray 70)).alloc (.cells (List.replicate n (Value.int .u8 0)).toArray 5)) 28 28 3 5 (W.heap.size + 1) 0 n n ⟨W.heap.size, 8 - n, none⟩ n n (List.replicate n (Value.int .u8 0)).toArray 5 ((L.drop (8 - n)).map (Value.int .u8)) Tryd.underlying28 sz5_
    (alloc2_new_ _ _ _) (by simp only [List.length_map, List.length_drop, hlen]; simp; omega) ?_ (by simp only [List.length_map, List.length_drop, hlen]; simp; omega) (by intro v hv; obtain ⟨x, _, rfl⟩ := List.mem_map.1 hv; rfl)
  · rw [h]
    have e1 : ((L.drop (8 - n)).map (Value.int .u8)).length = n := by simp only [List.length_map, List.length_drop, hlen]; omega
    rw [e1, List.take_zero, List.nil_append, Nat.zero_add, List.drop_of_length_le (show (List.replicate n (Value.int .u8 0)).toArray.toList.length ≤ n by simp), List.append_nil]
    rfl
  · intro j v hj
    have hb := alloc2_old_ W (.cells (L.map (Value.int .u8)).toArray 70) (.cells (List.replicate n (Value.int .u8 0)).toArray 5)
    rw [show (⟨W.heap.size, 8 - n, none⟩ : Addr).add j = ⟨W.heap.size, 8 - n + j, none⟩ by unfold Addr.add; split <;> simp_all]
    simp only [World.cell?, hb, List.getElem?_toArray]
    simp only [List.getElem?_map, List.getElem?_drop] at hj
    simpa only [Option.isSome, Bool.false_eq_true, if_false, List.getElem?_map] using hj
set_option maxHeartbeats 8000000 in
set_option maxRecDepth 100000 in
theorem codec_Put.good (E : Int → Addr) (a0 a1 : Int) (w : World) (h0 : 0 ≤ a0) (h1 : a0 < 18446744073709551616) (h : ¬ (a1 < 1 ∨ 8 < a1 ∨ (a1 < 8 ∧ a0 / 2 ^ (8 * a1).toNat ≠ 0))) :
    Calls Tryd.prog 25 #[.int .u64 a0, .int .i64 a1] w fun e w' => ∃ v0_ : Value, e = .returned (.tuple #[v0_, .nilIface]) ∧ Kd.R (Kd.int .u8) 5 w' w.heap.size (fun _ => True) v0_ ((codec_Put.row a0 8).drop (8 - a1.toNat)) ∧ Below w.heap.size w w' := by
  have hx : a0 / 72057594037927936 % 256 = a0 / 72057594037927936 := by omega
  have : a1 = 1 ∨ a1 = 2 ∨ a1 = 3 ∨ a1 = 4 ∨ a1 = 5 ∨ a1 = 6 ∨ a1 = 7 ∨ a1 = 8 := by omega
  rcases this with rfl | rfl | rfl | rfl | rfl | rfl | rfl | rfl
  · have h5 : (a0 / 256 != 0) = false := by
      rw [bne_eq_false_iff_eq]
      by_cases e : a0 / 2 ^ ((8 * 1 : Int)).toNat = 0
      · exact e
      · exact absurd (.inr (.inr ⟨by omega, e⟩)) h
    clear h
    have hmk : ∀ W : World, (Instr.makeSlice 28 (.int .i64 1) (.int .i64 1)).run Tryd.prog W = .ok (.slice (some ⟨W.heap.size, 0, none⟩) 1 1) (W.alloc (.cells #[.int .u8 0] 5)) := codec_Put.made_ 1 (by omega)
    have hcp : (Builtin.copy_ #[28, 28] 3 #[.slice (some ⟨w.heap.size + 1, 0, none⟩) 1 1, .slice (some ⟨w.heap.size, 7, none⟩) 1 1]).run Tryd.prog ((w.alloc (.cells (codec_Put.cells a0 8) 70)).alloc (.cells #[.int .u8 0] 5)) =
      .ok (.int .i64 1) (((w.alloc (.cells (codec_Put.cells a0 8) 70)).alloc (.cells #[.int .u8 0] 5)).setRow (w.heap.size + 1) (((codec_Put.row a0 8).drop 7).map (Value.int .u8)).toArray) := codec_Put.copied_ w a0 1 (by omega)
    go_enter Tryd.func25, Tryd.ntmps25
    go_wp2
    go_loopg [7, 27] 9 (fun kq v7 v27 w' => ∃ j : Nat, v27 = .int .i64 (j : Int) ∧ Aside0 (j + kq = 9 ∧ j ≤ 8) ∧ w' = w.alloc (.cells (codec_Put.cells a0 j) 70))
    case atStart => exact ⟨0, rfl, ⟨by omega⟩, rfl⟩
    case round =>
      obtain ⟨j, rfl, hj, rfl⟩ := hrel
      cases gk with
      | zero => exact absurd hj.out (by omega)
      | succ k1 =>
        have : j = 0 ∨ j = 1 ∨ j = 2 ∨ j = 3 ∨ j = 4 ∨ j = 5 ∨ j = 6 ∨ j = 7 ∨ j = 8 := by have := hj.out; omega
        rcases this with rfl | rfl | rfl | rfl | rfl | rfl | rfl | rfl | rfl
        · go_wp2
          go_roundg k1
          case measure => omega
          case rel => exact ⟨1, rfl, ⟨by have := hj.out; omega⟩, by simp [codec_Put.cells, codec_Put.row]⟩
        · go_wp2
          go_roundg k1
          case measure => omega
          case rel => exact ⟨2, rfl, ⟨by have := hj.out; omega⟩, by simp [codec_Put.cells, codec_Put.row]⟩
        · go_wp2
          go_roundg k1
          case measure => omega
          case rel => exact ⟨3, rfl, ⟨by have := hj.out; omega⟩, by simp [codec_Put.cells, codec_Put.row]⟩
        · go_wp2
          go_roundg k1
          case measure => omega
          case rel => exact ⟨4, rfl, ⟨by have := hj.out; omega⟩, by simp [codec_Put.cells, codec_Put.row]⟩
        · go_wp2
          go_roundg k1
          case measure => omega
          case rel => exact ⟨5, rfl, ⟨by have := hj.out; omega⟩, by simp [codec_Put.cells, codec_Put.row]⟩
        · go_wp2
          go_roundg k1
          case measure => omega
          case rel => exact ⟨6, rfl, ⟨by have := hj.out; omega⟩, by simp [codec_Put.cells, codec_Put.row]⟩
        · go_wp2
          go_roundg k1
          case measure => omega
          case rel => exact ⟨7, rfl, ⟨by have := hj.out; omega⟩, by simp [codec_Put.cells, codec_Put.row]⟩
        · go_wp2
          go_roundg k1
          case measure => omega
          case rel => exact ⟨8, rfl, ⟨by have := hj.out; omega⟩, by simp [codec_Put.cells, codec_Put.row, hx]⟩
        · go_wp2
          go_ret2
          refine ⟨_, rfl, R_of_block_ (n := 1) (setRow_heap _ _ _ _ 5 _ (alloc2_new_ _ _ _)) (by omega) rfl (by decide), below_setRow (below_alloc (below_alloc (Below.refl _ _) _) _) (by omega) _⟩
  · have h5 : (a0 / 65536 != 0) = false := by
      rw [bne_eq_false_iff_eq]
      by_cases e : a0 / 2 ^ ((8 * 2 : Int)).toNat = 0
      · exact e
      · exact absurd (.inr (.inr ⟨by omega, e⟩)) h
    clear h
    have hmk : ∀ W : World, (Instr.makeSlice 28 (.int .i64 2) (.int .i64 2)).run Tryd.prog W = .ok (.slice (some ⟨W.heap.size, 0, none⟩) 2 2) (W.alloc (.cells #[.int .u8 0, .int .u8 0] 5)) := codec_Put.made_ 2 (by omega)
    have hcp : (Builtin.copy_ #[28, 28] 3 #[.slice (some ⟨w.heap.size + 1, 0, none⟩) 2 2, .slice (some ⟨w.heap.size, 6, none⟩) 2 2]).run Tryd.prog ((w.alloc (.cells (codec_Put.cells a0 8) 70)).alloc (.cells #[.int .u8 0, .int .u8 0] 5)) =
      .ok (.int .i64 2) (((w.alloc (.cells (codec_Put.cells a0 8) 70)).alloc (.cells #[.int .u8 0, .int .u8 0] 5)).setRow (w.heap.size + 1) (((codec_Put.row a0 8).drop 6).map (Value.int .u8)).toArray) := codec_Put.copied_ w a0 2 (by omega)
    go_enter Tryd.func25, Tryd.ntmps25
    go_wp2
    go_loopg [7, 27] 9 (fun kq v7 v27 w' => ∃ j : Nat, v27 = .int .i64 (j : Int) ∧ Aside0 (j + kq = 9 ∧ j ≤ 8) ∧ w' = w.alloc (.cells (codec_Put.cells a0 j) 70))
    case atStart => exact ⟨0, rfl, ⟨by omega⟩, rfl⟩
    case round =>
      obtain ⟨j, rfl, hj, rfl⟩ := hrel
      cases gk with
      | zero => exact absurd hj.out (by omega)
      | succ k1 =>
        have : j = 0 ∨ j = 1 ∨ j = 2 ∨ j = 3 ∨ j = 4 ∨ j = 5 ∨ j = 6 ∨ j = 7 ∨ j = 8 := by have := hj.out; omega
        rcases this with rfl | rfl | rfl | rfl | rfl | rfl | rfl | rfl | rfl
        · go_wp2
          go_roundg k1
          case measure => omega
          case rel => exact ⟨1, rfl, ⟨by have := hj.out; omega⟩, by simp [codec_Put.cells, codec_Put.row]⟩
        · go_wp2
          go_roundg k1
          case measure => omega
          case rel => exact ⟨2, rfl, ⟨by have := hj.out; omega⟩, by simp [codec_Put.cells, codec_Put.row]⟩
        · go_wp2
          go_roundg k1
          case measure => omega
          case rel => exact ⟨3, rfl, ⟨by have := hj.out; omega⟩, by simp [codec_Put.cells, codec_Put.row]⟩
        · go_wp2
          go_roundg k1
          case measure => omega
          case rel => exact ⟨4, rfl, ⟨by have := hj.out; omega⟩, by simp [codec_Put.cells, codec_Put.row]⟩
        · go_wp2
          go_roundg k1
          case measure => omega
          case rel => exact ⟨5, rfl, ⟨by have := hj.out; omega⟩, by simp [codec_Put.cells, codec_Put.row]⟩
        · go_wp2
          go_roundg k1
          case measure => omega
          case rel => exact ⟨6, rfl, ⟨by have := hj.out; omega⟩, by simp [codec_Put.cells, codec_Put.row]⟩
        · go_wp2
          go_roundg k1
          case measure => omega
          case rel => exact ⟨7, rfl, ⟨by have := hj.out; omega⟩, by simp [codec_Put.cells, codec_Put.row]⟩
        · go_wp2
          go_roundg k1
          case measure => omega
          case rel => exact ⟨8, rfl, ⟨by have := hj.out; omega⟩, by simp [codec_Put.cells, codec_Put.row, hx]⟩
        · go_wp2
          go_ret2
          refine ⟨_, rfl, R_of_block_ (n := 2) (setRow_heap _ _ _ _ 5 _ (alloc2_new_ _ _ _)) (by omega) rfl (by decide), below_setRow (below_alloc (below_alloc (Below.refl _ _) _) _) (by omega) _⟩
  · have h5 : (a0 / 16777216 != 0) = false := by
      rw [bne_eq_false_iff_eq]
      by_cases e : a0 / 2 ^ ((8 * 3 : Int)).toNat = 0
      · exact e
      · exact absurd (.inr (.inr ⟨by omega, e⟩)) h
    clear h
    have hmk : ∀ W : World, (Instr.makeSlice 28 (.int .i64 3) (.int .i64 3)).run Tryd.prog W = .ok (.slice (some ⟨W.heap.size, 0, none⟩) 3 3) (W.alloc (.cells #[.int .u8 0, .int .u8 0, .int .u8 0] 5)) := codec_Put.made_ 3 (by omega)
    have hcp : (Builtin.copy_ #[28, 28] 3 #[.slice (some ⟨w.heap.size + 1, 0, none⟩) 3 3, .slice (some ⟨w.heap.size, 5, none⟩) 3 3]).run Tryd.prog ((w.alloc (.cells (codec_Put.cells a0 8) 70)).alloc (.cells #[.int .u8 0, .int .u8 0, .int .u8 0] 5)) =
      .ok (.int .i64 3) (((w.alloc (.cells (codec_Put.cells a0 8) 70)).alloc (.cells #[.int .u8 0, .int .u8 0, .int .u8 0] 5)).setRow (w.heap.size + 1) (((codec_Put.row a0 8).drop 5).map (Value.int .u8)).toArray) := codec_Put.copied_ w a0 3 (by omega)
    go_enter Tryd.func25, Tryd.ntmps25
    go_wp2
    go_loopg [7, 27] 9 (fun kq v7 v27 w' => ∃ j : Nat, v27 = .int .i64 (j : Int) ∧ Aside0 (j + kq = 9 ∧ j ≤ 8) ∧ w' = w.alloc (.cells (codec_Put.cells a0 j) 70))
    case atStart => exact ⟨0, rfl, ⟨by omega⟩, rfl⟩
    case round =>
      obtain ⟨j, rfl, hj, rfl⟩ := hrel
      cases gk with
      | zero => exact absurd hj.out (by omega)
      | succ k1 =>
        have : j = 0 ∨ j = 1 ∨ j = 2 ∨ j = 3 ∨ j = 4 ∨ j = 5 ∨ j = 6 ∨ j = 7 ∨ j = 8 := by have := hj.out; omega
        rcases this with rfl | rfl | rfl | rfl | rfl | rfl | rfl | rfl | rfl
        · go_wp2
          go_roundg k1
          case measure => omega
          case rel => exact ⟨1, rfl, ⟨by have := hj.out; omega⟩, by simp [codec_Put.cells, codec_Put.row]⟩
        · go_wp2
          go_roundg k1
          case measure => omega
          case rel => exact ⟨2, rfl, ⟨by have := hj.out; omega⟩, by simp [codec_Put.cells, codec_Put.row]⟩
        · go_wp2
          go_roundg k1
          case measure => omega
          case rel => exact ⟨3, rfl, ⟨by have := hj.out; omega⟩, by simp [codec_Put.cells, codec_Put.row]⟩
        · go_wp2
          go_roundg k1
          case measure => omega
          case rel => exact ⟨4, rfl, ⟨by have := hj.out; omega⟩, by simp [codec_Put.cells, codec_Put.row]⟩
        · go_wp2
          go_roundg k1
          case measure => omega
          case rel => exact ⟨5, rfl, ⟨by have := hj.out; omega⟩, by simp [codec_Put.cells, codec_Put.row]⟩
        · go_wp2
          go_roundg k1
          case measure => omega
          case rel => exact ⟨6, rfl, ⟨by have := hj.out; omega⟩, by simp [codec_Put.cells, codec_Put.row]⟩
        · go_wp2
          go_roundg k1
          case measure => omega
          case rel => exact ⟨7, rfl, ⟨by have := hj.out; omega⟩, by simp [codec_Put.cells, codec_Put.row]⟩
        · go_wp2
          go_roundg k1
          case measure => omega
          case rel => exact ⟨8, rfl, ⟨by have := hj.out; omega⟩, by simp [codec_Put.cells, codec_Put.row, hx]⟩
        · go_wp2
          go_ret2
          refine ⟨_, rfl, R_of_block_ (n := 3) (setRow_heap _ _ _ _ 5 _ (alloc2_new_ _ _ _)) (by omega) rfl (by decide), below_setRow (below_alloc (below_alloc (Below.refl _ _) _) _) (by omega) _⟩
  · have h5 : (a0 / 4294967296 != 0) = false := by
      rw [bne_eq_false_iff_eq]
      by_cases e : a0 / 2 ^ ((8 * 4 : Int)).toNat = 0
      · exact e
      · exact absurd (.inr (.inr ⟨by omega, e⟩)) h
    clear h
    have hmk : ∀ W : World, (Instr.makeSlice 28 (.int .i64 4) (.int .i64 4)).run Tryd.prog W = .ok (.slice (some ⟨W.heap.size, 0, none⟩) 4 4) (W.alloc (.cells #[.int .u8 0, .int .u8 0, .int .u8 0, .int .u8 0] 5)) := codec_Put.made_ 4 (by omega)
    have hcp : (Builtin.copy_ #[28, 28] 3 #[.slice (some ⟨w.heap.size + 1, 0, none⟩) 4 4, .slice (some ⟨w.heap.size, 4, none⟩) 4 4]).run Tryd.prog ((w.alloc (.cells (codec_Put.cells a0 8) 70)).alloc (.cells #[.int .u8 0, .int .u8 0, .int .u8 0, .int .u8 0] 5)) =
      .ok (.int .i64 4) (((w.alloc (.cells (codec_Put.cells a0 8) 70)).alloc (.cells #[.int .u8 0, .int .u8 0, .int .u8 0, .int .u8 0] 5)).setRow (w.heap.size + 1) (((codec_Put.row a0 8).drop 4).map (Value.int .u8)).toArray) := codec_Put.copied_ w a0 4 (by omega)
    go_enter Tryd.func25, Tryd.ntmps25
    go_wp2
    go_loopg [7, 27] 9 (fun kq v7 v27 w' => ∃ j : Nat, v27 = .int .i64 (j : Int) ∧ Aside0 (j + kq = 9 ∧ j ≤ 8) ∧ w' = w.alloc (.cells (codec_Put.cells a0 j) 70))
    case atStart => exact ⟨0, rfl, ⟨by omega⟩, rfl⟩
    case round =>
      obtain ⟨j, rfl, hj, rfl⟩ := hrel
      cases gk with
      | zero => exact absurd hj.out (by omega)
      | succ k1 =>
        have : j = 0 ∨ j = 1 ∨ j = 2 ∨ j = 3 ∨ j = 4 ∨ j = 5 ∨ j = 6 ∨ j = 7 ∨ j = 8 := by have := hj.out; omega
        rcases this with rfl | rfl | rfl | rfl | rfl | rfl | rfl | rfl | rfl
        · go_wp2
          go_roundg k1
          case measure => omega
          case rel => exact ⟨1, rfl, ⟨by have := hj.out; omega⟩, by simp [codec_Put.cells, codec_Put.row]⟩
        · go_wp2
          go_roundg k1
          case measure => omega
          case rel => exact ⟨2, rfl, ⟨by have := hj.out; omega⟩, by simp [codec_Put.cells, codec_Put.row]⟩
        · go_wp2
          go_roundg k1
          case measure => omega
          case rel => exact ⟨3, rfl, ⟨by have := hj.out; omega⟩, by simp [codec_Put.cells, codec_Put.row]⟩
        · go_wp2
          go_roundg k1
          case measure => omega
          case rel => exact ⟨4, rfl, ⟨by have := hj.out; omega⟩, by simp [codec_Put.cells, codec_Put.row]⟩
        · go_wp2
          go_roundg k1
          case measure => omega
          case rel => exact ⟨5, rfl, ⟨by have := hj.out; omega⟩, by simp [codec_Put.cells, codec_Put.row]⟩
        · go_wp2
          go_roundg k1
          case measure => omega
          case rel => exact ⟨6, rfl, ⟨by have := hj.out; omega⟩, by simp [codec_Put.cells, codec_Put.row]⟩
        · go_wp2
          go_roundg k1
          case measure => omega
          case rel => exact ⟨7, rfl, ⟨by have := hj.out; omega⟩, by simp [codec_Put.cells, codec_Put.row]⟩
        · go_wp2
          go_roundg k1
          case measure => omega
          case rel => exact ⟨8, rfl, ⟨by have := hj.out; omega⟩, by simp [codec_Put.cells, codec_Put.row, hx]⟩
        · go_wp2
          go_ret2
          refine ⟨_, rfl, R_of_block_ (n := 4) (setRow_heap _ _ _ _ 5 _ (alloc2_new_ _ _ _)) (by omega) rfl (by decide), below_setRow (below_alloc (below_alloc (Below.refl _ _) _) _) (by omega) _⟩
  · have h5 : (a0 / 1099511627776 != 0) = false := by
      rw [bne_eq_false_iff_eq]
      by_cases e : a0 / 2 ^ ((8 * 5 : Int)).toNat = 0
      · exact e
      · exact absurd (.inr (.inr ⟨by omega, e⟩)) h
    clear h
    have hmk : ∀ W : World, (Instr.makeSlice 28 (.int .i64 5) (.int .i64 5)).run Tryd.prog W = .ok (.slice (some ⟨W.heap.size, 0, none⟩) 5 5) (W.alloc (.cells #[.int .u8 0, .int .u8 0, .int .u8 0, .int .u8 0, .int .u8 0] 5)) := codec_Put.made_ 5 (by omega)
    have hcp : (Builtin.copy_ #[28, 28] 3 #[.slice (some ⟨w.heap.size + 1, 0, none⟩) 5 5, .slice (some ⟨w.heap.size, 3, none⟩) 5 5]).run Tryd.prog ((w.alloc (.cells (codec_Put.cells a0 8) 70)).alloc (.cells #[.int .u8 0, .int .u8 0, .int .u8 0, .int .u8 0, .int .u8 0] 5)) =
      .ok (.int .i64 5) (((w.alloc (.cells (codec_Put.cells a0 8) 70)).alloc (.cells #[.int .u8 0, .int .u8 0, .int .u8 0, .int .u8 0, .int .u8 0] 5)).setRow (w.heap.size + 1) (((codec_Put.row a0 8).drop 3).map (Value.int .u8)).toArray) := codec_Put.copied_ w a0 5 (by omega)
    go_enter Tryd.func25, Tryd.ntmps25
    go_wp2
    go_loopg [7, 27] 9 (fun kq v7 v27 w' => ∃ j : Nat, v27 = .int .i64 (j : Int) ∧ Aside0 (j + kq = 9 ∧ j ≤ 8) ∧ w' = w.alloc (.cells (codec_Put.cells a0 j) 70))
    case atStart => exact ⟨0, rfl, ⟨by omega⟩, rfl⟩
    case round =>
      obtain ⟨j, rfl, hj, rfl⟩ := hrel
      cases gk with
      | zero => exact absurd hj.out (by omega)
      | succ k1 =>
        have : j = 0 ∨ j = 1 ∨ j = 2 ∨ j = 3 ∨ j = 4 ∨ j = 5 ∨ j = 6 ∨ j = 7 ∨ j = 8 := by have := hj.out; omega
        rcases this with rfl | rfl | rfl | rfl | rfl | rfl | rfl | rfl | rfl
        · go_wp2
          go_roundg k1
          case measure => omega
          case rel => exact ⟨1, rfl, ⟨by have := hj.out; omega⟩, by simp [codec_Put.cells, codec_Put.row]⟩
        · go_wp2
          go_roundg k1
          case measure => omega
          case rel => exact ⟨2, rfl, ⟨by have := hj.out; omega⟩, by simp [codec_Put.cells, codec_Put.row]⟩
        · go_wp2
          go_roundg k1
          case measure => omega
          case rel => exact ⟨3, rfl, ⟨by have := hj.out; omega⟩, by simp [codec_Put.cells, codec_Put.row]⟩
        · go_wp2
          go_roundg k1
          case measure => omega
          case rel => exact ⟨4, rfl, ⟨by have := hj.out; omega⟩, by simp [codec_Put.cells, codec_Put.row]⟩
        · go_wp2
          go_roundg k1
          case measure => omega
          case rel => exact ⟨5, rfl, ⟨by have := hj.out; omega⟩, by simp [codec_Put.cells, codec_Put.row]⟩
        · go_wp2
          go_roundg k1
          case measure => omega
          case rel => exact ⟨6, rfl, ⟨by have := hj.out; omega⟩, by simp [codec_Put.cells, codec_Put.row]⟩
        · go_wp2
          go_roundg k1
          case measure => omega
          case rel => exact ⟨7, rfl, ⟨by have := hj.out; omega⟩, by simp [codec_Put.cells, codec_Put.row]⟩
        · go_wp2
          go_roundg k1
          case measure => omega
          case rel => exact ⟨8, rfl, ⟨by have := hj.out; omega⟩, by simp [codec_Put.cells, codec_Put.row, hx]⟩
        · go_wp2
          go_ret2
          refine ⟨_, rfl, R_of_block_ (n := 5) (setRow_heap _ _ _ _ 5 _ (alloc2_new_ _ _ _)) (by omega) rfl (by decide), below_setRow (below_alloc (below_alloc (Below.refl _ _) _) _) (by omega) _⟩
  · have h5 : (a0 / 281474976710656 != 0) = false := by
      rw [bne_eq_false_iff_eq]
      by_cases e : a0 / 2 ^ ((8 * 6 : Int)).toNat = 0
      · exact e
      · exact absurd (.inr (.inr ⟨by omega, e⟩)) h
    clear h
    have hmk : ∀ W : World, (Instr.makeSlice 28 (.int .i64 6) (.int .i64 6)).run Tryd.prog W = .ok (.slice (some ⟨W.heap.size, 0, none⟩) 6 6) (W.alloc (.cells #[.int .u8 0, .int .u8 0, .int .u8 0, .int .u8 0, .int .u8 0, .int .u8 0] 5)) := codec_Put.made_ 6 (by omega)
    have hcp : (Builtin.copy_ #[28, 28] 3 #[.slice (some ⟨w.heap.size + 1, 0, none⟩) 6 6, .slice (some ⟨w.heap.size, 2, none⟩) 6 6]).run Tryd.prog ((w.alloc (.cells (codec_Put.cells a0 8) 70)).alloc (.cells #[.int .u8 0, .int .u8 0, .int .u8 0, .int .u8 0, .int .u8 0, .int .u8 0] 5)) =
      .ok (.int .i64 6) (((w.alloc (.cells (codec_Put.cells a0 8) 70)).alloc (.cells #[.int .u8 0, .int .u8 0, .int .u8 0, .int .u8 0, .int .u8 0, .int .u8 0] 5)).setRow (w.heap.size + 1) (((codec_Put.row a0 8).drop 2).map (Value.int .u8)).toArray) := codec_Put.copied_ w a0 6 (by omega)
    go_enter Tryd.func25, Tryd.ntmps25
    go_wp2
    go_loopg [7, 27] 9 (fun kq v7 v27 w' => ∃ j : Nat, v27 = .int .i64 (j : Int) ∧ Aside0 (j + kq = 9 ∧ j ≤ 8) ∧ w' = w.alloc (.cells (codec_Put.cells a0 j) 70))
    case atStart => exact ⟨0, rfl, ⟨by omega⟩, rfl⟩
    case round =>
      obtain ⟨j, rfl, hj, rfl⟩ := hrel
      cases gk with
      | zero => exact absurd hj.out (by omega)
      | succ k1 =>
        have : j = 0 ∨ j = 1 ∨ j = 2 ∨ j = 3 ∨ j = 4 ∨ j = 5 ∨ j = 6 ∨ j = 7 ∨ j = 8 := by have := hj.out; omega
        rcases this with rfl | rfl | rfl | rfl | rfl | rfl | rfl | rfl | rfl
        · go_wp2
          go_roundg k1
          case measure => omega
          case rel => exact ⟨1, rfl, ⟨by have := hj.out; omega⟩, by simp [codec_Put.cells, codec_Put.row]⟩
        · go_wp2
          go_roundg k1
          case measure => omega
          case rel => exact ⟨2, rfl, ⟨by have := hj.out; omega⟩, by simp [codec_Put.cells, codec_Put.row]⟩
        · go_wp2
          go_roundg k1
          case measure => omega
          case rel => exact ⟨3, rfl, ⟨by have := hj.out; omega⟩, by simp [codec_Put.cells, codec_Put.row]⟩
        · go_wp2
          go_roundg k1
          case measure => omega
          case rel => exact ⟨4, rfl, ⟨by have := hj.out; omega⟩, by simp [codec_Put.cells, codec_Put.row]⟩
        · go_wp2
          go_roundg k1
          case measure => omega
          case rel => exact ⟨5, rfl, ⟨by have := hj.out; omega⟩, by simp [codec_Put.cells, codec_Put.row]⟩
        · go_wp2
          go_roundg k1
          case measure => omega
          case rel => exact ⟨6, rfl, ⟨by have := hj.out; omega⟩, by simp [codec_Put.cells, codec_Put.row]⟩
        · go_wp2
          go_roundg k1
          case measure => omega
          case rel => exact ⟨7, rfl, ⟨by have := hj.out; omega⟩, by simp [codec_Put.cells, codec_Put.row]⟩
        · go_wp2
          go_roundg k1
          case measure => omega
          case rel => exact ⟨8, rfl, ⟨by have := hj.out; omega⟩, by simp [codec_Put.cells, codec_Put.row, hx]⟩
        · go_wp2
          go_ret2
          refine ⟨_, rfl, R_of_block_ (n := 6) (setRow_heap _ _ _ _ 5 _ (alloc2_new_ _ _ _)) (by omega) rfl (by decide), below_setRow (below_alloc (below_alloc (Below.refl _ _) _) _) (by omega) _⟩
  · have h5 : (a0 / 72057594037927936 != 0) = false := by
      rw [bne_eq_false_iff_eq]
      by_cases e : a0 / 2 ^ ((8 * 7 : Int)).toNat = 0
      · exact e
      · exact absurd (.inr (.inr ⟨by omega, e⟩)) h
    clear h
    have hmk : ∀ W : World, (Instr.makeSlice 28 (.int .i64 7) (.int .i64 7)).run Tryd.prog W = .ok (.slice (some ⟨W.heap.size, 0, none⟩) 7 7) (W.alloc (.cells #[.int .u8 0, .int .u8 0, .int .u8 0, .int .u8 0, .int .u8 0, .int .u8 0, .int .u8 0] 5)) := codec_Put.made_ 7 (by omega)
    have hcp : (Builtin.copy_ #[28, 28] 3 #[.slice (some ⟨w.heap.size + 1, 0, none⟩) 7 7, .slice (some ⟨w.heap.size, 1, none⟩) 7 7]).run Tryd.prog ((w.alloc (.cells (codec_Put.cells a0 8) 70)).alloc (.cells #[.int .u8 0, .int .u8 0, .int .u8 0, .int .u8 0, .int .u8 0, .int .u8 0, .int .u8 0] 5)) =
      .ok (.int .i64 7) (((w.alloc (.cells (codec_Put.cells a0 8) 70)).alloc (.cells #[.int .u8 0, .int .u8 0, .int .u8 0, .int .u8 0, .int .u8 0, .int .u8 0, .int .u8 0] 5)).setRow (w.heap.size + 1) (((codec_Put.row a0 8).drop 1).map (Value.int .u8)).toArray) := codec_Put.copied_ w a0 7 (by omega)
    go_enter Tryd.func25, Tryd.ntmps25
    go_wp2
    go_loopg [7, 27] 9 (fun kq v7 v27 w' => ∃ j : Nat, v27 = .int .i64 (j : Int) ∧ Aside0 (j + kq = 9 ∧ j ≤ 8) ∧ w' = w.alloc (.cells (codec_Put.cells a0 j) 70))
    case atStart => exact ⟨0, rfl, ⟨by omega⟩, rfl⟩
    case round =>
      obtain ⟨j, rfl, hj, rfl⟩ := hrel
      cases gk with
      | zero => exact absurd hj.out (by omega)
      | succ k1 =>
        have : j = 0 ∨ j = 1 ∨ j = 2 ∨ j = 3 ∨ j = 4 ∨ j = 5 ∨ j = 6 ∨ j = 7 ∨ j = 8 := by have := hj.out; omega
        rcases this with rfl | rfl | rfl | rfl | rfl | rfl | rfl | rfl | rfl
        · go_wp2
          go_roundg k1
          case measure => omega
          case rel => exact ⟨1, rfl, ⟨by have := hj.out; omega⟩, by simp [codec_Put.cells, codec_Put.row]⟩
        · go_wp2
          go_roundg k1
          case measure => omega
          case rel => exact ⟨2, rfl, ⟨by have := hj.out; omega⟩, by simp [codec_Put.cells, codec_Put.row]⟩
        · go_wp2
          go_roundg k1
          case measure => omega
          case rel => exact ⟨3, rfl, ⟨by have := hj.out; omega⟩, by simp [codec_Put.cells, codec_Put.row]⟩
        · go_wp2
          go_roundg k1
          case measure => omega
          case rel => exact ⟨4, rfl, ⟨by have := hj.out; omega⟩, by simp [codec_Put.cells, codec_Put.row]⟩
        · go_wp2
          go_roundg k1
          case measure => omega
          case rel => exact ⟨5, rfl, ⟨by have := hj.out; omega⟩, by simp [codec_Put.cells, codec_Put.row]⟩
        · go_wp2
          go_roundg k1
          case measure => omega
          case rel => exact ⟨6, rfl, ⟨by have := hj.out; omega⟩, by simp [codec_Put.cells, codec_Put.row]⟩
        · go_wp2
          go_roundg k1
          case measure => omega
          case rel => exact ⟨7, rfl, ⟨by have := hj.out; omega⟩, by simp [codec_Put.cells, codec_Put.row]⟩
        · go_wp2
          go_roundg k1
          case measure => omega
          case rel => exact ⟨8, rfl, ⟨by have := hj.out; omega⟩, by simp [codec_Put.cells, codec_Put.row, hx]⟩
        · go_wp2
          go_ret2
          refine ⟨_, rfl, R_of_block_ (n := 7) (setRow_heap _ _ _ _ 5 _ (alloc2_new_ _ _ _)) (by omega) rfl (by decide), below_setRow (below_alloc (below_alloc (Below.refl _ _) _) _) (by omega) _⟩
  · clear h
    have hmk : ∀ W : World, (Instr.makeSlice 28 (.int .i64 8) (.int .i64 8)).run Tryd.prog W = .ok (.slice (some ⟨W.heap.size, 0, none⟩) 8 8) (W.alloc (.cells #[.int .u8 0, .int .u8 0, .int .u8 0, .int .u8 0, .int .u8 0, .int .u8 0, .int .u8 0, .int .u8 0] 5)) := codec_Put.made_ 8 (by omega)
    have hcp : (Builtin.copy_ #[28, 28] 3 #[.slice (some ⟨w.heap.size + 1, 0, none⟩) 8 8, .slice (some ⟨w.heap.size, 0, none⟩) 8 8]).run Tryd.prog ((w.alloc (.cells (codec_Put.cells a0 8) 70)).alloc (.cells #[.int .u8 0, .int .u8 0, .int .u8 0, .int .u8 0, .int .u8 0, .int .u8 0, .int .u8 0, .int .u8 0] 5)) =
      .ok (.int .i64 8) (((w.alloc (.cells (codec_Put.cells a0 8) 70)).alloc (.cells #[.int .u8 0, .int .u8 0, .int .u8 0, .int .u8 0, .int .u8 0, .int .u8 0, .int .u8 0, .int .u8 0] 5)).setRow (w.heap.size + 1) (((codec_Put.row a0 8).drop 0).map (Value.int .u8)).toArray) := codec_Put.copied_ w a0 8 (by omega)
    go_enter Tryd.func25, Tryd.ntmps25
    go_wp2
    go_loopg [7, 27] 9 (fun kq v7 v27 w' => ∃ j : Nat, v27 = .int .i64 (j : Int) ∧ Aside0 (j + kq = 9 ∧ j ≤ 8) ∧ w' = w.alloc (.cells (codec_Put.cells a0 j) 70))
    case atStart => exact ⟨0, rfl, ⟨by omega⟩, rfl⟩
    case round =>
      obtain ⟨j, rfl, hj, rfl⟩ := hrel
      cases gk with
      | zero => exact absurd hj.out (by omega)
      | succ k1 =>
        have : j = 0 ∨ j = 1 ∨ j = 2 ∨ j = 3 ∨ j = 4 ∨ j = 5 ∨ j = 6 ∨ j = 7 ∨ j = 8 := by have := hj.out; omega
        rcases this with rfl | rfl | rfl | rfl | rfl | rfl | rfl | rfl | rfl
        · go_wp2
          go_roundg k1
          case measure => omega
          case rel => exact ⟨1, rfl, ⟨by have := hj.out; omega⟩, by simp [codec_Put.cells, codec_Put.row]⟩
        · go_wp2
          go_roundg k1
          case measure => omega
          case rel => exact ⟨2, rfl, ⟨by have := hj.out; omega⟩, by simp [codec_Put.cells, codec_Put.row]⟩
        · go_wp2
          go_roundg k1
          case measure => omega
          case rel => exact ⟨3, rfl, ⟨by have := hj.out; omega⟩, by simp [codec_Put.cells, codec_Put.row]⟩
        · go_wp2
          go_roundg k1
          case measure => omega
          case rel => exact ⟨4, rfl, ⟨by have := hj.out; omega⟩, by simp [codec_Put.cells, codec_Put.row]⟩
        · go_wp2
          go_roundg k1
          case measure => omega
          case rel => exact ⟨5, rfl, ⟨by have := hj.out; omega⟩, by simp [codec_Put.cells, codec_Put.row]⟩
        · go_wp2
          go_roundg k1
          case measure => omega
          case rel => exact ⟨6, rfl, ⟨by have := hj.out; omega⟩, by simp [codec_Put.cells, codec_Put.row]⟩
        · go_wp2
          go_roundg k1
          case measure => omega
          case rel => exact ⟨7, rfl, ⟨by have := hj.out; omega⟩, by simp [codec_Put.cells, codec_Put.row]⟩
        · go_wp2
          go_roundg k1
          case measure => omega
          case rel => exact ⟨8, rfl, ⟨by have := hj.out; omega⟩, by simp [codec_Put.cells, codec_Put.row, hx]⟩
        · go_wp2
          go_ret2
          refine ⟨_, rfl, R_of_block_ (n := 8) (setRow_heap _ _ _ _ 5 _ (alloc2_new_ _ _ _)) (by omega) rfl (by decide), below_setRow (below_alloc (below_alloc (Below.refl _ _) _) _) (by omega) _⟩
theorem codec_Put.calls (E : Int → Addr) (a0 a1 : Int) (r1 : List Int) (r2 : Option Int) (w : World) (hG : Glob E w) (h : codec_Put.f a0 a1 = some (r1, r2)) :
    Calls Tryd.prog 25 #[.int .u64 a0, .int .i64 a1] w fun e w' => ∃ v0_ : Value, e = .returned (.tuple #[v0_, errW E r2]) ∧ Kd.R (Kd.int .u8) 5 w' w.heap.size (fun _ => True) v0_ r1 ∧ Below w.heap.size w w' := by
  unfold codec_Put.f at h
  split at h
  · rename_i h0
    split at h
    · rename_i h1
      simp only [Option.some.injEq, Prod.mk.injEq] at h
      obtain ⟨rfl, rfl⟩ := h
      exact (codec_Put.refuse E a0 a1 w hG h0.1 h1).mono (fun e w' he => ⟨_, he.1, Kd.R_nil _ _ _ _ _, he.2⟩)
    · rename_i h1
      simp only [Option.some.injEq, Prod.mk.injEq] at h
      obtain ⟨rfl, rfl⟩ := h
      exact (codec_Put.good E a0 a1 w h0.1 h0.2 h1)
  · simp at h

/-! ### copseref1_Put: function 26 -/
mutual
def copseref1_Put.j0 : Nat → Int → Int → Bool → Option (List Int × Int)
  | 0, _, _, _ => none
  | k + 1, x0, x1, x25 => if x25 = true then (some (([] : List Int), 1)) else (copseref1_Put.l0 k x0 ([] : List Int) (wrap64 (x1 - 1)))
def copseref1_Put.l0 : Nat → Int → List Int → Int → Option (List Int × Int)
  | 0, _, _, _ => none
  | k + 1, x0, x6, x7 => if x7 ≥ 0 then (if 0 ≤ (IntKind.u64.wrap (wrap64 (8 * x7))) then (if x6.length < 140737488355328 then (copseref1_Put.l0 k x0 (x6 ++ [(shr .u64 x0 (IntKind.u64.wrap (wrap64 (8 * x7)))) % 256]) (wrap64 (x7 - 1))) else (none)) else (none)) else (some (x6, 0))
end
def copseref1_Put.f (k : Nat) (a0 : Int) (a1 : Int) : Option (List Int × Int) := if a1 < 1 then (copseref1_Put.j0 k a0 a1 true) else (if a1 > 8 then (copseref1_Put.j0 k a0 a1 true) else (if a1 < 8 then (if 0 ≤ (IntKind.u64.wrap (wrap64 (8 * a1))) then (copseref1_Put.j0 k a0 a1 ((shr .u64 a0 (IntKind.u64.wrap (wrap64 (8 * a1)))) != 0)) else (none)) else (copseref1_Put.j0 k a0 a1 false)))
theorem copseref1_Put.mono_l : ∀ k, (∀ y0 y1 y2, LeO (copseref1_Put.j0 k y0 y1 y2) (copseref1_Put.j0 (k + 1) y0 y1 y2)) ∧ (∀ y0 y1 y2, LeO (copseref1_Put.l0 k y0 y1 y2) (copseref1_Put.l0 (k + 1) y0 y1 y2))
  | 0 => ⟨fun _ _ _ r h => by simp [copseref1_Put.j0] at h, fun _ _ _ r h => by simp [copseref1_Put.l0] at h⟩
  | k + 1 => by
    obtain ⟨ih0, ih1⟩ := copseref1_Put.mono_l k
    refine ⟨?_, ?_⟩
    · intro y0 y1 y2
      unfold copseref1_Put.j0
      repeat' first
      | (with_reducible exact ih0 _ _ _)
      | (with_reducible exact ih1 _ _ _)
      | (with_reducible exact LeO.refl _)
      | (with_reducible exact LeO.none _)
      | (with_reducible refine LeO.ite ?_ ?_)
      | (with_reducible refine LeO.bind ?_ (fun _ => ?_))
      | exact ih0 _ _ _
      | exact ih1 _ _ _
      | exact LeO.none _
      | refine LeO.ite ?_ ?_
      | refine LeO.bind ?_ (fun _ => ?_)
    · intro y0 y1 y2
      unfold copseref1_Put.l0
      repeat' first
      | (with_reducible exact ih0 _ _ _)
      | (with_reducible exact ih1 _ _ _)
      | (with_reducible exact LeO.refl _)
      | (with_reducible exact LeO.none _)
      | (with_reducible refine LeO.ite ?_ ?_)
      | (with_reducible refine LeO.bind ?_ (fun _ => ?_))
      | exact ih0 _ _ _
      | exact ih1 _ _ _
      | exact LeO.none _
      | refine LeO.ite ?_ ?_
      | refine LeO.bind ?_ (fun _ => ?_)
theorem copseref1_Put.mono : ∀ a0 a1 k, LeO (copseref1_Put.f k a0 a1) (copseref1_Put.f (k + 1) a0 a1) := by
  intro a0 a1 k
  obtain ⟨ih0, ih1⟩ := copseref1_Put.mono_l k
  unfold copseref1_Put.f
  repeat' first
      | (with_reducible exact ih0 _ _ _)
      | (with_reducible exact ih1 _ _ _)
      | (with_reducible exact LeO.refl _)
      | (with_reducible exact LeO.none _)
      | (with_reducible refine LeO.ite ?_ ?_)
      | (with_reducible refine LeO.bind ?_ (fun _ => ?_))
      | exact ih0 _ _ _
      | exact ih1 _ _ _
      | exact LeO.none _
      | refine LeO.ite ?_ ?_
      | refine LeO.bind ?_ (fun _ => ?_)
set_option maxHeartbeats 8000000 in
set_option maxRecDepth 100000 in
theorem copseref1_Put.calls (k : Nat) (a0 : Int) (a1 : Int) (r1 : List Int) (r2 : Int) (w : World) (h : copseref1_Put.f k a0 a1 = some (r1, r2)) :
    Calls Tryd.prog 26 #[.int .u64 a0, .int .i64 a1] w fun e w' => ∃ v0_ : Value, e = .returned (.tuple #[v0_, .int .i64 r2]) ∧ Kd.R (Kd.int .u8) 5 w' w.heap.size (fun _ => True) v0_ r1 ∧ Below w.heap.size w w' := by
  have HB := Aside0.mk (Below.refl w.heap.size w)
  have H : (if a1 < 1 then (copseref1_Put.j0 k a0 a1 true) else (if a1 > 8 then (copseref1_Put.j0 k a0 a1 true) else (if a1 < 8 then (if 0 ≤ (IntKind.u64.wrap (wrap64 (8 * a1))) then (copseref1_Put.j0 k a0 a1 ((shr .u64 a0 (IntKind.u64.wrap (wrap64 (8 * a1)))) != 0)) else (none)) else (copseref1_Put.j0 k a0 a1 false)))) = some (r1, r2) := h
  clear h
  have HC3 := Aside0.mk H
  clear H
  go_enter Tryd.func26, Tryd.ntmps26
  go_upto_region 1 with (fail)
  go_cut [25] (fun v25 wc => ∃ (kq : Nat) (x25_2 : Bool), v25 = .bool x25_2 ∧ Aside0 (copseref1_Put.j0 kq a0 a1 x25_2 = some (r1, r2)) ∧ Aside0 (kq ≤ k) ∧ Aside0 (Below w.heap.size w wc))
  case first =>
    have H := HC3.out
    clear HC3
    by_cases c4 : a1 < 1
    · rw [if_pos c4] at H
      have c4b0 : decide (a1 < 1) = true := decide_eq_true c4
      clear c4
      (first | rw [c4b0] | (simp only [i64_w, i32_w]; rw [c4b0]) | skip)
      have H' := Aside0.mk H
      clear H
      go_wp2
      go_meet
      case rel => exact ⟨_, (true), (by first | rfl | (simp; done) | (simp [*]; done)), H', ⟨by first | omega | exact Nat.le_refl _⟩, ⟨by repeat (first | (with_reducible first | exact HB.out | apply below_alloc | apply pw_below_drewN | apply below_drew1) | exact HB.out)⟩⟩
    · rw [if_neg c4] at H
      have c4b0 : decide (a1 < 1) = false := decide_eq_false c4
      clear c4
      (first | rw [c4b0] | (simp only [i64_w, i32_w]; rw [c4b0]) | skip)
      by_cases c5 : a1 > 8
      · rw [if_pos c5] at H
        have c5b0 : decide (8 < a1) = true := decide_eq_true c5
        clear c5
        have H' := Aside0.mk H
        clear H
        go_wp2
        go_meet
        case rel => exact ⟨_, (true), (by first | rfl | (simp; done) | (simp [*]; done)), H', ⟨by first | omega | exact Nat.le_refl _⟩, ⟨by repeat (first | (with_reducible first | exact HB.out | apply below_alloc | apply pw_below_drewN | apply below_drew1) | exact HB.out)⟩⟩
      · rw [if_neg c5] at H
        have c5b0 : decide (8 < a1) = false := decide_eq_false c5
        clear c5
        by_cases c6 : a1 < 8
        · rw [if_pos c6] at H
          have c6b0 : decide (a1 < 8) = true := decide_eq_true c6
          clear c6
          obtain ⟨ji7, hji7⟩ : ∃ j_ : Int, (IntKind.u64.wrap (wrap64 (8 * a1))) = j_ := ⟨_, rfl⟩
          replace H : (if 0 ≤ (ji7) then (copseref1_Put.j0 k a0 a1 ((shr .u64 a0 (ji7)) != 0)) else (none)) = some (r1, r2) := by first | (rw [hji7] at H; exact H) | (simp only [hji7] at H ⊢; exact H)
          by_cases c8 : 0 ≤ (ji7)
          · rw [if_pos c8] at H
            have c8b0 := eq_true c8
            have c8b1 : decide (0 ≤ (ji7)) = true := decide_eq_true c8
            clear c8
            obtain ⟨ji9, hji9⟩ : ∃ j_ : Int, (shr .u64 a0 (ji7)) = j_ := ⟨_, rfl⟩
            replace H : (copseref1_Put.j0 k a0 a1 ((ji9) != 0)) = some (r1, r2) := by first | (rw [hji9] at H; exact H) | (simp only [hji9] at H ⊢; exact H)
            have hji9_ : (a0 / 2 ^ min (ji7).toNat 64) = ji9 := hji9
            have hji9z : (ji7) ≤ 64 → (a0 / 2 ^ (ji7).toNat) = ji9 := shr_small hji9
            have H' := Aside0.mk H
            clear H
            go_wp2
            go_meet
            case rel => exact ⟨_, (((ji9) != 0)), (by first | rfl | (simp; done) | (simp only [← hji9] <;> (first | rfl | simp)) | (simp [*]; done)), H', ⟨by first | omega | exact Nat.le_refl _⟩, ⟨by repeat (first | (with_reducible first | exact HB.out | apply below_alloc | apply pw_below_drewN | apply below_drew1) | exact HB.out)⟩⟩
          · rw [if_neg c8] at H
            exact absurd H (by simp)
        · rw [if_neg c6] at H
          have c6b0 : decide (a1 < 8) = false := decide_eq_false c6
          clear c6
          have H' := Aside0.mk H
          clear H
          go_wp2
          go_meet
          case rel => exact ⟨_, (false), (by first | rfl | (simp; done) | (simp [*]; done)), H', ⟨by first | omega | exact Nat.le_refl _⟩, ⟨by repeat (first | (with_reducible first | exact HB.out | apply below_alloc | apply pw_below_drewN | apply below_drew1) | exact HB.out)⟩⟩
  case rest =>
    clear HC3
    try clear c2
    try clear p2
    try clear c4
    try clear c4b0
    try clear c5
    try clear c5b0
    try clear c6
    try clear c6b0
    try clear p6
    try clear c8
    try clear c8b0
    try clear c8b1
    obtain ⟨kq, x25_2, rfl, HA, HJ2, HB⟩ := hcut
    cases kq with
    | zero => exact absurd HA.out (by simp [copseref1_Put.j0])
    | succ kj2 =>
      have H := HA.out
      clear HA
      simp only [copseref1_Put.j0] at H
      by_cases c10 : x25_2 = true
      · subst c10
        have H1 : (some (([] : List Int), 1)) = some (r1, r2) := by rw [if_pos rfl] at H; exact H
        clear H
        have H := H1
        clear H1
        simp only [Option.some.injEq, Prod.mk.injEq] at H
        obtain ⟨rfl, rfl⟩ := H
        go_wp2
        go_ret2
        exact ⟨_, by first | rfl | (simp [errW_none, errW_some] <;> rfl) | (simp [*, errW_none, errW_some] <;> rfl), by first | exact Kd.R_nil _ _ _ _ _ | exact Kd.N_nil _ _ _ _ _ | exact Kd.V_nil _ _ _ _ _ | exact Kd.Q_nil _ _ _ _ _ | exact Kd.S_nil _ _ _ _ _, by repeat (first | (with_reducible first | exact HB.out | apply below_alloc | apply pw_below_drewN | apply below_drew1) | exact HB.out)⟩
      · replace c10 := Bool.eq_false_iff.mpr c10
        subst c10
        have H1 : (copseref1_Put.l0 kj2 a0 ([] : List Int) (wrap64 (a1 - 1))) = some (r1, r2) := by rw [if_neg (show ¬ (false = true) by decide)] at H; exact H
        clear H
        have H := H1
        clear H1
        have H' := Aside0.mk H
        clear H
        go_wp2
        go_loopg [6, 7] kj2 (fun kq v6 v7 w' => ∃ (x6_2 : List Int) (x7_2 : Int), v7 = .int .i64 x7_2 ∧ Aside0 (copseref1_Put.l0 kq a0 x6_2 x7_2 = some (r1, r2)) ∧ Aside0 (kq ≤ kj2) ∧ Aside0 (Kd.R (Kd.int .u8) 5 w' w.heap.size (fun _ => True) v6 x6_2) ∧ Aside0 (Below w.heap.size w w'))
        case atStart => exact ⟨(([] : List Int)), (wrap64 (a1 - 1)), (by first | rfl | (simp; done) | (simp [*]; done)), H', ⟨Nat.le_refl _⟩, ⟨by first | exact Kd.R_nil _ _ _ _ _ | exact Kd.N_nil _ _ _ _ _ | exact Kd.V_nil _ _ _ _ _ | exact Kd.Q_nil _ _ _ _ _ | exact Kd.S_nil _ _ _ _ _⟩, ⟨by repeat (first | (with_reducible first | exact HB.out | apply below_alloc | apply pw_below_drewN | apply below_drew1) | exact HB.out)⟩⟩
        case round =>
          clear H'
          try clear c1
          try clear c2
          try clear p2
          try clear c4
          try clear c4b0
          try clear c5
          try clear c5b0
          try clear c6
          try clear c6b0
          try clear p6
          try clear c8
          try clear c8b0
          try clear c8b1
          try clear c10
          try clear p2
          try clear p6
          obtain ⟨x6_2, x7_2, rfl, HA, HK2, HO_6, HB⟩ := hrel
          cases gk with
          | zero => exact absurd HA.out (by simp [copseref1_Put.l0])
          | succ k2 =>
            have H := HA.out
            clear HA
            simp only [copseref1_Put.l0] at H
            by_cases c11 : x7_2 ≥ 0
            · rw [if_pos c11] at H
              have c11b0 : decide (0 ≤ x7_2) = true := decide_eq_true c11
              clear c11
              obtain ⟨ji12, hji12⟩ : ∃ j_ : Int, (IntKind.u64.wrap (wrap64 (8 * x7_2))) = j_ := ⟨_, rfl⟩
              replace H : (if 0 ≤ (ji12) then (if x6_2.length < 140737488355328 then (copseref1_Put.l0 k2 a0 (x6_2 ++ [(shr .u64 a0 (ji12)) % 256]) (wrap64 (x7_2 - 1))) else (none)) else (none)) = some (r1, r2) := by first | (rw [hji12] at H; exact H) | (simp only [hji12] at H ⊢; exact H)
              by_cases c13 : 0 ≤ (ji12)
              · rw [if_pos c13] at H
                have c13b0 := eq_true c13
                have c13b1 : decide (0 ≤ (ji12)) = true := decide_eq_true c13
                clear c13
                obtain ⟨ji14, hji14⟩ : ∃ j_ : Int, (shr .u64 a0 (ji12)) = j_ := ⟨_, rfl⟩
                replace H : (if x6_2.length < 140737488355328 then (copseref1_Put.l0 k2 a0 (x6_2 ++ [(ji14) % 256]) (wrap64 (x7_2 - 1))) else (none)) = some (r1, r2) := by first | (rw [hji14] at H; exact H) | (simp only [hji14] at H ⊢; exact H)
                have hji14_ : (a0 / 2 ^ min (ji12).toNat 64) = ji14 := hji14
                have hji14z : (ji12) ≤ 64 → (a0 / 2 ^ (ji12).toNat) = ji14 := shr_small hji14
                by_cases c15 : x6_2.length < 140737488355328
                · rw [if_pos c15] at H
                  have LMc15 := Aside0.mk c15
                  clear c15
                  obtain ⟨y104, hy104⟩ : ∃ y_ : List Int, y_ = (x6_2 ++ [(ji14) % 256]) := ⟨_, rfl⟩
                  replace H : (copseref1_Put.l0 k2 a0 y104 (wrap64 (x7_2 - 1))) = some (r1, r2) := by first | (rw [hy104]; with_reducible exact H) | (have H2_ := (Option.bind_some _ _).symm.trans H; rw [hy104]; with_reducible exact H2_) | (have H2_ := (Option.bind_some _ _).symm.trans H; with_reducible exact H2_) | with_reducible exact H | (rw [hy104]; exact H) | exact H
                  have Ny104 := Aside0.mk hy104
                  clear hy104
                  have H' := Aside0.mk H
                  clear H
                  go_wp2_with (first | ((with_reducible refine gate_builtin (b := .append) (xs := #[.tmp 32, .tmp 39]) rfl ?_); at_builtin; refine Kd.R_append (Kd.int .u8) (w0 := w) w.heap.size rfl (.tmp 32) (.tmp 39) 28 5 (.int .u8 0) 1 rfl Tryd.underlying28 info5 rfl (by decide) (by omega) u6 x6_2 ((ji14) % 256) [.int .u8 ((ji14) % 256)] (fun _ => True) (fun _ => False) rfl rfl ?aP (fun _ hk => hk.elim) ?aF ?aO ?aB ?aS ?aL ?_; (case aP => exact rfl); (case aB => exact (by repeat (first | (with_reducible first | exact HB.out | apply below_alloc | apply pw_below_drewN | apply below_drew1) | exact HB.out))); (case aF => exact (fun _ _ => trivial)); (case aO => exact (by (with_reducible repeat (first | apply Kd.R_alloc | apply Kd.R_drewN | apply Kd.R_drew)); exact HO_6.out)); (case aS => exact (below_size (by repeat (first | (with_reducible first | exact HB.out | apply below_alloc | apply pw_below_drewN | apply below_drew1) | exact HB.out)))); (case aL => have := LMc15.out; omega); intro v105 w16 ho hb hg hat; rw [← Ny104.out] at ho; have n0_ := Aside0.mk (hb); have n1_ := Aside0.mk (ho); clear HB; clear HO_6; have HB := n0_; have HO106 := n1_; clear n0_ n1_; clear ho hb hg hat))
                  go_roundg k2
                  case measure => have := HJ2.out; have := HK2.out; omega
                  case rel => exact ⟨(y104), (wrap64 (x7_2 - 1)), (by first | rfl | (simp; done) | (simp [*]; done)), H', ⟨by have := HJ2.out; have := HK2.out; omega⟩, ⟨by (with_reducible repeat (first | apply Kd.R_alloc | apply Kd.R_drewN | apply Kd.R_drew)); exact HO106.out⟩, ⟨by repeat (first | (with_reducible first | exact HB.out | apply below_alloc | apply pw_below_drewN | apply below_drew1) | exact HB.out)⟩⟩
                · rw [if_neg c15] at H
                  exact absurd H (by simp)
              · rw [if_neg c13] at H
                exact absurd H (by simp)
            · rw [if_neg c11] at H
              have c11b0 : decide (0 ≤ x7_2) = false := decide_eq_false c11
              clear c11
              simp only [Option.some.injEq, Prod.mk.injEq] at H
              obtain ⟨rfl, rfl⟩ := H
              go_wp2
              go_ret2
              exact ⟨_, by first | rfl | (simp [errW_none, errW_some] <;> rfl) | (simp [*, errW_none, errW_some] <;> rfl), by (with_reducible repeat (first | apply Kd.R_alloc | apply Kd.R_drewN | apply Kd.R_drew)); exact HO_6.out, by repeat (first | (with_reducible first | exact HB.out | apply below_alloc | apply pw_below_drewN | apply below_drew1) | exact HB.out)⟩

end Go.Proofs.YtcjfmlgljfggpaaDoor.XCodecNew
