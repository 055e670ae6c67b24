-- Printed for this claim by a program (wip/printx) that builds on the kit's print. Not trusted: Lean checks it.
import Derived.Test.YtmjdkddpfcfepaaDoorXCellsLaysx0
namespace Go.Proofs.YtmjdkddpfcfepaaDoor.XCellsLays
open Go.RowKit Go.Proofs.YtmjdkddpfcfepaaDoorW.PrintWords Go.Proofs.YtmjdkddpfcfepaaDoorW.PrintLast Go.Proofs.YtmjdkddpfcfepaaDoorW.PrintMore
attribute [local go_sem] max2_int min2_int max_two min_two max_three min_three max_four min_four   -- for this text's walks alone
set_option linter.unusedVariables false
set_option linter.unusedSimpArgs false

/-! ### copselaw6_texts: function 10 -/
def copselaw6_texts.f (l0 : List ByteArray) : Option (List ByteArray) := if ([] : List ByteArray).length + l0.length < 8796093022208 then (some (([] : List ByteArray) ++ l0)) else (none)
set_option maxHeartbeats 8000000 in
set_option maxRecDepth 100000 in
theorem copselaw6_texts.calls (A0 : Option Addr) (c0 : Nat) (l0 : List ByteArray) (r : List ByteArray) (w : World) (hr0 : Kd.C Kd.string w A0 l0.length l0) (hc0 : l0.length ≤ c0) (h : copselaw6_texts.f l0 = some r) :
    Calls Tryd.prog 10 #[.slice A0 l0.length c0] w fun e w' => ∃ v0_ : Value, e = .returned (v0_) ∧ Kd.R Kd.string 9 w' w.heap.size (fun _ => True) v0_ r ∧ Below w.heap.size w w' := by
  have HR0 := Aside0.mk hr0
  have HC0 := Aside0.mk hc0
  clear hr0 hc0
  have HB := Aside0.mk (Below.refl w.heap.size w)
  have H : (if ([] : List ByteArray).length + l0.length < 8796093022208 then (some (([] : List ByteArray) ++ l0)) else (none)) = some r := h
  clear h
  by_cases c2 : ([] : List ByteArray).length + l0.length < 8796093022208
  · rw [if_pos c2] at H
    have LMc2 := Aside0.mk c2
    clear c2
    obtain ⟨y101, hy101⟩ : ∃ y_ : List ByteArray, y_ = (([] : List ByteArray) ++ l0) := ⟨_, rfl⟩
    replace H : (some y101) = some r := by first | (rw [hy101]; with_reducible exact H) | (have H2_ := (Option.bind_some _ _).symm.trans H; rw [hy101]; with_reducible exact H2_) | (have H2_ := (Option.bind_some _ _).symm.trans H; with_reducible exact H2_) | with_reducible exact H | (rw [hy101]; exact H) | exact H
    have Ny101 := Aside0.mk hy101
    clear hy101
    obtain rfl := Option.some.inj H
    go_enter Tryd.func10, Tryd.ntmps10
    go_wp2_with (first | ((with_reducible refine gate_builtin (b := .append) (xs := #[.tmp 4, .tmp 5]) rfl ?_); at_builtin; refine Kd.R_append_rows Kd.string (w0 := w) w.heap.size rfl (.tmp 4) (.tmp 5) 22 9 (.string ⟨#[]⟩) 16 rfl Tryd.underlying22 info9 rfl (by decide) (by omega) (.slice none 0 0) ([] : List ByteArray) l0 _ _ _ (fun _ => True) (fun _ => False) rfl rfl ?aO ?aR (fun _ _ h => h) (fun _ h => h.elim) ?aF ?aB ?aS ?aL ?_; (case aR => repeat (first | exact HR0.out | (with_reducible refine Kd.C_alloc ?_ _) | (with_reducible refine Kd.C_drewN ?_ _) | (with_reducible refine Kd.C_drew ?_))); (case aB => exact (by repeat (first | (with_reducible first | exact HB.out | apply below_alloc | apply pw_below_drewN | apply below_drew1) | exact HB.out))); (case aF => exact (fun _ _ => trivial)); (case aO => exact ((Kd.R_nil _ _ _ _ (fun _ => True)))); (case aS => exact (below_size (by repeat (first | (with_reducible first | exact HB.out | apply below_alloc | apply pw_below_drewN | apply below_drew1) | exact HB.out)))); (case aL => have := LMc2.out; omega); intro v102 w3 ho hb hg hat; rw [← Ny101.out] at ho; have n0_ := Aside0.mk (hb); have n1_ := Aside0.mk (ho); clear HB; have HB := n0_; have HO103 := n1_; clear n0_ n1_; clear ho hb hg hat))
    go_ret
    exact ⟨_, by first | rfl | (simp [errW_none, errW_some] <;> rfl) | (simp [*, errW_none, errW_some] <;> rfl), by (with_reducible repeat (first | apply Kd.R_alloc | apply Kd.R_drewN | apply Kd.R_drew)); exact HO103.out, by repeat (first | (with_reducible first | exact HB.out | apply below_alloc | apply pw_below_drewN | apply below_drew1) | exact HB.out)⟩
  · rw [if_neg c2] at H
    exact absurd H (by simp)

/-! ### cells_Size: function 11 -/
def cells_Size.l0 : Nat → Int → List ByteArray → Int → Int → Option (Int)
  | 0, _, _, _, _ => none
  | k + 1, x3, x9, x10, x11 => if x11 < x10 then (if 0 ≤ x11 then (if x11 < (x9.length : Int) then (cells_Size.l0 k (wrap64 (x3 + ((rdOf ByteArray.empty x9 x11).size : Int))) x9 x10 (wrap64 (x11 + 1))) else (none)) else (none)) else (some x3)
def cells_Size.f (k : Nat) (l0 : List ByteArray) : Option (Int) := cells_Size.l0 k (wrap64 (2 * (l0.length : Int))) l0 (l0.length : Int) 0
theorem cells_Size.mono_l : ∀ k, (∀ y0 y1 y2 y3, LeO (cells_Size.l0 k y0 y1 y2 y3) (cells_Size.l0 (k + 1) y0 y1 y2 y3))
  | 0 => fun _ _ _ _ r h => by simp [cells_Size.l0] at h
  | k + 1 => by
    have ih0 := cells_Size.mono_l k
    · intro y0 y1 y2 y3
      unfold cells_Size.l0
      repeat' first
      | (with_reducible exact ih0 _ _ _ _)
      | (with_reducible exact LeO.refl _)
      | (with_reducible exact LeO.none _)
      | (with_reducible refine LeO.ite ?_ ?_)
      | (with_reducible refine LeO.bind ?_ (fun _ => ?_))
      | exact ih0 _ _ _ _
      | exact LeO.none _
      | refine LeO.ite ?_ ?_
      | refine LeO.bind ?_ (fun _ => ?_)
theorem cells_Size.mono : ∀ a0 k, LeO (cells_Size.f k a0) (cells_Size.f (k + 1) a0) := by
  intro a0 k
  have ih0 := cells_Size.mono_l k
  unfold cells_Size.f
  repeat' first
      | (with_reducible exact ih0 _ _ _ _)
      | (with_reducible exact LeO.refl _)
      | (with_reducible exact LeO.none _)
      | (with_reducible refine LeO.ite ?_ ?_)
      | (with_reducible refine LeO.bind ?_ (fun _ => ?_))
      | exact ih0 _ _ _ _
      | exact LeO.none _
      | refine LeO.ite ?_ ?_
      | refine LeO.bind ?_ (fun _ => ?_)
set_option maxHeartbeats 8000000 in
set_option maxRecDepth 100000 in
theorem cells_Size.calls (k : Nat) (A0 : Option Addr) (c0 : Nat) (l0 : List ByteArray) (r : Int) (w : World) (hr0 : Kd.C Kd.string w A0 l0.length l0) (hc0 : l0.length ≤ c0) (h : cells_Size.f k l0 = some r) :
    Calls Tryd.prog 11 #[.slice A0 l0.length c0] w fun e w' => e = .returned (.int .i64 r) ∧ Drawn0 w w' := by
  have HR0 := Aside0.mk hr0
  have HC0 := Aside0.mk hc0
  clear hr0 hc0
  have H : (cells_Size.l0 k (wrap64 (2 * (l0.length : Int))) l0 (l0.length : Int) 0) = some r := h
  clear h
  have H' := Aside0.mk H
  clear H
  go_enter Tryd.func11, Tryd.ntmps11
  go_wp2
  go_loopg [3, 11] k (fun kq v3 v11 w' => ∃ (x3_1 : Int) (x11_1 : Int), v3 = .int .i64 x3_1 ∧ v11 = .int .i64 x11_1 ∧ Aside0 (cells_Size.l0 kq x3_1 l0 (l0.length : Int) x11_1 = some r) ∧ Aside0 (kq ≤ k) ∧ Drawn0 w w')
  case atStart => exact ⟨(wrap64 (2 * (l0.length : Int))), (0), (by first | rfl | (simp; done) | (simp [*]; done)), (by first | rfl | (simp; done) | (simp [*]; done)), H', ⟨Nat.le_refl _⟩, by repeat (first | exact Drawn0.refl _ | apply Drawn0.step)⟩
  case round =>
    clear H'
    try clear c1
    obtain ⟨x3_1, x11_1, rfl, rfl, HA, HK1, ⟨m1, rfl⟩⟩ := hrel
    cases gk with
    | zero => exact absurd HA.out (by simp [cells_Size.l0])
    | succ k1 =>
      have H := HA.out
      clear HA
      simp only [cells_Size.l0] at H
      by_cases c2 : x11_1 < (l0.length : Int)
      · rw [if_pos c2] at H
        have c2b0 : decide (x11_1 < (l0.length : Int)) = true := decide_eq_true c2
        clear c2
        by_cases c3 : 0 ≤ x11_1
        · rw [if_pos c3] at H
          have c3b0 : decide (0 ≤ x11_1) = true := decide_eq_true c3
          clear c3
          by_cases c4 : x11_1 < (l0.length : Int)
          · rw [if_pos c4] at H
            have c4b0 : decide (x11_1 < (l0.length : Int)) = true := decide_eq_true c4
            clear c4
            have H' := Aside0.mk H
            clear H
            have p104 : 0 ≤ (x11_1 : Int) := of_decide_eq_true (by first | (with_reducible assumption) | assumption)
            have q104 : x11_1 < (l0.length : Int) := of_decide_eq_true (by first | (with_reducible assumption) | assumption)
            obtain ⟨ad104, e104, hx104_0⟩ := Kd.at_string HR0.out x11_1 p104 q104
            cases e104
            replace p104 := eq_true p104
            replace q104 := eq_true q104
            go_wp2
            go_roundg k1
            case measure => have := HK1.out; omega
            case rel => exact ⟨(wrap64 (x3_1 + ((rdOf ByteArray.empty l0 x11_1).size : Int))), (wrap64 (x11_1 + 1)), (by first | rfl | (simp; done) | (simp [*]; done)), (by first | rfl | (simp; done) | (simp [*]; done)), H', ⟨by have := HK1.out; omega⟩, by repeat (first | exact Drawn0.refl _ | apply Drawn0.step)⟩
          · rw [if_neg c4] at H
            exact absurd H (by simp)
        · rw [if_neg c3] at H
          exact absurd H (by simp)
      · rw [if_neg c2] at H
        have c2b0 : decide (x11_1 < (l0.length : Int)) = false := decide_eq_false c2
        clear c2
        obtain rfl := Option.some.inj H
        go_wp2
        go_ret
        exact ⟨by first | rfl | (simp; done) | (simp [*]; done), by repeat (first | exact Drawn0.refl _ | apply Drawn0.step)⟩

/-! ### cells_Lay: function 12 -/
theorem szB_ : (Tryd.prog.info? 5).map (·.size) = some 1 := by kernel_rfl
theorem setRow_alloc_ (W : World) (c d : Array Value) (t : Nat) : (W.alloc (.cells c t)).setRow W.heap.size d = W.alloc (.cells d t) := by
  unfold World.setRow World.alloc
  congr 1
  apply Array.ext_getElem?
  intro k
  simp only [Array.getElem?_modify, Array.getElem?_push, Array.size_modify]
  split
  · rename_i h
    subst h
    simp
  · rename_i h
    rw [if_neg (fun e => h e.symm), if_neg (fun e => h e.symm)]
/-- The end of the first i texts. -/
def layE (l : List ByteArray) (i : Nat) : Nat := 2 * l.length + ((l.take i).map (·.size)).sum
/-- The body behind i rounds. -/
def layC (l : List ByteArray) : Nat → List Int
  | 0 => List.replicate 4072 0
  | i + 1 => (((layC l i).take (layE l i) ++ bytesOf (l.getD i ⟨#[]⟩) ++ (layC l i).drop (layE l (i + 1))).set (2 * i) ((layE l (i + 1) : Int) / 256 % 256)).set (2 * i + 1) ((layE l (i + 1) : Int) % 256)
def layN (C : List Int) : Array Value := (C.map (Value.int .u8)).toArray
set_option maxRecDepth 100000 in
theorem lay_copy (W : World) (C : List Int) (hC : C.length = 4072) (e : Nat) (s : ByteArray) (h : e + s.size ≤ 4072) :
    (Builtin.copy_ #[53, 9] 3 #[.slice (some ⟨W.heap.size, e, none⟩) (4072 - e) (4072 - e), .string s]).run Tryd.prog (W.alloc (.cells (layN C) 59)) =
      .ok (.int .i64 s.size) (W.alloc (.cells (layN (C.take e ++ bytesOf s ++ C.drop (e + s.size))) 59)) := by
  have h1 := Lib.run_copy_row_string (P := Tryd.prog) (W.alloc (.cells (layN C) 59)) 53 9 3 5 W.heap.size e (4072 - e) (4072 - e) s (layN C) 59 Tryd.underlying53 szB_ (heap_alloc_new W _) (by omega) (by simp [layN, hC]; omega)
  have e1 : ((layN C).toList.take e ++ Lib.byteCells s.data.toList ++ (layN C).toList.drop (e + s.size)).toArray = layN (C.take e ++ bytesOf s ++ C.drop (e + s.size)) := by
    simp [layN, Lib.byteCells, bytesOf, List.map_take, List.map_drop]
  rw [h1, setRow_alloc_, e1]
  rfl
theorem lay_copy0 (W : World) (d : Option Addr) (s : ByteArray) (h : s.size = 0) : (Builtin.copy_ #[53, 9] 3 #[.slice d 0 0, .string s]).run Tryd.prog W = .ok (.int .i64 0) W :=
  Lib.run_copy_empty_string (P := Tryd.prog) W 53 9 3 5 d 0 0 s Tryd.underlying53 (by rw [szB_]; rfl) h
theorem lay_string (W : World) (C : List Int) (hC : C.length = 4072) : (convert 53 9 (.slice (some ⟨W.heap.size, 0, none⟩) 4072 4072)).run Tryd.prog (W.alloc (.cells (layN C) 59)) = .ok (.string (strOfNums C)) (W.alloc (.cells (layN C) 59)) := by
  refine string_of_reads Tryd.underlying53 Tryd.underlying5 Tryd.underlying9 ⟨hC, ?_, fun _ => ⟨_, rfl, fun j hj => ?_⟩⟩
  · decide
  · have hb := heap_alloc_new W (.cells (layN C) 59)
    rw [show (⟨W.heap.size, 0, none⟩ : Addr).add j = ⟨W.heap.size, j, none⟩ by unfold Addr.add; split <;> simp_all]
    unfold World.cell?
    simp only [hb]
    simp [layN, List.getElem?_eq_getElem (show j < C.length by omega)]
theorem lay_info : (Tryd.prog.info? 59).map (·.zero) = some (some (.agg (List.replicate 4072 (Value.int .u8 0)).toArray)) := by kernel_rfl
theorem lay_zero_ (P : Program) (t : TypeId) (W : World) (z : Value) (i : TypeInfo) (hi : P.info? t = some i) (hz : i.zero = some z) : (zeroValue t).run P W = .ok z W := by
  simp [zeroValue, typeInfo, hi, hz]
theorem lay_zero (l : List ByteArray) (W : World) : (zeroValue 59).run Tryd.prog W = .ok (.agg (layN (layC l 0))) W := by
  obtain ⟨i, hi, hz⟩ := Option.map_eq_some_iff.1 lay_info
  have e : layN (layC l 0) = (List.replicate 4072 (Value.int .u8 0)).toArray := by
    unfold layN layC
    rw [List.map_replicate]
  rw [e]
  exact lay_zero_ _ _ W _ i hi hz
set_option maxRecDepth 100000 in
theorem lay_slice (W : World) (b E : Nat) (hE : E ≤ 4072) : (Instr.sliceAt 59 (.pointer (some ⟨b, 0, none⟩)) (some (.int .i64 (E : Int))) none none).run Tryd.prog W = .ok (.slice (some (if 4072 = E then ⟨b, 0, none⟩ else ⟨b, E, none⟩)) (4072 - E) (4072 - E)) W := by
  have hu := Tryd.underlying59
  have hl : Tryd.prog.arrayLen 59 = 4072 := by simp [Program.arrayLen, hu]
  have he : Tryd.prog.elem 59 = 5 := by simp [Program.elem, hu]
  have h := run_sliceAt_array_l (P := Tryd.prog) W 59 ⟨b, 0, none⟩ (by rw [hl, he]; exact hu) .i64 (E : Int) (by omega) (by rw [hl]; omega)
  rw [h, hl, he]
  obtain ⟨i, hi, hz⟩ := Option.map_eq_some_iff.1 szB_
  simp [sizeOf, typeInfo, hi, hz, Result.andThen, slicedAt]
  split
  · rfl
  · unfold Addr.add
    split
    · subst_vars; rfl
    · first | (simp only [Nat.zero_add, Nat.mul_one]; done) | simp
theorem layE_succ (l : List ByteArray) (i : Nat) (h : i < l.length) : layE l (i + 1) = layE l i + (l.getD i ⟨#[]⟩).size := by
  unfold layE
  rw [List.take_succ_eq_append_getElem h, List.map_append, List.sum_append, List.getD_eq_getElem?_getD, List.getElem?_eq_getElem h]
  simp
  omega
theorem layE_le (l : List ByteArray) (i : Nat) (h : i ≤ l.length) : layE l i ≤ layE l l.length := by
  have : ∀ d i, i + d = l.length → layE l i ≤ layE l l.length := by
    intro d
    induction d with
    | zero => intro i hi; rw [show i = l.length by omega]; exact Nat.le_refl _
    | succ d ih => intro i hi; have := ih (i + 1) (by omega); rw [layE_succ l i (by omega)] at this; omega
  exact this (l.length - i) i (by omega)
theorem layC_len (l : List ByteArray) (hfit : layE l l.length ≤ 4072) : ∀ i, i ≤ l.length → (layC l i).length = 4072
  | 0, _ => by rw [layC]; exact List.length_replicate ..
  | i + 1, h => by
    have ih := layC_len l hfit i (by omega)
    have e1 := layE_succ l i (by omega)
    have e2 := layE_le l (i + 1) h
    simp only [layC, List.length_set, List.length_append, List.length_take, List.length_drop, ih, bytesOf_length]
    omega
theorem layN_at (C : List Int) (p : Nat) (h : p < C.length) : (layN C)[p]? = some (.int .u8 (C.getD p 0)) := by
  simp [layN, List.getD_eq_getElem?_getD, List.getElem?_eq_getElem h]
theorem layN_set (C : List Int) (p : Nat) (x : Int) : (layN C).setIfInBounds p (.int .u8 x) = layN (C.set p x) := by
  simp [layN, List.map_set]
set_option maxHeartbeats 8000000 in
set_option maxRecDepth 100000 in
theorem cells_Lay.good (k : Nat) (A0 : Option Addr) (c0 : Nat) (l0 : List ByteArray) (n : Int) (w : World) (hr0 : Kd.C Kd.string w A0 l0.length l0) (hc0 : l0.length ≤ c0)
    (hA : cells_Size.f k l0 = some n) (hn : ¬ n > 4072) (hfit : layE l0 l0.length ≤ 4072) :
    Calls Tryd.prog 12 #[.slice A0 l0.length c0] w fun e w' => e = .returned (.tuple #[.string (strOfNums (layC l0 l0.length)), .nilIface]) ∧ Below w.heap.size w w' := by
  have HR0 := Aside0.mk hr0
  have HA := Aside0.mk hA
  have HC0 := Aside0.mk hc0
  clear hr0 hA
  have cb : decide (n > 4072) = false := decide_eq_false hn
  have cb' : decide (4072 < n) = false := decide_eq_false hn
  have hn2 : l0.length ≤ 2036 := by unfold layE at hfit; omega
  have hw2 : wrap64 (2 * (l0.length : Int)) = ((layE l0 0 : Nat) : Int) := by unfold wrap64 layE; simp; omega
  have hz := lay_zero l0
  go_enter Tryd.func12, Tryd.ntmps12
  go_wp2_with (first | (go_at_call 11; refine (cells_Size.calls k A0 c0 l0 n _ HR0.out HC0.out HA.out).mono ?_; rintro e w1 ⟨rfl, hd⟩; have HD := Aside0.mk hd; clear hd))
  go_loopg [5, 17] (l0.length + 1) (fun kq v5 v17 w' => ∃ i : Nat, v17 = .int .i64 (i : Int) ∧ v5 = .int .i64 ((layE l0 i : Nat) : Int) ∧ Aside0 (i + kq = l0.length + 1 ∧ i ≤ l0.length) ∧ w' = w1.alloc (.cells (layN (layC l0 i)) 59))
  case atStart => exact ⟨0, rfl, by rw [← hw2]; congr 1; unfold wrap64; omega, ⟨by omega, by omega⟩, rfl⟩
  case round =>
    obtain ⟨i, rfl, rfl, hi, rfl⟩ := hrel
    cases gk with
    | zero => exact absurd hi.out (by omega)
    | succ k1 =>
      by_cases c2 : i < l0.length
      · have c2b : decide ((i : Int) < (l0.length : Int)) = true := decide_eq_true (by omega)
        have c2d : decide (i < l0.length) = true := decide_eq_true c2
        obtain ⟨ad, e, hx_0⟩ := Kd.at_string HR0.out (i : Int) (by omega) (by omega)
        cases e
        rw [Int.toNat_natCast] at hx_0
        replace hx_0 := ((below_alloc HD.out.below (.cells (layN (layC l0 i)) 59)).cell (World.block_lt_of_cell? w _ hx_0)).trans hx_0
        have hs : rdOf (ByteArray.empty) l0 (i : Int) = l0.getD i ⟨#[]⟩ := by unfold rdOf; rw [Int.toNat_natCast]; rfl
        rw [hs] at hx_0
        have e1 := layE_succ l0 i c2
        have e2 := layE_le l0 (i + 1) c2
        have hl := layC_len l0 hfit i (by omega)
        obtain ⟨s, hsd⟩ : ∃ s, s = l0.getD i ⟨#[]⟩ := ⟨_, rfl⟩
        obtain ⟨E, hE⟩ : ∃ E, E = layE l0 i := ⟨_, rfl⟩
        obtain ⟨E2, hE2⟩ : ∃ E2, E2 = layE l0 (i + 1) := ⟨_, rfl⟩
        obtain ⟨C, hC⟩ : ∃ C, C = layC l0 i := ⟨_, rfl⟩
        have HC := Aside0.mk (show layC l0 (i + 1) = ((C.take E ++ bytesOf s ++ C.drop (E + s.size)).set (2 * i) ((E2 : Int) / 256 % 256)).set (2 * i + 1) ((E2 : Int) % 256) by rw [hC, hE, hE2, hsd, ← e1]; rfl)
        rw [← hsd] at hx_0 e1
        rw [← hE, ← hE2] at e1
        rw [← hE2] at e2
        rw [← hC] at hl hx_0
        rw [← hE, ← hC]
        clear hs hsd hE hC
        have HE2 := Aside0.mk hE2
        clear hE2
        have huA := Tryd.underlying59
        have hlC : (C.take E ++ bytesOf s ++ C.drop (E + s.size)).length = 4072 := by simp only [List.length_append, List.length_take, List.length_drop, bytesOf_length, hl]; omega
        have hi2 : i < 2036 := by omega
        obtain ⟨D, hD⟩ : ∃ D, D = C.take E ++ bytesOf s ++ C.drop (E + s.size) := ⟨_, rfl⟩
        have HC2 := Aside0.mk (show layC l0 (i + 1) = (D.set (2 * i) ((E2 : Int) / 256 % 256)).set (2 * i + 1) ((E2 : Int) % 256) by rw [HC.out, hD])
        clear HC
        have q1 := layN_at D (2 * i) (by rw [hD, hlC]; omega)
        have q2 := layN_at D (2 * i + 1) (by rw [hD, hlC]; omega)
        have hr : w1.alloc (.cells (((layN D).setIfInBounds (2 * i) (.int .u8 (((E : Int) + (s.size : Int)) / 256))).setIfInBounds (2 * i + 1) (.int .u8 (((E : Int) + (s.size : Int)) % 256))) 59) = w1.alloc (.cells (layN (layC l0 (i + 1))) 59) := by
          rw [layN_set, layN_set, HC2.out, show (E2 : Int) / 256 % 256 = ((E : Int) + (s.size : Int)) / 256 by omega, show (E2 : Int) % 256 = ((E : Int) + (s.size : Int)) % 256 by omega]
        have HRR := Aside0.mk hr
        clear hr
        by_cases he : E < 4072
        · have hcp := lay_copy w1 C hl E s (by omega)
          have hsl := lay_slice (w1.alloc (.cells (layN C) 59)) w1.heap.size E (by omega)
          rw [if_neg (by omega)] at hsl
          rw [← hD] at hcp
          clear hD hlC
          go_wp2
          go_roundg k1
          case measure => omega
          case rel => exact ⟨i + 1, by simp, by rw [← HE2.out, e1]; simp, ⟨by have := hi.out; omega⟩, HRR.out⟩
        · have hs0 : s.size = 0 := by omega
          have hE4 : E = 4072 := by omega
          have hsl := lay_slice (w1.alloc (.cells (layN C) 59)) w1.heap.size E (by omega)
          rw [if_pos (by omega), show 4072 - E = 0 by omega] at hsl
          have hcp := lay_copy0 (w1.alloc (.cells (layN C) 59)) (some ⟨w1.heap.size, 0, none⟩) s hs0
          have hDC : D = C := by
            rw [hD, hs0, hE4]
            have hb : bytesOf s = [] := List.eq_nil_of_length_eq_zero (by rw [bytesOf_length, hs0])
            rw [hb, List.append_nil, Nat.add_zero, List.take_append_drop]
          subst hDC
          clear hD hlC
          have HR2 := Aside0.mk (show w1.alloc (.cells (((layN D).setIfInBounds (2 * i) (.int .u8 ((E : Int) / 256))).setIfInBounds (2 * i + 1) (.int .u8 ((E : Int) % 256))) 59) = w1.alloc (.cells (layN (layC l0 (i + 1))) 59) by have h := HRR.out; rw [hs0] at h; simpa using h)
          clear hE4
          go_wp2
          go_roundg k1
          case measure => omega
          case rel => exact ⟨i + 1, by simp, by rw [← HE2.out, e1, hs0]; simp, ⟨by have := hi.out; omega⟩, HR2.out⟩
      · have c2b : decide ((i : Int) < (l0.length : Int)) = false := decide_eq_false (by omega)
        have c2d : decide (i < l0.length) = false := decide_eq_false c2
        obtain rfl : i = l0.length := by have := hi.out; omega
        have hst := lay_string w1 (layC l0 l0.length) (layC_len l0 hfit _ (Nat.le_refl _))
        go_wp2
        go_ret2
        exact ⟨rfl, below_alloc HD.out.below _⟩
def cells_Lay.f (k : Nat) (l0 : List ByteArray) : Option (ByteArray × Option Int) := (cells_Size.f k l0).bind fun n => if n > 4072 then some ((⟨#[]⟩ : ByteArray), some 3) else if layE l0 l0.length ≤ 4072 then some (strOfNums (layC l0 l0.length), none) else none
theorem cells_Lay.mono : ∀ a0 k, LeO (cells_Lay.f k a0) (cells_Lay.f (k + 1) a0) := by
  intro a0 k
  unfold cells_Lay.f
  exact LeO.bind (cells_Size.mono _ _) (fun _ => LeO.refl _)
set_option maxHeartbeats 8000000 in
set_option maxRecDepth 100000 in
theorem cells_Lay.calls (k : Nat) (E : Int → Addr) (A0 : Option Addr) (c0 : Nat) (l0 : List ByteArray) (r1 : ByteArray) (r2 : Option Int) (w : World) (hG : Glob E w) (hr0 : Kd.C Kd.string w A0 l0.length l0) (hc0 : l0.length ≤ c0) (h : cells_Lay.f k l0 = some (r1, r2)) :
    Calls Tryd.prog 12 #[.slice A0 l0.length c0] w fun e w' => e = .returned (.tuple #[.string r1, errW E r2]) ∧ Below w.heap.size w w' := by
  unfold cells_Lay.f at h
  obtain ⟨n, hA, h⟩ := Option.bind_eq_some_iff.mp h
  by_cases hn : n > 4072
  · rw [if_pos hn] at h
    simp only [Option.some.injEq, Prod.mk.injEq] at h
    obtain ⟨rfl, rfl⟩ := h
    have huE := Tryd.underlying26
    have HR0 := Aside0.mk hr0
    have HA := Aside0.mk hA
    have HC0 := Aside0.mk hc0
    clear hr0 hA hc0
    have cb : decide (n > 4072) = true := decide_eq_true hn
    have cb' : decide (4072 < n) = true := decide_eq_true hn
    go_enter Tryd.func12, Tryd.ntmps12
    go_wp2_with (first | (go_at_call 11; refine (cells_Size.calls k A0 c0 l0 n _ HR0.out HC0.out HA.out).mono ?_; rintro e w1 ⟨rfl, hd⟩; have HD := Aside0.mk hd; have hx := (Glob.below hG hd.below).c0; simp only [errW_some] at hx; clear hd))
    repeat (go_quiet (fail); try go_wp2)
    go_ret2
    exact ⟨rfl, by first | exact pw_below_drewN HD.out.below _ | exact HD.out.below⟩
  · rw [if_neg hn] at h
    by_cases hf : layE l0 l0.length ≤ 4072
    · rw [if_pos hf] at h
      simp only [Option.some.injEq, Prod.mk.injEq] at h
      obtain ⟨rfl, rfl⟩ := h
      exact cells_Lay.good k A0 c0 l0 n w hr0 hc0 hA hn hf
    · rw [if_neg hf] at h
      exact absurd h (by simp)

/-! ### copseref6_Size: function 15 -/
def copseref6_Size.l0 : Nat → List ByteArray → Int → Int → Option (Int)
  | 0, _, _, _ => none
  | k + 1, x0, x3, x4 => if x4 < (x0.length : Int) then (if 0 ≤ x4 then (copseref6_Size.l0 k x0 (wrap64 ((wrap64 (x3 + 2)) + ((rdOf ByteArray.empty x0 x4).size : Int))) (wrap64 (x4 + 1))) else (none)) else (some x3)
def copseref6_Size.f (k : Nat) (l0 : List ByteArray) : Option (Int) := copseref6_Size.l0 k l0 0 0
theorem copseref6_Size.mono_l : ∀ k, (∀ y0 y1 y2, LeO (copseref6_Size.l0 k y0 y1 y2) (copseref6_Size.l0 (k + 1) y0 y1 y2))
  | 0 => fun _ _ _ r h => by simp [copseref6_Size.l0] at h
  | k + 1 => by
    have ih0 := copseref6_Size.mono_l k
    · intro y0 y1 y2
      unfold copseref6_Size.l0
      repeat' first
      | (with_reducible exact ih0 _ _ _)
      | (with_reducible exact LeO.refl _)
      | (with_reducible exact LeO.none _)
      | (with_reducible refine LeO.ite ?_ ?_)
      | (with_reducible refine LeO.bind ?_ (fun _ => ?_))
      | exact ih0 _ _ _
      | exact LeO.none _
      | refine LeO.ite ?_ ?_
      | refine LeO.bind ?_ (fun _ => ?_)
theorem copseref6_Size.mono : ∀ a0 k, LeO (copseref6_Size.f k a0) (copseref6_Size.f (k + 1) a0) := by
  intro a0 k
  have ih0 := copseref6_Size.mono_l k
  unfold copseref6_Size.f
  repeat' first
      | (with_reducible exact ih0 _ _ _)
      | (with_reducible exact LeO.refl _)
      | (with_reducible exact LeO.none _)
      | (with_reducible refine LeO.ite ?_ ?_)
      | (with_reducible refine LeO.bind ?_ (fun _ => ?_))
      | exact ih0 _ _ _
      | exact LeO.none _
      | refine LeO.ite ?_ ?_
      | refine LeO.bind ?_ (fun _ => ?_)
set_option maxHeartbeats 8000000 in
set_option maxRecDepth 100000 in
theorem copseref6_Size.calls (k : Nat) (A0 : Option Addr) (c0 : Nat) (l0 : List ByteArray) (r : Int) (w : World) (hr0 : Kd.C Kd.string w A0 l0.length l0) (hc0 : l0.length ≤ c0) (h : copseref6_Size.f k l0 = some r) :
    Calls Tryd.prog 15 #[.slice A0 l0.length c0] w fun e w' => e = .returned (.int .i64 r) ∧ Drawn0 w w' := by
  have HR0 := Aside0.mk hr0
  have HC0 := Aside0.mk hc0
  clear hr0 hc0
  have H : (copseref6_Size.l0 k l0 0 0) = some r := h
  clear h
  have H' := Aside0.mk H
  clear H
  go_enter Tryd.func15, Tryd.ntmps15
  go_wp2
  go_loopg [3, 4] k (fun kq v3 v4 w' => ∃ (x3_1 : Int) (x4_1 : Int), v3 = .int .i64 x3_1 ∧ v4 = .int .i64 x4_1 ∧ Aside0 (copseref6_Size.l0 kq l0 x3_1 x4_1 = some r) ∧ Aside0 (kq ≤ k) ∧ Drawn0 w w')
  case atStart => exact ⟨(0), (0), (by first | rfl | (simp; done) | (simp [*]; done)), (by first | rfl | (simp; done) | (simp [*]; done)), H', ⟨Nat.le_refl _⟩, by repeat (first | exact Drawn0.refl _ | apply Drawn0.step)⟩
  case round =>
    clear H'
    try clear c1
    obtain ⟨x3_1, x4_1, rfl, rfl, HA, HK1, ⟨m1, rfl⟩⟩ := hrel
    cases gk with
    | zero => exact absurd HA.out (by simp [copseref6_Size.l0])
    | succ k1 =>
      have H := HA.out
      clear HA
      simp only [copseref6_Size.l0] at H
      by_cases c2 : x4_1 < (l0.length : Int)
      · rw [if_pos c2] at H
        have c2b0 : decide (x4_1 < (l0.length : Int)) = true := decide_eq_true c2
        clear c2
        by_cases c3 : 0 ≤ x4_1
        · rw [if_pos c3] at H
          have c3b0 : decide (0 ≤ x4_1) = true := decide_eq_true c3
          clear c3
          have H' := Aside0.mk H
          clear H
          have p105 : 0 ≤ (x4_1 : Int) := of_decide_eq_true (by first | (with_reducible assumption) | assumption)
          have q105 : x4_1 < (l0.length : Int) := of_decide_eq_true (by first | (with_reducible assumption) | assumption)
          obtain ⟨ad105, e105, hx105_0⟩ := Kd.at_string HR0.out x4_1 p105 q105
          cases e105
          replace p105 := eq_true p105
          replace q105 := eq_true q105
          go_wp2
          go_roundg k1
          case measure => have := HK1.out; omega
          case rel => exact ⟨(wrap64 ((wrap64 (x3_1 + 2)) + ((rdOf ByteArray.empty l0 x4_1).size : Int))), (wrap64 (x4_1 + 1)), (by first | rfl | (simp; done) | (simp [*]; done)), (by first | rfl | (simp; done) | (simp [*]; done)), H', ⟨by have := HK1.out; omega⟩, by repeat (first | exact Drawn0.refl _ | apply Drawn0.step)⟩
        · rw [if_neg c3] at H
          exact absurd H (by simp)
      · rw [if_neg c2] at H
        have c2b0 : decide (x4_1 < (l0.length : Int)) = false := decide_eq_false c2
        clear c2
        obtain rfl := Option.some.inj H
        go_wp2
        go_ret
        exact ⟨by first | rfl | (simp; done) | (simp [*]; done), by repeat (first | exact Drawn0.refl _ | apply Drawn0.step)⟩

/-! ### copseref6_Lay: function 13 -/
mutual
def copseref6_Lay.l0 : Nat → List ByteArray → Int → List Int → Int → Int → Option (ByteArray × Int)
  | 0, _, _, _, _, _ => none
  | k + 1, x0, x4, x5, x6, x7 => if x7 < (x0.length : Int) then (if 0 ≤ x7 then ((some (([(wrap64 (Int.tdiv (wrap64 (x6 + ((rdOf ByteArray.empty x0 x7).size : Int))) 256)) % 256, (Int.tmod (wrap64 (x6 + ((rdOf ByteArray.empty x0 x7).size : Int))) 256) % 256] : List Int) : List Int)).bind fun y108 => (if x5.length + y108.length < 140737488355328 then (copseref6_Lay.l0 k x0 x4 (x5 ++ y108) (wrap64 (x6 + ((rdOf ByteArray.empty x0 x7).size : Int))) (wrap64 (x7 + 1))) else (none))) else (none)) else (copseref6_Lay.l1 k x0 x4 x5 0)
def copseref6_Lay.l1 : Nat → List ByteArray → Int → List Int → Int → Option (ByteArray × Int)
  | 0, _, _, _, _ => none
  | k + 1, x0, x4, x5, x8 => if x8 < (x0.length : Int) then (if 0 ≤ x8 then (if x5.length + (rdOf ByteArray.empty x0 x8).size < 140737488355328 then (copseref6_Lay.l1 k x0 x4 (x5 ++ bytesOf (rdOf ByteArray.empty x0 x8)) (wrap64 (x8 + 1))) else (none)) else (none)) else (copseref6_Lay.l2 k x5 x4)
def copseref6_Lay.l2 : Nat → List Int → Int → Option (ByteArray × Int)
  | 0, _, _ => none
  | k + 1, x5, x9 => if x9 < 4072 then (if x5.length < 140737488355328 then (copseref6_Lay.l2 k (x5 ++ [0]) (wrap64 (x9 + 1))) else (none)) else (some (strOfNums x5, 0))
end
def copseref6_Lay.f (k : Nat) (l0 : List ByteArray) : Option (ByteArray × Int) := (copseref6_Size.f k l0).bind fun t106 => (if t106 > 4072 then (some ((⟨#[]⟩ : ByteArray), 3)) else (copseref6_Lay.l0 k l0 t106 ([] : List Int) (wrap64 (2 * (l0.length : Int))) 0))
theorem copseref6_Lay.mono_l : ∀ k, (∀ y0 y1 y2 y3 y4, LeO (copseref6_Lay.l0 k y0 y1 y2 y3 y4) (copseref6_Lay.l0 (k + 1) y0 y1 y2 y3 y4)) ∧ (∀ y0 y1 y2 y3, LeO (copseref6_Lay.l1 k y0 y1 y2 y3) (copseref6_Lay.l1 (k + 1) y0 y1 y2 y3)) ∧ (∀ y0 y1, LeO (copseref6_Lay.l2 k y0 y1) (copseref6_Lay.l2 (k + 1) y0 y1))
  | 0 => ⟨fun _ _ _ _ _ r h => by simp [copseref6_Lay.l0] at h, fun _ _ _ _ r h => by simp [copseref6_Lay.l1] at h, fun _ _ r h => by simp [copseref6_Lay.l2] at h⟩
  | k + 1 => by
    obtain ⟨ih0, ih1, ih2⟩ := copseref6_Lay.mono_l k
    refine ⟨?_, ?_, ?_⟩
    · intro y0 y1 y2 y3 y4
      unfold copseref6_Lay.l0
      repeat' first
      | (with_reducible exact ih0 _ _ _ _ _)
      | (with_reducible exact ih1 _ _ _ _)
      | (with_reducible exact ih2 _ _)
      | (with_reducible exact copseref6_Size.mono _ _)
      | (with_reducible exact LeO.refl _)
      | (with_reducible exact LeO.none _)
      | (with_reducible refine LeO.ite ?_ ?_)
      | (with_reducible refine LeO.bind ?_ (fun _ => ?_))
      | exact ih0 _ _ _ _ _
      | exact ih1 _ _ _ _
      | exact ih2 _ _
      | exact copseref6_Size.mono _ _
      | exact LeO.none _
      | refine LeO.ite ?_ ?_
      | refine LeO.bind ?_ (fun _ => ?_)
    · intro y0 y1 y2 y3
      unfold copseref6_Lay.l1
      repeat' first
      | (with_reducible exact ih0 _ _ _ _ _)
      | (with_reducible exact ih1 _ _ _ _)
      | (with_reducible exact ih2 _ _)
      | (with_reducible exact copseref6_Size.mono _ _)
      | (with_reducible exact LeO.refl _)
      | (with_reducible exact LeO.none _)
      | (with_reducible refine LeO.ite ?_ ?_)
      | (with_reducible refine LeO.bind ?_ (fun _ => ?_))
      | exact ih0 _ _ _ _ _
      | exact ih1 _ _ _ _
      | exact ih2 _ _
      | exact copseref6_Size.mono _ _
      | exact LeO.none _
      | refine LeO.ite ?_ ?_
      | refine LeO.bind ?_ (fun _ => ?_)
    · intro y0 y1
      unfold copseref6_Lay.l2
      repeat' first
      | (with_reducible exact ih0 _ _ _ _ _)
      | (with_reducible exact ih1 _ _ _ _)
      | (with_reducible exact ih2 _ _)
      | (with_reducible exact copseref6_Size.mono _ _)
      | (with_reducible exact LeO.refl _)
      | (with_reducible exact LeO.none _)
      | (with_reducible refine LeO.ite ?_ ?_)
      | (with_reducible refine LeO.bind ?_ (fun _ => ?_))
      | exact ih0 _ _ _ _ _
      | exact ih1 _ _ _ _
      | exact ih2 _ _
      | exact copseref6_Size.mono _ _
      | exact LeO.none _
      | refine LeO.ite ?_ ?_
      | refine LeO.bind ?_ (fun _ => ?_)
theorem copseref6_Lay.mono : ∀ a0 k, LeO (copseref6_Lay.f k a0) (copseref6_Lay.f (k + 1) a0) := by
  intro a0 k
  obtain ⟨ih0, ih1, ih2⟩ := copseref6_Lay.mono_l k
  unfold copseref6_Lay.f
  repeat' first
      | (with_reducible exact ih0 _ _ _ _ _)
      | (with_reducible exact ih1 _ _ _ _)
      | (with_reducible exact ih2 _ _)
      | (with_reducible exact copseref6_Size.mono _ _)
      | (with_reducible exact LeO.refl _)
      | (with_reducible exact LeO.none _)
      | (with_reducible refine LeO.ite ?_ ?_)
      | (with_reducible refine LeO.bind ?_ (fun _ => ?_))
      | exact ih0 _ _ _ _ _
      | exact ih1 _ _ _ _
      | exact ih2 _ _
      | exact copseref6_Size.mono _ _
      | exact LeO.none _
      | refine LeO.ite ?_ ?_
      | refine LeO.bind ?_ (fun _ => ?_)
set_option maxHeartbeats 8000000 in
set_option maxRecDepth 100000 in
theorem copseref6_Lay.calls (k : Nat) (A0 : Option Addr) (c0 : Nat) (l0 : List ByteArray) (r1 : ByteArray) (r2 : Int) (w : World) (hr0 : Kd.C Kd.string w A0 l0.length l0) (hc0 : l0.length ≤ c0) (h : copseref6_Lay.f k l0 = some (r1, r2)) :
    Calls Tryd.prog 13 #[.slice A0 l0.length c0] w fun e w' => e = .returned (.tuple #[.string r1, .int .i64 r2]) ∧ Below w.heap.size w w' := by
  have HR0 := Aside0.mk hr0
  have HC0 := Aside0.mk hc0
  clear hr0 hc0
  have HB := Aside0.mk (Below.refl w.heap.size w)
  have H : ((copseref6_Size.f k l0).bind fun t106 => (if t106 > 4072 then (some ((⟨#[]⟩ : ByteArray), 3)) else (copseref6_Lay.l0 k l0 t106 ([] : List Int) (wrap64 (2 * (l0.length : Int))) 0))) = some (r1, r2) := h
  clear h
  replace H := Option.bind_eq_some_iff.mp H
  obtain ⟨t106, A20, H⟩ := H
  replace H : (if t106 > 4072 then (some ((⟨#[]⟩ : ByteArray), 3)) else (copseref6_Lay.l0 k l0 t106 ([] : List Int) (wrap64 (2 * (l0.length : Int))) 0)) = some (r1, r2) := H
  have A2 := Aside0.mk A20
  clear A20
  by_cases c3 : t106 > 4072
  · rw [if_pos c3] at H
    have c3b0 : decide (4072 < t106) = true := decide_eq_true c3
    clear c3
    simp only [Option.some.injEq, Prod.mk.injEq] at H
    obtain ⟨rfl, rfl⟩ := H
    go_enter Tryd.func13, Tryd.ntmps13
    go_wp2_with (first | ((with_reducible refine gate_callee (f := 15) rfl ?_); refine goesL_ (some 11) rfl rfl Tryd.func15 (by kernel_rfl) rfl #[.slice A0 l0.length c0] rfl (by (try simp only [List.map_toArray, List.map_cons, List.map_nil]); first | done | rfl | (simp only [List.length_drop, List.length_take]; rfl)) ?_; (with_reducible refine (copseref6_Size.calls k _ _ l0 t106 _ ?side1 ?side2 A2.out).mono ?_); (case side1 => repeat (first | exact HR0.out | (with_reducible refine Kd.C_alloc ?_ _) | (with_reducible refine Kd.C_drewN ?_ _) | (with_reducible refine Kd.C_drew ?_))); (case side2 => exact HC0.out); rintro e w' ⟨rfl, ⟨nd, rfl⟩⟩; refine ⟨_, rfl, ?_⟩))
    go_ret2
    exact ⟨by first | rfl | (simp [errW_none, errW_some] <;> rfl) | (simp [*, errW_none, errW_some] <;> rfl), by repeat (first | (with_reducible first | exact HB.out | apply below_alloc | apply pw_below_drewN | apply below_drew1) | exact HB.out)⟩
  · rw [if_neg c3] at H
    have c3b0 : decide (4072 < t106) = false := decide_eq_false c3
    clear c3
    have H' := Aside0.mk H
    clear H
    go_enter Tryd.func13, Tryd.ntmps13
    go_wp2_with (first | ((with_reducible refine gate_callee (f := 15) rfl ?_); refine goesL_ (some 11) rfl rfl Tryd.func15 (by kernel_rfl) rfl #[.slice A0 l0.length c0] rfl (by (try simp only [List.map_toArray, List.map_cons, List.map_nil]); first | done | rfl | (simp only [List.length_drop, List.length_take]; rfl)) ?_; (with_reducible refine (copseref6_Size.calls k _ _ l0 t106 _ ?side1 ?side2 A2.out).mono ?_); (case side1 => repeat (first | exact HR0.out | (with_reducible refine Kd.C_alloc ?_ _) | (with_reducible refine Kd.C_drewN ?_ _) | (with_reducible refine Kd.C_drew ?_))); (case side2 => exact HC0.out); rintro e w' ⟨rfl, ⟨nd, rfl⟩⟩; refine ⟨_, rfl, ?_⟩))
    go_loopg [5, 6, 7] k (fun kq v5 v6 v7 w' => ∃ (x5_1 : List Int) (x6_1 : Int) (x7_1 : Int), v6 = .int .i64 x6_1 ∧ v7 = .int .i64 x7_1 ∧ Aside0 (copseref6_Lay.l0 kq l0 t106 x5_1 x6_1 x7_1 = some (r1, r2)) ∧ Aside0 (kq ≤ k) ∧ Aside0 (Kd.R (Kd.int .u8) 5 w' w.heap.size (fun _ => True) v5 x5_1) ∧ Aside0 (Below w.heap.size w w'))
    case atStart => exact ⟨(([] : List Int)), (wrap64 (2 * (l0.length : Int))), (0), (by first | rfl | (simp; done) | (simp [*]; done)), (by first | rfl | (simp; done) | (simp [*]; done)), H', ⟨Nat.le_refl _⟩, ⟨by first | exact Kd.R_nil _ _ _ _ _ | exact Kd.N_nil _ _ _ _ _ | exact Kd.V_nil _ _ _ _ _ | exact Kd.Q_nil _ _ _ _ _ | exact Kd.S_nil _ _ _ _ _⟩, ⟨by repeat (first | (with_reducible first | exact HB.out | apply below_alloc | apply pw_below_drewN | apply below_drew1) | exact HB.out)⟩⟩
    case round =>
      clear H'
      try clear c1
      try clear p2
      try clear c3
      try clear c3b0
      obtain ⟨x5_1, x6_1, x7_1, rfl, rfl, HA, HK1, HO_5, HB⟩ := hrel
      cases gk with
      | zero => exact absurd HA.out (by simp [copseref6_Lay.l0])
      | succ k1 =>
        have H := HA.out
        clear HA
        simp only [copseref6_Lay.l0] at H
        by_cases c4 : x7_1 < (l0.length : Int)
        · rw [if_pos c4] at H
          have c4b0 : decide (x7_1 < (l0.length : Int)) = true := decide_eq_true c4
          clear c4
          by_cases c5 : 0 ≤ x7_1
          · rw [if_pos c5] at H
            have c5b0 : decide (0 ≤ x7_1) = true := decide_eq_true c5
            clear c5
            obtain ⟨y108, hy108⟩ : ∃ y_ : List Int, y_ = (([(wrap64 (Int.tdiv (wrap64 (x6_1 + ((rdOf ByteArray.empty l0 x7_1).size : Int))) 256)) % 256, (Int.tmod (wrap64 (x6_1 + ((rdOf ByteArray.empty l0 x7_1).size : Int))) 256) % 256] : List Int)) := ⟨_, rfl⟩
            replace H : (if x5_1.length + y108.length < 140737488355328 then (copseref6_Lay.l0 k1 l0 t106 (x5_1 ++ y108) (wrap64 (x6_1 + ((rdOf ByteArray.empty l0 x7_1).size : Int))) (wrap64 (x7_1 + 1))) else (none)) = some (r1, r2) := by first | (rw [hy108]; with_reducible exact H) | (have H2_ := (Option.bind_some _ _).symm.trans H; rw [hy108]; with_reducible exact H2_) | (have H2_ := (Option.bind_some _ _).symm.trans H; with_reducible exact H2_) | with_reducible exact H | (rw [hy108]; exact H) | exact H
            have Ny108 := Aside0.mk hy108
            clear hy108
            by_cases c6 : x5_1.length + y108.length < 140737488355328
            · rw [if_pos c6] at H
              have LMc6 := Aside0.mk c6
              clear c6
              obtain ⟨y111, hy111⟩ : ∃ y_ : List Int, y_ = (x5_1 ++ y108) := ⟨_, rfl⟩
              replace H : (copseref6_Lay.l0 k1 l0 t106 y111 (wrap64 (x6_1 + ((rdOf ByteArray.empty l0 x7_1).size : Int))) (wrap64 (x7_1 + 1))) = some (r1, r2) := by first | (rw [hy111]; with_reducible exact H) | (have H2_ := (Option.bind_some _ _).symm.trans H; rw [hy111]; with_reducible exact H2_) | (have H2_ := (Option.bind_some _ _).symm.trans H; with_reducible exact H2_) | with_reducible exact H | (rw [hy111]; exact H) | exact H
              have Ny111 := Aside0.mk hy111
              clear hy111
              have H' := Aside0.mk H
              clear H
              have p107 : 0 ≤ (x7_1 : Int) := of_decide_eq_true (by first | (with_reducible assumption) | assumption)
              have q107 : x7_1 < (l0.length : Int) := of_decide_eq_true (by first | (with_reducible assumption) | assumption)
              obtain ⟨ad107, e107, hx107_0⟩ := Kd.at_string HR0.out x7_1 p107 q107
              cases e107
              replace hx107_0 := (HB.out.cell (World.block_lt_of_cell? w _ hx107_0)).trans hx107_0
              replace p107 := eq_true p107
              replace q107 := eq_true q107
              go_wp2_with (first | ((with_reducible refine gate_dst (N := 37) rfl ?_); refine Kd.R_lit (Kd.int .u8) _ 5 ?hg (N := 37) ?hd (xs := ([(wrap64 (Int.tdiv (wrap64 (x6_1 + ((rdOf ByteArray.empty l0 x7_1).size : Int))) 256)) % 256, (Int.tmod (wrap64 (x6_1 + ((rdOf ByteArray.empty l0 x7_1).size : Int))) 256) % 256] : List Int)) (inner := [.int .u8 ((wrap64 (Int.tdiv (wrap64 (x6_1 + ((rdOf ByteArray.empty l0 x7_1).size : Int))) 256)) % 256), .int .u8 ((Int.tmod (wrap64 (x6_1 + ((rdOf ByteArray.empty l0 x7_1).size : Int))) 256) % 256)]) (ok := fun _ => True) (okp := fun _ => True) ?hr ?hp (fun _ hk => hk) trivial (Below.refl _ _) (Nat.le_refl _) (by simp) ?_; (case hd => rfl); (case hg => rfl); (case hr => first | (go_simp; done) | (go_simp; rfl)); (case hp => exact (Reps.one (show Kd.M (Kd.int .u8) _ _ _ ((wrap64 (Int.tdiv (wrap64 (x6_1 + ((rdOf ByteArray.empty l0 x7_1).size : Int))) 256)) % 256) [.int .u8 ((wrap64 (Int.tdiv (wrap64 (x6_1 + ((rdOf ByteArray.empty l0 x7_1).size : Int))) 256)) % 256)] from rfl) (Reps.one (show Kd.M (Kd.int .u8) _ _ _ ((Int.tmod (wrap64 (x6_1 + ((rdOf ByteArray.empty l0 x7_1).size : Int))) 256) % 256) [.int .u8 ((Int.tmod (wrap64 (x6_1 + ((rdOf ByteArray.empty l0 x7_1).size : Int))) 256) % 256)] from rfl) (Reps.none _ _)))); intro v109 w7 ho8 hb hg_ hnew_; clear hg_ hnew_; (first | rw [← Ny108.out] at ho8 | (simp only [Int.reduceToNat] at ho8; rw [← Ny108.out] at ho8)); have n0_ := Aside0.mk (Kd.R_elder' (by (with_reducible repeat (first | apply Kd.R_alloc | apply Kd.R_drewN | apply Kd.R_drew)); exact HO_5.out) (Kd.R_base ho8) hb); have n1_ := Aside0.mk (Kd.R_lower (Kd.R_new' ho8 (Kd.R_lt (by (with_reducible repeat (first | apply Kd.R_alloc | apply Kd.R_drewN | apply Kd.R_drew)); exact HO_5.out))) (below_size (by repeat (first | (with_reducible first | exact HB.out | apply below_alloc | apply pw_below_drewN | apply below_drew1) | exact HB.out)))); have n2_ := Aside0.mk (below_step (by repeat (first | (with_reducible first | exact HB.out | apply below_alloc | apply pw_below_drewN | apply below_drew1) | exact HB.out)) hb); clear HO_5; clear HB; have HO_5 := n0_; have HO110 := n1_; have HB := n2_; clear n0_ n1_ n2_; clear hb ho8; obtain ⟨Ao10, co10, eo10⟩ := Kd.R_slice HO110.out; subst eo10) | ((with_reducible refine gate_builtin (b := .append) (xs := #[.tmp 30, .tmp 37]) rfl ?_); at_builtin; refine Kd.R_append_rows (Kd.int .u8) (w0 := w) w.heap.size rfl (.tmp 30) (.tmp 37) 53 5 (.int .u8 0) 1 rfl Tryd.underlying53 info5 rfl (by decide) (by omega) u5 x5_1 y108 _ _ _ (fun k_ => some k_ ≠ (.slice Ao10 y108.length co10 : Value).ownBlock) (fun _ => False) rfl rfl ?aO ?aR (fun _ _ h => h) (fun _ h => h.elim) ?aF ?aB ?aS ?aL ?_; (case aR => repeat (first | exact (Kd.R_reads' HO110.out).2.2 | (with_reducible refine Kd.C_alloc ?_ _) | (with_reducible refine Kd.C_drewN ?_ _) | (with_reducible refine Kd.C_drew ?_))); (case aB => exact (by repeat (first | (with_reducible first | exact HB.out | apply below_alloc | apply pw_below_drewN | apply below_drew1) | exact HB.out))); (case aF => exact (fun k_ hk => Kd.fresh' (Kd.R_lt (by (with_reducible repeat (first | apply Kd.R_alloc | apply Kd.R_drewN | apply Kd.R_drew)); exact HO110.out)) k_ hk)); (case aO => exact (by (with_reducible repeat (first | apply Kd.R_alloc | apply Kd.R_drewN | apply Kd.R_drew)); exact Kd.R_mono HO_5.out (fun _ hk => hk.2))); (case aS => exact (below_size (by repeat (first | (with_reducible first | exact HB.out | apply below_alloc | apply pw_below_drewN | apply below_drew1) | exact HB.out)))); (case aL => have := LMc6.out; omega); intro v112 w9 ho hb hg hat; rw [← Ny111.out] at ho; have n0_ := Aside0.mk (Kd.R_after (ok := (fun _ => True)) (by (with_reducible repeat (first | apply Kd.R_alloc | apply Kd.R_drewN | apply Kd.R_drew)); exact HO110.out) hg hat); have n1_ := Aside0.mk (hb); have n2_ := Aside0.mk (ho); clear HO110; clear HB; clear HO_5; have HO110 := n0_; have HB := n1_; have HO113 := n2_; clear n0_ n1_ n2_; clear ho hb hg hat))
              go_roundg k1
              case measure => have := HK1.out; omega
              case rel => exact ⟨(y111), (wrap64 (x6_1 + ((rdOf ByteArray.empty l0 x7_1).size : Int))), (wrap64 (x7_1 + 1)), (by first | rfl | (simp; done) | (simp [*]; done)), (by first | rfl | (simp; done) | (simp [*]; done)), H', ⟨by have := HK1.out; omega⟩, ⟨by (with_reducible repeat (first | apply Kd.R_alloc | apply Kd.R_drewN | apply Kd.R_drew)); exact Kd.R_mono HO113.out (fun _ hk => trivial)⟩, ⟨by repeat (first | (with_reducible first | exact HB.out | apply below_alloc | apply pw_below_drewN | apply below_drew1) | exact HB.out)⟩⟩
            · rw [if_neg c6] at H
              exact absurd H (by simp)
          · rw [if_neg c5] at H
            exact absurd H (by simp)
        · rw [if_neg c4] at H
          have c4b0 : decide (x7_1 < (l0.length : Int)) = false := decide_eq_false c4
          clear c4
          have H' := Aside0.mk H
          clear H
          go_wp2
          go_loopg [5, 8] k1 (fun kq v5 v8 w' => ∃ (x5_2 : List Int) (x8_2 : Int), v8 = .int .i64 x8_2 ∧ Aside0 (copseref6_Lay.l1 kq l0 t106 x5_2 x8_2 = some (r1, r2)) ∧ Aside0 (kq ≤ k1) ∧ Aside0 (Kd.R (Kd.int .u8) 5 w' w.heap.size (fun _ => True) v5 x5_2) ∧ Aside0 (Below w.heap.size w w'))
          case atStart => exact ⟨(x5_1), (0), (by first | rfl | (simp; done) | (simp [*]; done)), H', ⟨Nat.le_refl _⟩, ⟨by (with_reducible repeat (first | apply Kd.R_alloc | apply Kd.R_drewN | apply Kd.R_drew)); exact HO_5.out⟩, ⟨by repeat (first | (with_reducible first | exact HB.out | apply below_alloc | apply pw_below_drewN | apply below_drew1) | exact HB.out)⟩⟩
          case round =>
            clear H'
            try clear c1
            try clear p1
            try clear q1
            try clear hx1
            try clear p2
            try clear c3
            try clear c3b0
            try clear c4
            try clear c4b0
            try clear c5
            try clear c5b0
            try clear c6
            try clear p6
            try clear p10
            try clear q10
            try clear hx10
            try clear hx107_0
            try clear p107
            try clear p2
            try clear q107
            obtain ⟨x5_2, x8_2, rfl, HA, HK2, HO_5, HB⟩ := hrel
            cases gk with
            | zero => exact absurd HA.out (by simp [copseref6_Lay.l1])
            | succ k2 =>
              have H := HA.out
              clear HA
              simp only [copseref6_Lay.l1] at H
              by_cases c11 : x8_2 < (l0.length : Int)
              · rw [if_pos c11] at H
                have c11b0 : decide (x8_2 < (l0.length : Int)) = true := decide_eq_true c11
                clear c11
                by_cases c12 : 0 ≤ x8_2
                · rw [if_pos c12] at H
                  have c12b0 : decide (0 ≤ x8_2) = true := decide_eq_true c12
                  clear c12
                  by_cases c13 : x5_2.length + (rdOf ByteArray.empty l0 x8_2).size < 140737488355328
                  · rw [if_pos c13] at H
                    have LMc13 := Aside0.mk c13
                    clear c13
                    obtain ⟨y115, hy115⟩ : ∃ y_ : List Int, y_ = (x5_2 ++ bytesOf (rdOf ByteArray.empty l0 x8_2)) := ⟨_, rfl⟩
                    replace H : (copseref6_Lay.l1 k2 l0 t106 y115 (wrap64 (x8_2 + 1))) = some (r1, r2) := by first | (rw [hy115]; with_reducible exact H) | (have H2_ := (Option.bind_some _ _).symm.trans H; rw [hy115]; with_reducible exact H2_) | (have H2_ := (Option.bind_some _ _).symm.trans H; with_reducible exact H2_) | with_reducible exact H | (rw [hy115]; exact H) | exact H
                    have Ny115 := Aside0.mk hy115
                    clear hy115
                    have H' := Aside0.mk H
                    clear H
                    have p114 : 0 ≤ (x8_2 : Int) := of_decide_eq_true (by first | (with_reducible assumption) | assumption)
                    have q114 : x8_2 < (l0.length : Int) := of_decide_eq_true (by first | (with_reducible assumption) | assumption)
                    obtain ⟨ad114, e114, hx114_0⟩ := Kd.at_string HR0.out x8_2 p114 q114
                    cases e114
                    replace hx114_0 := (HB.out.cell (World.block_lt_of_cell? w _ hx114_0)).trans hx114_0
                    replace p114 := eq_true p114
                    replace q114 := eq_true q114
                    go_wp2_with (first | (at_builtin; refine print_append_str (w0 := w) w.heap.size rfl (.tmp 45) _ 53 9 5 rfl Tryd.underlying53 Tryd.underlying9 info5 u5 x5_2 (rdOf ByteArray.empty l0 x8_2) rfl rfl ?aO ?aB ?aS ?aL ?_; (case aB => exact (by repeat (first | (with_reducible first | exact HB.out | apply below_alloc | apply pw_below_drewN | apply below_drew1) | exact HB.out))); (case aO => first | exact (Kd.own_of_R (by (with_reducible repeat (first | apply Kd.R_alloc | apply Kd.R_drewN | apply Kd.R_drew)); exact HO_5.out)) | exact own_nil _ _ _ _); (case aS => exact (below_size (by repeat (first | (with_reducible first | exact HB.out | apply below_alloc | apply pw_below_drewN | apply below_drew1) | exact HB.out)))); (case aL => have := LMc13.out; omega); intro v116 w14 ho0 hb hg; have ho := Kd.R_of_own (h1 := fun _ => rfl) (ok := fun _ => True) ho0 (fun _ _ => trivial); clear ho0; have hat := True.intro; (first | (rw [← Ny115.out] at ho; change Kd.R (Kd.int .u8) 5 w14 w.heap.size (fun _ => True) v116 y115 at ho) | (replace ho : Kd.R (Kd.int .u8) 5 w14 w.heap.size (fun _ => True) v116 y115 := (by rw [Ny115.out]; exact ho))); have n0_ := Aside0.mk (hb); have n1_ := Aside0.mk (ho); clear HB; clear HO_5; have HB := n0_; have HO117 := n1_; clear n0_ n1_; clear ho hb hg hat))
                    go_roundg k2
                    case measure => have := HK1.out; have := HK2.out; omega
                    case rel => exact ⟨(y115), (wrap64 (x8_2 + 1)), (by first | rfl | (simp; done) | (simp [*]; done)), H', ⟨by have := HK1.out; have := HK2.out; omega⟩, ⟨by (with_reducible repeat (first | apply Kd.R_alloc | apply Kd.R_drewN | apply Kd.R_drew)); exact HO117.out⟩, ⟨by repeat (first | (with_reducible first | exact HB.out | apply below_alloc | apply pw_below_drewN | apply below_drew1) | exact HB.out)⟩⟩
                  · rw [if_neg c13] at H
                    exact absurd H (by simp)
                · rw [if_neg c12] at H
                  exact absurd H (by simp)
              · rw [if_neg c11] at H
                have c11b0 : decide (x8_2 < (l0.length : Int)) = false := decide_eq_false c11
                clear c11
                have H' := Aside0.mk H
                clear H
                go_wp2
                go_loopg [5, 9] k2 (fun kq v5 v9 w' => ∃ (x5_3 : List Int) (x9_3 : Int), v9 = .int .i64 x9_3 ∧ Aside0 (copseref6_Lay.l2 kq x5_3 x9_3 = some (r1, r2)) ∧ Aside0 (kq ≤ k2) ∧ Aside0 (Kd.R (Kd.int .u8) 5 w' w.heap.size (fun _ => True) v5 x5_3) ∧ Aside0 (Below w.heap.size w w'))
                case atStart => exact ⟨(x5_2), (t106), (by first | rfl | (simp; done) | (simp [*]; done)), H', ⟨Nat.le_refl _⟩, ⟨by (with_reducible repeat (first | apply Kd.R_alloc | apply Kd.R_drewN | apply Kd.R_drew)); exact HO_5.out⟩, ⟨by repeat (first | (with_reducible first | exact HB.out | apply below_alloc | apply pw_below_drewN | apply below_drew1) | exact HB.out)⟩⟩
                case round =>
                  clear H'
                  try clear c1
                  try clear p1
                  try clear q1
                  try clear hx1
                  try clear p2
                  try clear c3
                  try clear c3b0
                  try clear c4
                  try clear c4b0
                  try clear c5
                  try clear c5b0
                  try clear c6
                  try clear p6
                  try clear p10
                  try clear q10
                  try clear hx10
                  try clear c11
                  try clear c11b0
                  try clear p11
                  try clear q11
                  try clear hx11
                  try clear c12
                  try clear c12b0
                  try clear c13
                  try clear hx107_0
                  try clear hx114_0
                  try clear p1
                  try clear p10
                  try clear p107
                  try clear p114
                  try clear p2
                  try clear p6
                  try clear q1
                  try clear q10
                  try clear q107
                  try clear q114
                  obtain ⟨x5_3, x9_3, rfl, HA, HK3, HO_5, HB⟩ := hrel
                  cases gk with
                  | zero => exact absurd HA.out (by simp [copseref6_Lay.l2])
                  | succ k3 =>
                    have H := HA.out
                    clear HA
                    simp only [copseref6_Lay.l2] at H
                    by_cases c15 : x9_3 < 4072
                    · rw [if_pos c15] at H
                      have c15b0 : decide (x9_3 < 4072) = true := decide_eq_true c15
                      clear c15
                      by_cases c16 : x5_3.length < 140737488355328
                      · rw [if_pos c16] at H
                        have LMc16 := Aside0.mk c16
                        clear c16
                        obtain ⟨y118, hy118⟩ : ∃ y_ : List Int, y_ = (x5_3 ++ [0]) := ⟨_, rfl⟩
                        replace H : (copseref6_Lay.l2 k3 y118 (wrap64 (x9_3 + 1))) = some (r1, r2) := by first | (rw [hy118]; with_reducible exact H) | (have H2_ := (Option.bind_some _ _).symm.trans H; rw [hy118]; with_reducible exact H2_) | (have H2_ := (Option.bind_some _ _).symm.trans H; with_reducible exact H2_) | with_reducible exact H | (rw [hy118]; exact H) | exact H
                        have Ny118 := Aside0.mk hy118
                        clear hy118
                        have H' := Aside0.mk H
                        clear H
                        go_wp2_with (first | ((with_reducible refine gate_builtin (b := .append) (xs := #[.tmp 56, .tmp 57]) rfl ?_); at_builtin; refine Kd.R_append (Kd.int .u8) (w0 := w) w.heap.size rfl (.tmp 56) (.tmp 57) 53 5 (.int .u8 0) 1 rfl Tryd.underlying53 info5 rfl (by decide) (by omega) u5 x5_3 0 [.int .u8 0] (fun _ => True) (fun _ => False) rfl rfl ?aP (fun _ hk => hk.elim) ?aF ?aO ?aB ?aS ?aL ?_; (case aP => exact rfl); (case aB => exact (by repeat (first | (with_reducible first | exact HB.out | apply below_alloc | apply pw_below_drewN | apply below_drew1) | exact HB.out))); (case aF => exact (fun _ _ => trivial)); (case aO => exact (by (with_reducible repeat (first | apply Kd.R_alloc | apply Kd.R_drewN | apply Kd.R_drew)); exact HO_5.out)); (case aS => exact (below_size (by repeat (first | (with_reducible first | exact HB.out | apply below_alloc | apply pw_below_drewN | apply below_drew1) | exact HB.out)))); (case aL => have := LMc16.out; omega); intro v119 w17 ho hb hg hat; rw [← Ny118.out] at ho; have n0_ := Aside0.mk (hb); have n1_ := Aside0.mk (ho); clear HB; clear HO_5; have HB := n0_; have HO120 := n1_; clear n0_ n1_; clear ho hb hg hat))
                        go_roundg k3
                        case measure => have := HK1.out; have := HK2.out; have := HK3.out; omega
                        case rel => exact ⟨(y118), (wrap64 (x9_3 + 1)), (by first | rfl | (simp; done) | (simp [*]; done)), H', ⟨by have := HK1.out; have := HK2.out; have := HK3.out; omega⟩, ⟨by (with_reducible repeat (first | apply Kd.R_alloc | apply Kd.R_drewN | apply Kd.R_drew)); exact HO120.out⟩, ⟨by repeat (first | (with_reducible first | exact HB.out | apply below_alloc | apply pw_below_drewN | apply below_drew1) | exact HB.out)⟩⟩
                      · rw [if_neg c16] at H
                        exact absurd H (by simp)
                    · rw [if_neg c15] at H
                      have c15b0 : decide (x9_3 < 4072) = false := decide_eq_false c15
                      clear c15
                      simp only [Option.some.injEq, Prod.mk.injEq] at H
                      obtain ⟨rfl, rfl⟩ := H
                      have hcv18 := own_string (P := Tryd.prog) Tryd.underlying53 Tryd.underlying5 Tryd.underlying9 (Kd.own_of_R HO_5.out)
                      go_wp2
                      go_ret2
                      exact ⟨by first | rfl | (simp [errW_none, errW_some] <;> rfl) | (simp [*, errW_none, errW_some] <;> rfl), by repeat (first | (with_reducible first | exact HB.out | apply below_alloc | apply pw_below_drewN | apply below_drew1) | exact HB.out)⟩

end Go.Proofs.YtmjdkddpfcfepaaDoor.XCellsLays
