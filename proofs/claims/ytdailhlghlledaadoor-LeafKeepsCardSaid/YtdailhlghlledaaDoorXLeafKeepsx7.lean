-- Printed for this claim by a program (wip/printx) that builds on the kit's print. Not trusted: Lean checks it.
import Derived.Test.YtdailhlghlledaaDoorXLeafKeepsx0
namespace Go.Proofs.YtdailhlghlledaaDoor.XLeafKeeps
open Go.RowKit Go.Proofs.YtdailhlghlledaaDoorW.PrintWords Go.Proofs.YtdailhlghlledaaDoorW.PrintLast Go.Proofs.YtdailhlghlledaaDoorW.PrintMore
attribute [local go_sem] max2_int min2_int max_two min_two max_three min_three max_four min_four   -- for this text's walks alone
set_option linter.unusedVariables false
set_option linter.unusedSimpArgs false

-- NOT PRINTED: function 47 (api_Pair)

/-! ### leaf_Find: function 28 -/
def leaf_Find.ge (key : ByteArray) (p : S58) : Bool := !(Op.bytesLess p.f0.toList key.toList)
def leaf_Find.idx (l0 : List S58) (key : ByteArray) : Nat := l0.findIdx (leaf_Find.ge key)
def leaf_Find.f (l0 : List S58) (a1 : ByteArray) : Option (Int × Bool) :=
  if l0.length < 4611686018427387904 then
    if leaf_Find.idx l0 a1 < l0.length then some ((leaf_Find.idx l0 a1 : Int), ((rd_T58 l0 (leaf_Find.idx l0 a1 : Int)).f0.toList == a1.toList)) else some ((l0.length : Int), false)
  else none
set_option maxHeartbeats 8000000 in
set_option maxRecDepth 100000 in
theorem leaf_Find.clo (key pk pv : ByteArray) (b : Nat) (w : World) (hv : w.cell? ⟨b, 0, none⟩ = some (.string key)) :
    Calls Tryd.prog 48 #[.agg #[.string pk, .string pv], .pointer (some ⟨b, 0, none⟩)] w fun e w' => e = .returned (.bool (!(Op.bytesLess pk.toList key.toList))) ∧ Below w.heap.size w w' := by
  have hu58 := Tryd.underlying58
  have hv2 := ((below_alloc (Below.refl _ w) (.cells #[.string pk, .string pv] 58)).cell (World.block_lt_of_cell? w _ hv)).trans hv
  go_enter Tryd.func48, Tryd.ntmps48
  go_wp2
  go_ret
  exact ⟨rfl, below_alloc (Below.refl _ _) _⟩
set_option maxHeartbeats 8000000 in
set_option maxRecDepth 100000 in
theorem leaf_Find.index (key : ByteArray) (b : Nat) (A0 : Option Addr) (c0 : Nat) (l0 : List S58) (w : World) (hv : w.cell? ⟨b, 0, none⟩ = some (.string key)) (hr0 : Kd.C k58 w A0 l0.length l0) (hlen : l0.length < 4611686018427387904) (r : Int) (hr : r = if leaf_Find.idx l0 key < l0.length then (leaf_Find.idx l0 key : Int) else -1) :
    Calls Tryd.prog 47 #[.slice A0 l0.length c0, .func (.func 48) #[] #[.pointer (some ⟨b, 0, none⟩)]] w fun e w' => e = .returned (.int .i64 r) ∧ Below w.heap.size w w' := by
  have hu58 := Tryd.underlying58
  have HR0 := Aside0.mk hr0
  have HV := Aside0.mk hv
  have HL := Aside0.mk hlen
  have HR := Aside0.mk hr
  clear hr0 hv hlen hr
  have HB := Aside0.mk (Below.refl w.heap.size w)
  go_enter Tryd.func47, Tryd.ntmps47
  go_wp2
  go_loopg [8] (l0.length + 1) (fun kq v8 w' => ∃ i : Nat, v8 = .int .i64 (i : Int) ∧ Aside0 (i + kq = l0.length + 1 ∧ i ≤ l0.length ∧ ∀ j (hj : j < l0.length), j < i → leaf_Find.ge key l0[j] = false) ∧ Aside0 (Below w.heap.size w w'))
  case atStart => exact ⟨0, rfl, ⟨by omega, by omega, fun j _ h => by omega⟩, HB⟩
  case round =>
    obtain ⟨i, rfl, HA, HB⟩ := hrel
    cases gk with
    | zero => exact absurd HA.out (by omega)
    | succ k1 =>
      by_cases c2 : i < l0.length
      · have c2b : decide ((i : Int) < (l0.length : Int)) = true := decide_eq_true (by omega)
        have c2d : decide (i < l0.length) = true := decide_eq_true c2
        have hn : wrap64 ((i : Int) + 1) = ((i + 1 : Nat) : Int) := by have := HL.out; unfold wrap64; omega
        have p : 0 ≤ (i : Int) := by omega
        have q : (i : Int) < (l0.length : Int) := by omega
        obtain ⟨ad, e, hx_0, hx_1⟩ := at_T58 HR0.out (i : Int) p q
        cases e
        rw [Int.toNat_natCast] at hx_0 hx_1
        replace hx_0 := (HB.out.cell (World.block_lt_of_cell? w _ hx_0)).trans hx_0
        replace hx_1 := (HB.out.cell (World.block_lt_of_cell? w _ hx_1)).trans hx_1
        have hv := (HB.out.cell (World.block_lt_of_cell? w _ HV.out)).trans HV.out
        have pb := eq_true p
        have qb := eq_true q
        have hrd : rd_T58 l0 (i : Int) = l0[i] := by
          unfold rd_T58
          rw [Int.toNat_natCast, List.getD_eq_getElem?_getD, List.getElem?_eq_getElem c2]
          rfl
        cases hg : leaf_Find.ge key l0[i] with
        | false =>
          have hb : (!(Op.bytesLess l0[i].f0.toList key.toList)) = false := hg
          go_wp2_with (first | (go_at_call 48; refine (leaf_Find.clo key _ _ b _ hv).mono ?_; rintro e w1 ⟨rfl, hd⟩; rw [hb]; have HB2 := Aside0.mk (below_step HB.out hd); clear hd))
          go_roundg k1
          case measure => have := HA.out; omega
          case rel => exact ⟨i + 1, by rw [hn], ⟨by have := HA.out.1; omega, by omega, fun j hj hji => by
            by_cases hjj : j = i
            · subst hjj; exact hg
            · exact HA.out.2.2 j hj (by omega)⟩, HB2⟩
        | true =>
          have hb : (!(Op.bytesLess l0[i].f0.toList key.toList)) = true := hg
          have hidx : leaf_Find.idx l0 key = i := (List.findIdx_eq c2).2 ⟨hg, fun j hji => HA.out.2.2 j (by omega) hji⟩
          go_wp2_with (first | (go_at_call 48; refine (leaf_Find.clo key _ _ b _ hv).mono ?_; rintro e w1 ⟨rfl, hd⟩; rw [hb]; have HB2 := Aside0.mk (below_step HB.out hd); clear hd))
          go_ret
          refine ⟨?_, HB2.out⟩
          rw [HR.out, hidx, if_pos c2]
          rfl
      · have c2b : decide ((i : Int) < (l0.length : Int)) = false := decide_eq_false (by omega)
        have c2d : decide (i < l0.length) = false := decide_eq_false c2
        have hidx : ¬ leaf_Find.idx l0 key < l0.length := by
          unfold leaf_Find.idx
          intro hlt
          have h1 := List.findIdx_getElem (p := leaf_Find.ge key) (xs := l0) (w := hlt)
          have h2 := HA.out.2.2 _ hlt (by have := HA.out.2.1; omega)
          rw [h1] at h2
          exact absurd h2 (by simp)
        go_wp2
        go_ret
        refine ⟨?_, HB.out⟩
        rw [HR.out, if_neg hidx]
        rfl
set_option maxHeartbeats 8000000 in
set_option maxRecDepth 100000 in
theorem leaf_Find.calls (A0 : Option Addr) (c0 : Nat) (l0 : List (S58)) (a1 : ByteArray) (r1 : Int) (r2 : Bool) (w : World) (hr0 : Kd.C k58 w A0 l0.length l0) (hc0 : l0.length ≤ c0) (h : leaf_Find.f l0 a1 = some (r1, r2)) :
    Calls Tryd.prog 28 #[.slice A0 l0.length c0, .string a1] w fun e w' => e = .returned (.tuple #[.int .i64 r1, .bool r2]) ∧ Below w.heap.size w w' := by
  have hu58 := Tryd.underlying58
  unfold leaf_Find.f at h
  by_cases hlen : l0.length < 4611686018427387904
  · rw [if_pos hlen] at h
    have hmf : ∀ (fn : Fn) (first cap : Array Value) (w : World), (Instr.makeFunc fn first cap).run Tryd.prog w = .ok (.func fn first cap) w := fun _ _ _ _ => rfl
    have hb0 := below_alloc (Below.refl w.heap.size w) (.cells #[.string a1] 9)
    have hv : (w.alloc (.cells #[.string a1] 9)).cell? ⟨w.heap.size, 0, none⟩ = some (.string a1) := by
      have h := heap_alloc_new w (.cells #[.string a1] 9)
      unfold World.cell?
      simp only [h]
      rfl
    have hr1 := Kd.C_below hr0 hb0
    by_cases hi : leaf_Find.idx l0 a1 < l0.length
    · rw [if_pos hi] at h
      obtain ⟨i, hidx⟩ : ∃ i, i = leaf_Find.idx l0 a1 := ⟨_, rfl⟩
      rw [← hidx] at h hi
      simp only [Option.some.injEq, Prod.mk.injEq] at h
      obtain ⟨rfl, rfl⟩ := h
      have hI := leaf_Find.index a1 w.heap.size A0 c0 l0 _ hv hr1 hlen (i : Int) (by rw [← hidx, if_pos hi])
      clear hidx
      have p : 0 ≤ (i : Int) := by omega
      have q : (i : Int) < (l0.length : Int) := by omega
      have c1b : decide ((i : Int) < 0) = false := decide_eq_false (by omega)
      obtain ⟨ad, e, hx_0, hx_1⟩ := at_T58 hr0 (i : Int) p q
      cases e
      rw [Int.toNat_natCast] at hx_0 hx_1
      have pb := eq_true p
      have qb := eq_true q
      go_enter Tryd.func28, Tryd.ntmps28
      go_wp2_with (first | (go_at_call 47; refine hI.mono ?_; rintro e w1 ⟨rfl, hd⟩; replace hx_0 := ((hb0.trans (hd.mono (by simp))).cell (World.block_lt_of_cell? w _ hx_0)).trans hx_0; have hv1 := (hd.cell (World.block_lt_of_cell? _ _ hv)).trans hv; have HD := Aside0.mk (hb0.trans (hd.mono (by simp))); clear hd))
      repeat (go_quiet (fail); try go_wp2)
      go_ret2
      exact ⟨rfl, by first | exact pw_below_drewN HD.out _ | exact HD.out⟩
    · rw [if_neg hi] at h
      simp only [Option.some.injEq, Prod.mk.injEq] at h
      obtain ⟨rfl, rfl⟩ := h
      have hI := leaf_Find.index a1 w.heap.size A0 c0 l0 _ hv hr1 hlen (-1) (by rw [if_neg hi])
      go_enter Tryd.func28, Tryd.ntmps28
      go_wp2_with (first | (go_at_call 47; refine hI.mono ?_; rintro e w1 ⟨rfl, hd⟩; have HD := Aside0.mk (hb0.trans (hd.mono (by simp))); clear hd))
      go_ret2
      exact ⟨rfl, HD.out⟩
  · rw [if_neg hlen] at h
    exact absurd h (by simp)

/-! ### leaf_Set: function 27 -/
def leaf_Set.f (l0 : List (S58)) (a1 : ByteArray) (a2 : ByteArray) : Option ((List (S58))) := (leaf_Find.f l0 a1).bind fun bt175 => (if 0 ≤ bt175.1 then (if bt175.1 ≤ (l0.length : Int) then ((some (l0.take (bt175.1 : Int).toNat : List (S58))).bind fun y177 => (if ([] : List (S58)).length + y177.length < 4398046511104 then ((some (([] : List (S58)) ++ y177 : List (S58))).bind fun y181 => (if y181.length < 4398046511104 then ((some (y181 ++ [(⟨a1, a2⟩ : S58)] : List (S58))).bind fun y184 => (if bt175.2 = true then (if 0 ≤ (wrap64 (bt175.1 + 1)) then (if (wrap64 (bt175.1 + 1)) ≤ (l0.length : Int) then ((some (l0.drop ((wrap64 (bt175.1 + 1)) : Int).toNat : List (S58))).bind fun y187 => (if y184.length + y187.length < 4398046511104 then (some (y184 ++ y187)) else (none))) else (none)) else (none)) else ((some (l0.drop (bt175.1 : Int).toNat : List (S58))).bind fun y194 => (if y184.length + y194.length < 4398046511104 then (some (y184 ++ y194)) else (none))))) else (none))) else (none))) else (none)) else (none))
set_option maxHeartbeats 8000000 in
set_option maxRecDepth 100000 in
theorem leaf_Set.calls (A0 : Option Addr) (c0 : Nat) (l0 : List (S58)) (a1 : ByteArray) (a2 : ByteArray) (r : List (S58)) (w : World) (hr0 : Kd.C k58 w A0 l0.length l0) (hc0 : l0.length ≤ c0) (h : leaf_Set.f l0 a1 a2 = some r) :
    Calls Tryd.prog 27 #[.slice A0 l0.length c0, .string a1, .string a2] w fun e w' => ∃ v0_ : Value, e = .returned (v0_) ∧ Kd.R k58 58 w' w.heap.size (fun _ => True) v0_ r ∧ Below w.heap.size w w' := by
  have hu58 := Tryd.underlying58
  have HR0 := Aside0.mk hr0
  have HC0 := Aside0.mk hc0
  clear hr0 hc0
  have HB := Aside0.mk (Below.refl w.heap.size w)
  have H : ((leaf_Find.f l0 a1).bind fun bt175 => (if 0 ≤ bt175.1 then (if bt175.1 ≤ (l0.length : Int) then ((some (l0.take (bt175.1 : Int).toNat : List (S58))).bind fun y177 => (if ([] : List (S58)).length + y177.length < 4398046511104 then ((some (([] : List (S58)) ++ y177 : List (S58))).bind fun y181 => (if y181.length < 4398046511104 then ((some (y181 ++ [(⟨a1, a2⟩ : S58)] : List (S58))).bind fun y184 => (if bt175.2 = true then (if 0 ≤ (wrap64 (bt175.1 + 1)) then (if (wrap64 (bt175.1 + 1)) ≤ (l0.length : Int) then ((some (l0.drop ((wrap64 (bt175.1 + 1)) : Int).toNat : List (S58))).bind fun y187 => (if y184.length + y187.length < 4398046511104 then (some (y184 ++ y187)) else (none))) else (none)) else (none)) else ((some (l0.drop (bt175.1 : Int).toNat : List (S58))).bind fun y194 => (if y184.length + y194.length < 4398046511104 then (some (y184 ++ y194)) else (none))))) else (none))) else (none))) else (none)) else (none))) = some r := h
  clear h
  replace H := Option.bind_eq_some_iff.mp H
  obtain ⟨⟨t175, t176⟩, A40, H⟩ := H
  replace H : (if 0 ≤ t175 then (if t175 ≤ (l0.length : Int) then ((some (l0.take (t175 : Int).toNat : List (S58))).bind fun y177 => (if ([] : List (S58)).length + y177.length < 4398046511104 then ((some (([] : List (S58)) ++ y177 : List (S58))).bind fun y181 => (if y181.length < 4398046511104 then ((some (y181 ++ [(⟨a1, a2⟩ : S58)] : List (S58))).bind fun y184 => (if t176 = true then (if 0 ≤ (wrap64 (t175 + 1)) then (if (wrap64 (t175 + 1)) ≤ (l0.length : Int) then ((some (l0.drop ((wrap64 (t175 + 1)) : Int).toNat : List (S58))).bind fun y187 => (if y184.length + y187.length < 4398046511104 then (some (y184 ++ y187)) else (none))) else (none)) else (none)) else ((some (l0.drop (t175 : Int).toNat : List (S58))).bind fun y194 => (if y184.length + y194.length < 4398046511104 then (some (y184 ++ y194)) else (none))))) else (none))) else (none))) else (none)) else (none)) = some r := H
  have A4 := Aside0.mk A40
  clear A40
  by_cases c5 : 0 ≤ t175
  · rw [if_pos c5] at H
    have c5b0 := eq_true c5
    have c5b1 : decide (0 ≤ t175) = true := decide_eq_true c5
    clear c5
    by_cases c6 : t175 ≤ (l0.length : Int)
    · rw [if_pos c6] at H
      have c6b0 := eq_true c6
      have c6b1 : decide (t175 ≤ (l0.length : Int)) = true := decide_eq_true c6
      clear c6
      obtain ⟨y177, hy177⟩ : ∃ y_ : List (S58), y_ = (l0.take (t175 : Int).toNat) := ⟨_, rfl⟩
      replace H : (if ([] : List (S58)).length + y177.length < 4398046511104 then ((some (([] : List (S58)) ++ y177 : List (S58))).bind fun y181 => (if y181.length < 4398046511104 then ((some (y181 ++ [(⟨a1, a2⟩ : S58)] : List (S58))).bind fun y184 => (if t176 = true then (if 0 ≤ (wrap64 (t175 + 1)) then (if (wrap64 (t175 + 1)) ≤ (l0.length : Int) then ((some (l0.drop ((wrap64 (t175 + 1)) : Int).toNat : List (S58))).bind fun y187 => (if y184.length + y187.length < 4398046511104 then (some (y184 ++ y187)) else (none))) else (none)) else (none)) else ((some (l0.drop (t175 : Int).toNat : List (S58))).bind fun y194 => (if y184.length + y194.length < 4398046511104 then (some (y184 ++ y194)) else (none))))) else (none))) else (none)) = some r := by first | (rw [hy177]; with_reducible exact H) | (have H2_ := (Option.bind_some _ _).symm.trans H; rw [hy177]; with_reducible exact H2_) | (have H2_ := (Option.bind_some _ _).symm.trans H; with_reducible exact H2_) | with_reducible exact H | (rw [hy177]; exact H) | exact H
      have Ny177 := Aside0.mk hy177
      clear hy177
      by_cases c7 : ([] : List (S58)).length + y177.length < 4398046511104
      · rw [if_pos c7] at H
        have LMc7 := Aside0.mk c7
        clear c7
        obtain ⟨y181, hy181⟩ : ∃ y_ : List (S58), y_ = (([] : List (S58)) ++ y177) := ⟨_, rfl⟩
        replace H : (if y181.length < 4398046511104 then ((some (y181 ++ [(⟨a1, a2⟩ : S58)] : List (S58))).bind fun y184 => (if t176 = true then (if 0 ≤ (wrap64 (t175 + 1)) then (if (wrap64 (t175 + 1)) ≤ (l0.length : Int) then ((some (l0.drop ((wrap64 (t175 + 1)) : Int).toNat : List (S58))).bind fun y187 => (if y184.length + y187.length < 4398046511104 then (some (y184 ++ y187)) else (none))) else (none)) else (none)) else ((some (l0.drop (t175 : Int).toNat : List (S58))).bind fun y194 => (if y184.length + y194.length < 4398046511104 then (some (y184 ++ y194)) else (none))))) else (none)) = some r := by first | (rw [hy181]; with_reducible exact H) | (have H2_ := (Option.bind_some _ _).symm.trans H; rw [hy181]; with_reducible exact H2_) | (have H2_ := (Option.bind_some _ _).symm.trans H; with_reducible exact H2_) | with_reducible exact H | (rw [hy181]; exact H) | exact H
        have Ny181 := Aside0.mk hy181
        clear hy181
        by_cases c8 : y181.length < 4398046511104
        · rw [if_pos c8] at H
          have LMc8 := Aside0.mk c8
          clear c8
          obtain ⟨y184, hy184⟩ : ∃ y_ : List (S58), y_ = (y181 ++ [(⟨a1, a2⟩ : S58)]) := ⟨_, rfl⟩
          replace H : (if t176 = true then (if 0 ≤ (wrap64 (t175 + 1)) then (if (wrap64 (t175 + 1)) ≤ (l0.length : Int) then ((some (l0.drop ((wrap64 (t175 + 1)) : Int).toNat : List (S58))).bind fun y187 => (if y184.length + y187.length < 4398046511104 then (some (y184 ++ y187)) else (none))) else (none)) else (none)) else ((some (l0.drop (t175 : Int).toNat : List (S58))).bind fun y194 => (if y184.length + y194.length < 4398046511104 then (some (y184 ++ y194)) else (none)))) = some r := by first | (rw [hy184]; with_reducible exact H) | (have H2_ := (Option.bind_some _ _).symm.trans H; rw [hy184]; with_reducible exact H2_) | (have H2_ := (Option.bind_some _ _).symm.trans H; with_reducible exact H2_) | with_reducible exact H | (rw [hy184]; exact H) | exact H
          have Ny184 := Aside0.mk hy184
          clear hy184
          by_cases c9 : t176 = true
          · subst c9
            have H1 : (if 0 ≤ (wrap64 (t175 + 1)) then (if (wrap64 (t175 + 1)) ≤ (l0.length : Int) then ((some (l0.drop ((wrap64 (t175 + 1)) : Int).toNat : List (S58))).bind fun y187 => (if y184.length + y187.length < 4398046511104 then (some (y184 ++ y187)) else (none))) else (none)) else (none)) = some r := by rw [if_pos rfl] at H; exact H
            clear H
            have H := H1
            clear H1
            obtain ⟨ji10, hji10⟩ : ∃ j_ : Int, (wrap64 (t175 + 1)) = j_ := ⟨_, rfl⟩
            replace H : (if 0 ≤ (ji10) then (if (ji10) ≤ (l0.length : Int) then ((some (l0.drop ((ji10) : Int).toNat : List (S58))).bind fun y187 => (if y184.length + y187.length < 4398046511104 then (some (y184 ++ y187)) else (none))) else (none)) else (none)) = some r := by first | (rw [hji10] at H; exact H) | (simp only [hji10] at H ⊢; exact H)
            (try rw [hji10] at A4)
            have hji10w : (IntKind.i64.wrap (t175 + 1)) = ji10 := (i64_w _).trans hji10
            by_cases c11 : 0 ≤ (ji10)
            · rw [if_pos c11] at H
              have c11b0 := eq_true c11
              have c11b1 : decide (0 ≤ (ji10)) = true := decide_eq_true c11
              clear c11
              by_cases c12 : (ji10) ≤ (l0.length : Int)
              · rw [if_pos c12] at H
                have c12b0 := eq_true c12
                have c12b1 : decide ((ji10) ≤ (l0.length : Int)) = true := decide_eq_true c12
                clear c12
                obtain ⟨y187, hy187⟩ : ∃ y_ : List (S58), y_ = (l0.drop ((ji10) : Int).toNat) := ⟨_, rfl⟩
                replace H : (if y184.length + y187.length < 4398046511104 then (some (y184 ++ y187)) else (none)) = some r := by first | (rw [hy187]; with_reducible exact H) | (have H2_ := (Option.bind_some _ _).symm.trans H; rw [hy187]; with_reducible exact H2_) | (have H2_ := (Option.bind_some _ _).symm.trans H; with_reducible exact H2_) | with_reducible exact H | (rw [hy187]; exact H) | exact H
                have Ny187 := Aside0.mk hy187
                clear hy187
                by_cases c13 : y184.length + y187.length < 4398046511104
                · rw [if_pos c13] at H
                  have LMc13 := Aside0.mk c13
                  clear c13
                  obtain ⟨y191, hy191⟩ : ∃ y_ : List (S58), y_ = (y184 ++ y187) := ⟨_, rfl⟩
                  replace H : (some y191) = some r := by first | (rw [hy191]; with_reducible exact H) | (have H2_ := (Option.bind_some _ _).symm.trans H; rw [hy191]; with_reducible exact H2_) | (have H2_ := (Option.bind_some _ _).symm.trans H; with_reducible exact H2_) | with_reducible exact H | (rw [hy191]; exact H) | exact H
                  have Ny191 := Aside0.mk hy191
                  clear hy191
                  obtain rfl := Option.some.inj H
                  go_enter Tryd.func27, Tryd.ntmps27
                  go_wp2_with (first | ((with_reducible refine gate_callee (f := 28) rfl ?_); refine goesL_ (some 13) rfl rfl Tryd.func28 (by kernel_rfl) rfl #[.slice A0 l0.length c0, .string a1] rfl (by (try simp only [List.map_toArray, List.map_cons, List.map_nil]); first | done | rfl | (simp only [List.length_drop, List.length_take]; rfl)) ?_; (with_reducible refine (leaf_Find.calls _ _ l0 a1 t175 true _ ?side1 ?side2 A4.out).mono ?_); (case side1 => repeat (first | exact HR0.out | (with_reducible refine Kd.C_alloc ?_ _) | (with_reducible refine Kd.C_drewN ?_ _) | (with_reducible refine Kd.C_drew ?_))); (case side2 => exact HC0.out); rintro e w14 ⟨rfl, hb⟩; refine ⟨_, rfl, ?_⟩; have n0_ := Aside0.mk (below_step (by repeat (first | (with_reducible first | exact HB.out | apply below_alloc | apply pw_below_drewN | apply below_drew1) | exact HB.out)) hb); clear HB; have HB := n0_; clear n0_; (try clear hb); (try clear hb2); (try clear hk); (try clear hi); have q15 : (t175 : Int) ≤ ((l0.length : Int) : Int) := of_decide_eq_true (by first | (with_reducible assumption) | assumption); obtain ⟨i015, hi015, _, hsz15, _⟩ := info_parts info58; have hroom15 : l0.length ≤ c0 := HC0.out; have hC15 : Kd.C k58 _ A0 l0.length l0 := HR0.out; have hcut15 := cut_to (P := Tryd.prog) 22 58 .i64 Tryd.underlying22 hi015 A0 l0.length c0 t175 (of_decide_eq_true (by first | (with_reducible assumption) | assumption)) q15 hroom15; have hr15 := Kd.C_take (m := (t175 : Int).toNat) hC15 (by omega); have hy15 : y177.length = (t175 : Int).toNat := (by rw [Ny177.out, List.length_take]; omega); rw [← Ny177.out] at hr15; rw [← hy15] at hcut15; have HR180 := Aside0.mk hr15; have HC180 := Aside0.mk (show y177.length ≤ c0 from by omega); clear hr15 hC15 hroom15 hi015 hsz15; have KY15 := Aside0.mk hy15; clear hy15; replace q15 := eq_true q15) | ((with_reducible refine gate_builtin (b := .append) (xs := #[.const (.slice none 0 0), .tmp 18]) rfl ?_); at_builtin; refine Kd.R_append_rows k58 (w0 := w) w.heap.size rfl (.const (.slice none 0 0)) (.tmp 18) 22 58 (.agg #[(.string ⟨#[]⟩), (.string ⟨#[]⟩)]) 32 rfl Tryd.underlying22 info58 rfl (by decide) (by omega) (.slice none 0 0) ([] : List (S58)) y177 _ _ _ (fun _ => True) (fun _ => False) rfl rfl ?aO ?aR (fun _ _ h => h) (fun _ h => h.elim) ?aF ?aB ?aS ?aL ?_; (case aR => repeat (first | exact (Kd.C_below HR180.out HB.out) | (with_reducible refine Kd.C_alloc ?_ _) | (with_reducible refine Kd.C_drewN ?_ _) | (with_reducible refine Kd.C_drew ?_))); (case aB => exact (by repeat (first | (with_reducible first | exact HB.out | apply below_alloc | apply pw_below_drewN | apply below_drew1) | exact HB.out))); (case aF => exact (fun _ _ => trivial)); (case aO => exact ((Kd.R_nil _ _ _ _ (fun _ => True)))); (case aS => exact (below_size (by repeat (first | (with_reducible first | exact HB.out | apply below_alloc | apply pw_below_drewN | apply below_drew1) | exact HB.out)))); (case aL => have := LMc7.out; omega); intro v182 w16 ho hb hg hat; rw [← Ny181.out] at ho; have n0_ := Aside0.mk (hb); have n1_ := Aside0.mk (ho); clear HB; have HB := n0_; have HO183 := n1_; clear n0_ n1_; clear ho hb hg hat) | ((with_reducible refine gate_builtin (b := .append) (xs := #[.tmp 20, .tmp 24]) rfl ?_); at_builtin; refine Kd.R_append k58 (w0 := w) w.heap.size rfl (.tmp 20) (.tmp 24) 22 58 (.agg #[(.string ⟨#[]⟩), (.string ⟨#[]⟩)]) 32 rfl Tryd.underlying22 info58 rfl (by decide) (by omega) v182 y181 (⟨a1, a2⟩ : S58) [.string a1, .string a2] (fun _ => True) (fun _ => False) rfl rfl ?aP (fun _ hk => hk.elim) ?aF ?aO ?aB ?aS ?aL ?_; (case aP => exact k58_mkM _ _ _ (⟨a1, a2⟩ : S58)); (case aB => exact (by repeat (first | (with_reducible first | exact HB.out | apply below_alloc | apply pw_below_drewN | apply below_drew1) | exact HB.out))); (case aF => exact (fun _ _ => trivial)); (case aO => exact (by (with_reducible repeat (first | apply Kd.R_alloc | apply Kd.R_drewN | apply Kd.R_drew)); exact HO183.out)); (case aS => exact (below_size (by repeat (first | (with_reducible first | exact HB.out | apply below_alloc | apply pw_below_drewN | apply below_drew1) | exact HB.out)))); (case aL => have := LMc8.out; omega); intro v185 w17 ho hb hg hat; rw [← Ny184.out] at ho; have n0_ := Aside0.mk (hb); have n1_ := Aside0.mk (ho); clear HB; clear HO183; have HB := n0_; have HO186 := n1_; clear n0_ n1_; clear ho hb hg hat; have q18 : ((ji10) : Int) ≤ ((l0.length : Int) : Int) := of_decide_eq_true (by first | (with_reducible assumption) | assumption); obtain ⟨i018, hi018, _, hsz18, _⟩ := info_parts info58; have hroom18 : l0.length ≤ c0 := HC0.out; have hC18 : Kd.C k58 _ A0 l0.length l0 := HR0.out; have q018 : (0 : Int) ≤ ((ji10) : Int) := of_decide_eq_true (by first | (with_reducible assumption) | assumption); have hcut18 := cut_from (P := Tryd.prog) 22 58 .i64 Tryd.underlying22 hi018 2 hsz18 A0 l0.length c0 (ji10) q018 q18; have hr18 := Kd.C_drop (m := ((ji10) : Int).toNat) (c := c0) hC18 (by omega) hroom18; obtain ⟨A18, hA18⟩ : ∃ A1, A1 = (if c0 = ((ji10) : Int).toNat then A0 else (A0 : Option Addr).map (·.add (((ji10) : Int).toNat * 2))) := ⟨_, rfl⟩; obtain ⟨c18, hc18⟩ : ∃ c1, c1 = c0 - ((ji10) : Int).toNat := ⟨_, rfl⟩; have hy18 : y187.length = l0.length - ((ji10) : Int).toNat := (by rw [Ny187.out, List.length_drop] <;> omega); rw [show (l0).drop ((ji10) : Int).toNat = y187 from Ny187.out.symm] at hr18; replace hr18 : Kd.C k58 _ A18 y187.length y187 := (by rw [hA18]; exact hr18); rw [← hy18, ← hA18, ← hc18] at hcut18; have HR190 := Aside0.mk hr18; have HC190 := Aside0.mk (show y187.length ≤ c18 from by rw [hy18, hc18]; exact Nat.sub_le_sub_right hroom18 _); clear hr18 hC18 hroom18 hi018 hsz18 hc18; have KY18 := Aside0.mk hy18; have KA18 := Aside0.mk hA18; clear hy18 hA18; replace q18 := eq_true q18) | ((with_reducible refine gate_builtin (b := .append) (xs := #[.tmp 29, .tmp 32]) rfl ?_); at_builtin; refine Kd.R_append_rows k58 (w0 := w) w.heap.size rfl (.tmp 29) (.tmp 32) 22 58 (.agg #[(.string ⟨#[]⟩), (.string ⟨#[]⟩)]) 32 rfl Tryd.underlying22 info58 rfl (by decide) (by omega) v185 y184 y187 _ _ _ (fun _ => True) (fun _ => False) rfl rfl ?aO ?aR (fun _ _ h => h) (fun _ h => h.elim) ?aF ?aB ?aS ?aL ?_; (case aR => repeat (first | exact (Kd.C_below HR190.out HB.out) | (with_reducible refine Kd.C_alloc ?_ _) | (with_reducible refine Kd.C_drewN ?_ _) | (with_reducible refine Kd.C_drew ?_))); (case aB => exact (by repeat (first | (with_reducible first | exact HB.out | apply below_alloc | apply pw_below_drewN | apply below_drew1) | exact HB.out))); (case aF => exact (fun _ _ => trivial)); (case aO => exact (by (with_reducible repeat (first | apply Kd.R_alloc | apply Kd.R_drewN | apply Kd.R_drew)); exact HO186.out)); (case aS => exact (below_size (by repeat (first | (with_reducible first | exact HB.out | apply below_alloc | apply pw_below_drewN | apply below_drew1) | exact HB.out)))); (case aL => have := LMc13.out; omega); intro v192 w19 ho hb hg hat; rw [← Ny191.out] at ho; have n0_ := Aside0.mk (hb); have n1_ := Aside0.mk (ho); clear HB; clear HO186; have HB := n0_; have HO193 := n1_; clear n0_ n1_; clear ho hb hg hat))
                  go_ret
                  exact ⟨_, by first | rfl | (simp [errW_none, errW_some] <;> rfl) | (simp only [← hji10]; first | rfl | (simp [errW_none, errW_some] <;> rfl)) | (simp [*, errW_none, errW_some] <;> rfl), by (with_reducible repeat (first | apply Kd.R_alloc | apply Kd.R_drewN | apply Kd.R_drew)); exact HO193.out, by repeat (first | (with_reducible first | exact HB.out | apply below_alloc | apply pw_below_drewN | apply below_drew1) | exact HB.out)⟩
                · rw [if_neg c13] at H
                  exact absurd H (by simp)
              · rw [if_neg c12] at H
                exact absurd H (by simp)
            · rw [if_neg c11] at H
              exact absurd H (by simp)
          · replace c9 := Bool.eq_false_iff.mpr c9
            subst c9
            have H1 : ((some (l0.drop (t175 : Int).toNat : List (S58))).bind fun y194 => (if y184.length + y194.length < 4398046511104 then (some (y184 ++ y194)) else (none))) = some r := by rw [if_neg (show ¬ (false = true) by decide)] at H; exact H
            clear H
            have H := H1
            clear H1
            have c20b0 := eq_true (of_decide_eq_true (by first | (with_reducible assumption) | assumption) : 0 ≤ t175)
            have c21b0 := eq_true (of_decide_eq_true (by first | (with_reducible assumption) | assumption) : t175 ≤ (l0.length : Int))
            obtain ⟨y194, hy194⟩ : ∃ y_ : List (S58), y_ = (l0.drop (t175 : Int).toNat) := ⟨_, rfl⟩
            replace H : (if y184.length + y194.length < 4398046511104 then (some (y184 ++ y194)) else (none)) = some r := by first | (rw [hy194]; with_reducible exact H) | (have H2_ := (Option.bind_some _ _).symm.trans H; rw [hy194]; with_reducible exact H2_) | (have H2_ := (Option.bind_some _ _).symm.trans H; with_reducible exact H2_) | with_reducible exact H | (rw [hy194]; exact H) | exact H
            have Ny194 := Aside0.mk hy194
            clear hy194
            by_cases c22 : y184.length + y194.length < 4398046511104
            · rw [if_pos c22] at H
              have LMc22 := Aside0.mk c22
              clear c22
              obtain ⟨y198, hy198⟩ : ∃ y_ : List (S58), y_ = (y184 ++ y194) := ⟨_, rfl⟩
              replace H : (some y198) = some r := by first | (rw [hy198]; with_reducible exact H) | (have H2_ := (Option.bind_some _ _).symm.trans H; rw [hy198]; with_reducible exact H2_) | (have H2_ := (Option.bind_some _ _).symm.trans H; with_reducible exact H2_) | with_reducible exact H | (rw [hy198]; exact H) | exact H
              have Ny198 := Aside0.mk hy198
              clear hy198
              obtain rfl := Option.some.inj H
              go_enter Tryd.func27, Tryd.ntmps27
              go_wp2_with (first | ((with_reducible refine gate_callee (f := 28) rfl ?_); refine goesL_ (some 13) rfl rfl Tryd.func28 (by kernel_rfl) rfl #[.slice A0 l0.length c0, .string a1] rfl (by (try simp only [List.map_toArray, List.map_cons, List.map_nil]); first | done | rfl | (simp only [List.length_drop, List.length_take]; rfl)) ?_; (with_reducible refine (leaf_Find.calls _ _ l0 a1 t175 false _ ?side1 ?side2 A4.out).mono ?_); (case side1 => repeat (first | exact HR0.out | (with_reducible refine Kd.C_alloc ?_ _) | (with_reducible refine Kd.C_drewN ?_ _) | (with_reducible refine Kd.C_drew ?_))); (case side2 => exact HC0.out); rintro e w23 ⟨rfl, hb⟩; refine ⟨_, rfl, ?_⟩; have n0_ := Aside0.mk (below_step (by repeat (first | (with_reducible first | exact HB.out | apply below_alloc | apply pw_below_drewN | apply below_drew1) | exact HB.out)) hb); clear HB; have HB := n0_; clear n0_; (try clear hb); (try clear hb2); (try clear hk); (try clear hi); have q24 : (t175 : Int) ≤ ((l0.length : Int) : Int) := of_decide_eq_true (by first | (with_reducible assumption) | assumption); obtain ⟨i024, hi024, _, hsz24, _⟩ := info_parts info58; have hroom24 : l0.length ≤ c0 := HC0.out; have hC24 : Kd.C k58 _ A0 l0.length l0 := HR0.out; have hcut24 := cut_to (P := Tryd.prog) 22 58 .i64 Tryd.underlying22 hi024 A0 l0.length c0 t175 (of_decide_eq_true (by first | (with_reducible assumption) | assumption)) q24 hroom24; have hr24 := Kd.C_take (m := (t175 : Int).toNat) hC24 (by omega); have hy24 : y177.length = (t175 : Int).toNat := (by rw [Ny177.out, List.length_take]; omega); rw [← Ny177.out] at hr24; rw [← hy24] at hcut24; have HR180 := Aside0.mk hr24; have HC180 := Aside0.mk (show y177.length ≤ c0 from by omega); clear hr24 hC24 hroom24 hi024 hsz24; have KY24 := Aside0.mk hy24; clear hy24; replace q24 := eq_true q24) | ((with_reducible refine gate_builtin (b := .append) (xs := #[.const (.slice none 0 0), .tmp 18]) rfl ?_); at_builtin; refine Kd.R_append_rows k58 (w0 := w) w.heap.size rfl (.const (.slice none 0 0)) (.tmp 18) 22 58 (.agg #[(.string ⟨#[]⟩), (.string ⟨#[]⟩)]) 32 rfl Tryd.underlying22 info58 rfl (by decide) (by omega) (.slice none 0 0) ([] : List (S58)) y177 _ _ _ (fun _ => True) (fun _ => False) rfl rfl ?aO ?aR (fun _ _ h => h) (fun _ h => h.elim) ?aF ?aB ?aS ?aL ?_; (case aR => repeat (first | exact (Kd.C_below HR180.out HB.out) | (with_reducible refine Kd.C_alloc ?_ _) | (with_reducible refine Kd.C_drewN ?_ _) | (with_reducible refine Kd.C_drew ?_))); (case aB => exact (by repeat (first | (with_reducible first | exact HB.out | apply below_alloc | apply pw_below_drewN | apply below_drew1) | exact HB.out))); (case aF => exact (fun _ _ => trivial)); (case aO => exact ((Kd.R_nil _ _ _ _ (fun _ => True)))); (case aS => exact (below_size (by repeat (first | (with_reducible first | exact HB.out | apply below_alloc | apply pw_below_drewN | apply below_drew1) | exact HB.out)))); (case aL => have := LMc7.out; omega); intro v182 w25 ho hb hg hat; rw [← Ny181.out] at ho; have n0_ := Aside0.mk (hb); have n1_ := Aside0.mk (ho); clear HB; have HB := n0_; have HO183 := n1_; clear n0_ n1_; clear ho hb hg hat) | ((with_reducible refine gate_builtin (b := .append) (xs := #[.tmp 20, .tmp 24]) rfl ?_); at_builtin; refine Kd.R_append k58 (w0 := w) w.heap.size rfl (.tmp 20) (.tmp 24) 22 58 (.agg #[(.string ⟨#[]⟩), (.string ⟨#[]⟩)]) 32 rfl Tryd.underlying22 info58 rfl (by decide) (by omega) v182 y181 (⟨a1, a2⟩ : S58) [.string a1, .string a2] (fun _ => True) (fun _ => False) rfl rfl ?aP (fun _ hk => hk.elim) ?aF ?aO ?aB ?aS ?aL ?_; (case aP => exact k58_mkM _ _ _ (⟨a1, a2⟩ : S58)); (case aB => exact (by repeat (first | (with_reducible first | exact HB.out | apply below_alloc | apply pw_below_drewN | apply below_drew1) | exact HB.out))); (case aF => exact (fun _ _ => trivial)); (case aO => exact (by (with_reducible repeat (first | apply Kd.R_alloc | apply Kd.R_drewN | apply Kd.R_drew)); exact HO183.out)); (case aS => exact (below_size (by repeat (first | (with_reducible first | exact HB.out | apply below_alloc | apply pw_below_drewN | apply below_drew1) | exact HB.out)))); (case aL => have := LMc8.out; omega); intro v185 w26 ho hb hg hat; rw [← Ny184.out] at ho; have n0_ := Aside0.mk (hb); have n1_ := Aside0.mk (ho); clear HB; clear HO183; have HB := n0_; have HO186 := n1_; clear n0_ n1_; clear ho hb hg hat; have q27 : (t175 : Int) ≤ ((l0.length : Int) : Int) := of_decide_eq_true (by first | (with_reducible assumption) | assumption); obtain ⟨i027, hi027, _, hsz27, _⟩ := info_parts info58; have hroom27 : l0.length ≤ c0 := HC0.out; have hC27 : Kd.C k58 _ A0 l0.length l0 := HR0.out; have q027 : (0 : Int) ≤ (t175 : Int) := of_decide_eq_true (by first | (with_reducible assumption) | assumption); have hcut27 := cut_from (P := Tryd.prog) 22 58 .i64 Tryd.underlying22 hi027 2 hsz27 A0 l0.length c0 t175 q027 q27; have hr27 := Kd.C_drop (m := (t175 : Int).toNat) (c := c0) hC27 (by omega) hroom27; obtain ⟨A27, hA27⟩ : ∃ A1, A1 = (if c0 = (t175 : Int).toNat then A0 else (A0 : Option Addr).map (·.add ((t175 : Int).toNat * 2))) := ⟨_, rfl⟩; obtain ⟨c27, hc27⟩ : ∃ c1, c1 = c0 - (t175 : Int).toNat := ⟨_, rfl⟩; have hy27 : y194.length = l0.length - (t175 : Int).toNat := (by rw [Ny194.out, List.length_drop] <;> omega); rw [show (l0).drop (t175 : Int).toNat = y194 from Ny194.out.symm] at hr27; replace hr27 : Kd.C k58 _ A27 y194.length y194 := (by rw [hA27]; exact hr27); rw [← hy27, ← hA27, ← hc27] at hcut27; have HR197 := Aside0.mk hr27; have HC197 := Aside0.mk (show y194.length ≤ c27 from by rw [hy27, hc27]; exact Nat.sub_le_sub_right hroom27 _); clear hr27 hC27 hroom27 hi027 hsz27 hc27; have KY27 := Aside0.mk hy27; have KA27 := Aside0.mk hA27; clear hy27 hA27; replace q27 := eq_true q27) | ((with_reducible refine gate_builtin (b := .append) (xs := #[.tmp 29, .tmp 32]) rfl ?_); at_builtin; refine Kd.R_append_rows k58 (w0 := w) w.heap.size rfl (.tmp 29) (.tmp 32) 22 58 (.agg #[(.string ⟨#[]⟩), (.string ⟨#[]⟩)]) 32 rfl Tryd.underlying22 info58 rfl (by decide) (by omega) v185 y184 y194 _ _ _ (fun _ => True) (fun _ => False) rfl rfl ?aO ?aR (fun _ _ h => h) (fun _ h => h.elim) ?aF ?aB ?aS ?aL ?_; (case aR => repeat (first | exact (Kd.C_below HR197.out HB.out) | (with_reducible refine Kd.C_alloc ?_ _) | (with_reducible refine Kd.C_drewN ?_ _) | (with_reducible refine Kd.C_drew ?_))); (case aB => exact (by repeat (first | (with_reducible first | exact HB.out | apply below_alloc | apply pw_below_drewN | apply below_drew1) | exact HB.out))); (case aF => exact (fun _ _ => trivial)); (case aO => exact (by (with_reducible repeat (first | apply Kd.R_alloc | apply Kd.R_drewN | apply Kd.R_drew)); exact HO186.out)); (case aS => exact (below_size (by repeat (first | (with_reducible first | exact HB.out | apply below_alloc | apply pw_below_drewN | apply below_drew1) | exact HB.out)))); (case aL => have := LMc22.out; omega); intro v199 w28 ho hb hg hat; rw [← Ny198.out] at ho; have n0_ := Aside0.mk (hb); have n1_ := Aside0.mk (ho); clear HB; clear HO186; have HB := n0_; have HO200 := n1_; clear n0_ n1_; clear ho hb hg hat))
              go_ret
              exact ⟨_, by first | rfl | (simp [errW_none, errW_some] <;> rfl) | (simp [*, errW_none, errW_some] <;> rfl), by (with_reducible repeat (first | apply Kd.R_alloc | apply Kd.R_drewN | apply Kd.R_drew)); exact HO200.out, by repeat (first | (with_reducible first | exact HB.out | apply below_alloc | apply pw_below_drewN | apply below_drew1) | exact HB.out)⟩
            · rw [if_neg c22] at H
              exact absurd H (by simp)
        · rw [if_neg c8] at H
          exact absurd H (by simp)
      · rw [if_neg c7] at H
        exact absurd H (by simp)
    · rw [if_neg c6] at H
      exact absurd H (by simp)
  · rw [if_neg c5] at H
    exact absurd H (by simp)

/-! ### leaf_Drop: function 29 -/
def leaf_Drop.f (l0 : List (S58)) (a1 : ByteArray) : Option ((List (S58)) × Bool) := (leaf_Find.f l0 a1).bind fun bt201 => (if 0 ≤ bt201.1 then (if bt201.1 ≤ (l0.length : Int) then ((some (l0.take (bt201.1 : Int).toNat : List (S58))).bind fun y203 => (if ([] : List (S58)).length + y203.length < 4398046511104 then ((some (([] : List (S58)) ++ y203 : List (S58))).bind fun y207 => (if bt201.2 = true then (if 0 ≤ (wrap64 (bt201.1 + 1)) then (if (wrap64 (bt201.1 + 1)) ≤ (l0.length : Int) then ((some (l0.drop ((wrap64 (bt201.1 + 1)) : Int).toNat : List (S58))).bind fun y210 => (if y207.length + y210.length < 4398046511104 then (some ((y207 ++ y210), bt201.2)) else (none))) else (none)) else (none)) else ((some (l0.drop (bt201.1 : Int).toNat : List (S58))).bind fun y217 => (if y207.length + y217.length < 4398046511104 then (some ((y207 ++ y217), bt201.2)) else (none))))) else (none))) else (none)) else (none))
set_option maxHeartbeats 8000000 in
set_option maxRecDepth 100000 in
theorem leaf_Drop.calls (A0 : Option Addr) (c0 : Nat) (l0 : List (S58)) (a1 : ByteArray) (r1 : List (S58)) (r2 : Bool) (w : World) (hr0 : Kd.C k58 w A0 l0.length l0) (hc0 : l0.length ≤ c0) (h : leaf_Drop.f l0 a1 = some (r1, r2)) :
    Calls Tryd.prog 29 #[.slice A0 l0.length c0, .string a1] w fun e w' => ∃ v0_ : Value, e = .returned (.tuple #[v0_, .bool r2]) ∧ Kd.R k58 58 w' w.heap.size (fun _ => True) v0_ r1 ∧ Below w.heap.size w w' := by
  have HR0 := Aside0.mk hr0
  have HC0 := Aside0.mk hc0
  clear hr0 hc0
  have HB := Aside0.mk (Below.refl w.heap.size w)
  have H : ((leaf_Find.f l0 a1).bind fun bt201 => (if 0 ≤ bt201.1 then (if bt201.1 ≤ (l0.length : Int) then ((some (l0.take (bt201.1 : Int).toNat : List (S58))).bind fun y203 => (if ([] : List (S58)).length + y203.length < 4398046511104 then ((some (([] : List (S58)) ++ y203 : List (S58))).bind fun y207 => (if bt201.2 = true then (if 0 ≤ (wrap64 (bt201.1 + 1)) then (if (wrap64 (bt201.1 + 1)) ≤ (l0.length : Int) then ((some (l0.drop ((wrap64 (bt201.1 + 1)) : Int).toNat : List (S58))).bind fun y210 => (if y207.length + y210.length < 4398046511104 then (some ((y207 ++ y210), bt201.2)) else (none))) else (none)) else (none)) else ((some (l0.drop (bt201.1 : Int).toNat : List (S58))).bind fun y217 => (if y207.length + y217.length < 4398046511104 then (some ((y207 ++ y217), bt201.2)) else (none))))) else (none))) else (none)) else (none))) = some (r1, r2) := h
  clear h
  replace H := Option.bind_eq_some_iff.mp H
  obtain ⟨⟨t201, t202⟩, A30, H⟩ := H
  replace H : (if 0 ≤ t201 then (if t201 ≤ (l0.length : Int) then ((some (l0.take (t201 : Int).toNat : List (S58))).bind fun y203 => (if ([] : List (S58)).length + y203.length < 4398046511104 then ((some (([] : List (S58)) ++ y203 : List (S58))).bind fun y207 => (if t202 = true then (if 0 ≤ (wrap64 (t201 + 1)) then (if (wrap64 (t201 + 1)) ≤ (l0.length : Int) then ((some (l0.drop ((wrap64 (t201 + 1)) : Int).toNat : List (S58))).bind fun y210 => (if y207.length + y210.length < 4398046511104 then (some ((y207 ++ y210), t202)) else (none))) else (none)) else (none)) else ((some (l0.drop (t201 : Int).toNat : List (S58))).bind fun y217 => (if y207.length + y217.length < 4398046511104 then (some ((y207 ++ y217), t202)) else (none))))) else (none))) else (none)) else (none)) = some (r1, r2) := H
  have A3 := Aside0.mk A30
  clear A30
  by_cases c4 : 0 ≤ t201
  · rw [if_pos c4] at H
    have c4b0 := eq_true c4
    have c4b1 : decide (0 ≤ t201) = true := decide_eq_true c4
    clear c4
    by_cases c5 : t201 ≤ (l0.length : Int)
    · rw [if_pos c5] at H
      have c5b0 := eq_true c5
      have c5b1 : decide (t201 ≤ (l0.length : Int)) = true := decide_eq_true c5
      clear c5
      obtain ⟨y203, hy203⟩ : ∃ y_ : List (S58), y_ = (l0.take (t201 : Int).toNat) := ⟨_, rfl⟩
      replace H : (if ([] : List (S58)).length + y203.length < 4398046511104 then ((some (([] : List (S58)) ++ y203 : List (S58))).bind fun y207 => (if t202 = true then (if 0 ≤ (wrap64 (t201 + 1)) then (if (wrap64 (t201 + 1)) ≤ (l0.length : Int) then ((some (l0.drop ((wrap64 (t201 + 1)) : Int).toNat : List (S58))).bind fun y210 => (if y207.length + y210.length < 4398046511104 then (some ((y207 ++ y210), t202)) else (none))) else (none)) else (none)) else ((some (l0.drop (t201 : Int).toNat : List (S58))).bind fun y217 => (if y207.length + y217.length < 4398046511104 then (some ((y207 ++ y217), t202)) else (none))))) else (none)) = some (r1, r2) := by first | (rw [hy203]; with_reducible exact H) | (have H2_ := (Option.bind_some _ _).symm.trans H; rw [hy203]; with_reducible exact H2_) | (have H2_ := (Option.bind_some _ _).symm.trans H; with_reducible exact H2_) | with_reducible exact H | (rw [hy203]; exact H) | exact H
      have Ny203 := Aside0.mk hy203
      clear hy203
      by_cases c6 : ([] : List (S58)).length + y203.length < 4398046511104
      · rw [if_pos c6] at H
        have LMc6 := Aside0.mk c6
        clear c6
        obtain ⟨y207, hy207⟩ : ∃ y_ : List (S58), y_ = (([] : List (S58)) ++ y203) := ⟨_, rfl⟩
        replace H : (if t202 = true then (if 0 ≤ (wrap64 (t201 + 1)) then (if (wrap64 (t201 + 1)) ≤ (l0.length : Int) then ((some (l0.drop ((wrap64 (t201 + 1)) : Int).toNat : List (S58))).bind fun y210 => (if y207.length + y210.length < 4398046511104 then (some ((y207 ++ y210), t202)) else (none))) else (none)) else (none)) else ((some (l0.drop (t201 : Int).toNat : List (S58))).bind fun y217 => (if y207.length + y217.length < 4398046511104 then (some ((y207 ++ y217), t202)) else (none)))) = some (r1, r2) := by first | (rw [hy207]; with_reducible exact H) | (have H2_ := (Option.bind_some _ _).symm.trans H; rw [hy207]; with_reducible exact H2_) | (have H2_ := (Option.bind_some _ _).symm.trans H; with_reducible exact H2_) | with_reducible exact H | (rw [hy207]; exact H) | exact H
        have Ny207 := Aside0.mk hy207
        clear hy207
        by_cases c7 : t202 = true
        · subst c7
          have H1 : (if 0 ≤ (wrap64 (t201 + 1)) then (if (wrap64 (t201 + 1)) ≤ (l0.length : Int) then ((some (l0.drop ((wrap64 (t201 + 1)) : Int).toNat : List (S58))).bind fun y210 => (if y207.length + y210.length < 4398046511104 then (some ((y207 ++ y210), true)) else (none))) else (none)) else (none)) = some (r1, r2) := by rw [if_pos rfl] at H; exact H
          clear H
          have H := H1
          clear H1
          obtain ⟨ji8, hji8⟩ : ∃ j_ : Int, (wrap64 (t201 + 1)) = j_ := ⟨_, rfl⟩
          replace H : (if 0 ≤ (ji8) then (if (ji8) ≤ (l0.length : Int) then ((some (l0.drop ((ji8) : Int).toNat : List (S58))).bind fun y210 => (if y207.length + y210.length < 4398046511104 then (some ((y207 ++ y210), true)) else (none))) else (none)) else (none)) = some (r1, r2) := by first | (rw [hji8] at H; exact H) | (simp only [hji8] at H ⊢; exact H)
          (try rw [hji8] at A3)
          have hji8w : (IntKind.i64.wrap (t201 + 1)) = ji8 := (i64_w _).trans hji8
          by_cases c9 : 0 ≤ (ji8)
          · rw [if_pos c9] at H
            have c9b0 := eq_true c9
            have c9b1 : decide (0 ≤ (ji8)) = true := decide_eq_true c9
            clear c9
            by_cases c10 : (ji8) ≤ (l0.length : Int)
            · rw [if_pos c10] at H
              have c10b0 := eq_true c10
              have c10b1 : decide ((ji8) ≤ (l0.length : Int)) = true := decide_eq_true c10
              clear c10
              obtain ⟨y210, hy210⟩ : ∃ y_ : List (S58), y_ = (l0.drop ((ji8) : Int).toNat) := ⟨_, rfl⟩
              replace H : (if y207.length + y210.length < 4398046511104 then (some ((y207 ++ y210), true)) else (none)) = some (r1, r2) := by first | (rw [hy210]; with_reducible exact H) | (have H2_ := (Option.bind_some _ _).symm.trans H; rw [hy210]; with_reducible exact H2_) | (have H2_ := (Option.bind_some _ _).symm.trans H; with_reducible exact H2_) | with_reducible exact H | (rw [hy210]; exact H) | exact H
              have Ny210 := Aside0.mk hy210
              clear hy210
              by_cases c11 : y207.length + y210.length < 4398046511104
              · rw [if_pos c11] at H
                have LMc11 := Aside0.mk c11
                clear c11
                obtain ⟨y214, hy214⟩ : ∃ y_ : List (S58), y_ = (y207 ++ y210) := ⟨_, rfl⟩
                replace H : (some (y214, true)) = some (r1, r2) := by first | (rw [hy214]; with_reducible exact H) | (have H2_ := (Option.bind_some _ _).symm.trans H; rw [hy214]; with_reducible exact H2_) | (have H2_ := (Option.bind_some _ _).symm.trans H; with_reducible exact H2_) | with_reducible exact H | (rw [hy214]; exact H) | exact H
                have Ny214 := Aside0.mk hy214
                clear hy214
                simp only [Option.some.injEq, Prod.mk.injEq] at H
                obtain ⟨rfl, rfl⟩ := H
                go_enter Tryd.func29, Tryd.ntmps29
                go_wp2_with (first | ((with_reducible refine gate_callee (f := 28) rfl ?_); refine goesL_ (some 12) rfl rfl Tryd.func28 (by kernel_rfl) rfl #[.slice A0 l0.length c0, .string a1] rfl (by (try simp only [List.map_toArray, List.map_cons, List.map_nil]); first | done | rfl | (simp only [List.length_drop, List.length_take]; rfl)) ?_; (with_reducible refine (leaf_Find.calls _ _ l0 a1 t201 true _ ?side1 ?side2 A3.out).mono ?_); (case side1 => repeat (first | exact HR0.out | (with_reducible refine Kd.C_alloc ?_ _) | (with_reducible refine Kd.C_drewN ?_ _) | (with_reducible refine Kd.C_drew ?_))); (case side2 => exact HC0.out); rintro e w12 ⟨rfl, hb⟩; refine ⟨_, rfl, ?_⟩; have n0_ := Aside0.mk (below_step (by repeat (first | (with_reducible first | exact HB.out | apply below_alloc | apply pw_below_drewN | apply below_drew1) | exact HB.out)) hb); clear HB; have HB := n0_; clear n0_; (try clear hb); (try clear hb2); (try clear hk); (try clear hi); have q13 : (t201 : Int) ≤ ((l0.length : Int) : Int) := of_decide_eq_true (by first | (with_reducible assumption) | assumption); obtain ⟨i013, hi013, _, hsz13, _⟩ := info_parts info58; have hroom13 : l0.length ≤ c0 := HC0.out; have hC13 : Kd.C k58 _ A0 l0.length l0 := HR0.out; have hcut13 := cut_to (P := Tryd.prog) 22 58 .i64 Tryd.underlying22 hi013 A0 l0.length c0 t201 (of_decide_eq_true (by first | (with_reducible assumption) | assumption)) q13 hroom13; have hr13 := Kd.C_take (m := (t201 : Int).toNat) hC13 (by omega); have hy13 : y203.length = (t201 : Int).toNat := (by rw [Ny203.out, List.length_take]; omega); rw [← Ny203.out] at hr13; rw [← hy13] at hcut13; have HR206 := Aside0.mk hr13; have HC206 := Aside0.mk (show y203.length ≤ c0 from by omega); clear hr13 hC13 hroom13 hi013 hsz13; have KY13 := Aside0.mk hy13; clear hy13; replace q13 := eq_true q13) | ((with_reducible refine gate_builtin (b := .append) (xs := #[.const (.slice none 0 0), .tmp 17]) rfl ?_); at_builtin; refine Kd.R_append_rows k58 (w0 := w) w.heap.size rfl (.const (.slice none 0 0)) (.tmp 17) 22 58 (.agg #[(.string ⟨#[]⟩), (.string ⟨#[]⟩)]) 32 rfl Tryd.underlying22 info58 rfl (by decide) (by omega) (.slice none 0 0) ([] : List (S58)) y203 _ _ _ (fun _ => True) (fun _ => False) rfl rfl ?aO ?aR (fun _ _ h => h) (fun _ h => h.elim) ?aF ?aB ?aS ?aL ?_; (case aR => repeat (first | exact (Kd.C_below HR206.out HB.out) | (with_reducible refine Kd.C_alloc ?_ _) | (with_reducible refine Kd.C_drewN ?_ _) | (with_reducible refine Kd.C_drew ?_))); (case aB => exact (by repeat (first | (with_reducible first | exact HB.out | apply below_alloc | apply pw_below_drewN | apply below_drew1) | exact HB.out))); (case aF => exact (fun _ _ => trivial)); (case aO => exact ((Kd.R_nil _ _ _ _ (fun _ => True)))); (case aS => exact (below_size (by repeat (first | (with_reducible first | exact HB.out | apply below_alloc | apply pw_below_drewN | apply below_drew1) | exact HB.out)))); (case aL => have := LMc6.out; omega); intro v208 w14 ho hb hg hat; rw [← Ny207.out] at ho; have n0_ := Aside0.mk (hb); have n1_ := Aside0.mk (ho); clear HB; have HB := n0_; have HO209 := n1_; clear n0_ n1_; clear ho hb hg hat; have q15 : ((ji8) : Int) ≤ ((l0.length : Int) : Int) := of_decide_eq_true (by first | (with_reducible assumption) | assumption); obtain ⟨i015, hi015, _, hsz15, _⟩ := info_parts info58; have hroom15 : l0.length ≤ c0 := HC0.out; have hC15 : Kd.C k58 _ A0 l0.length l0 := HR0.out; have q015 : (0 : Int) ≤ ((ji8) : Int) := of_decide_eq_true (by first | (with_reducible assumption) | assumption); have hcut15 := cut_from (P := Tryd.prog) 22 58 .i64 Tryd.underlying22 hi015 2 hsz15 A0 l0.length c0 (ji8) q015 q15; have hr15 := Kd.C_drop (m := ((ji8) : Int).toNat) (c := c0) hC15 (by omega) hroom15; obtain ⟨A15, hA15⟩ : ∃ A1, A1 = (if c0 = ((ji8) : Int).toNat then A0 else (A0 : Option Addr).map (·.add (((ji8) : Int).toNat * 2))) := ⟨_, rfl⟩; obtain ⟨c15, hc15⟩ : ∃ c1, c1 = c0 - ((ji8) : Int).toNat := ⟨_, rfl⟩; have hy15 : y210.length = l0.length - ((ji8) : Int).toNat := (by rw [Ny210.out, List.length_drop] <;> omega); rw [show (l0).drop ((ji8) : Int).toNat = y210 from Ny210.out.symm] at hr15; replace hr15 : Kd.C k58 _ A15 y210.length y210 := (by rw [hA15]; exact hr15); rw [← hy15, ← hA15, ← hc15] at hcut15; have HR213 := Aside0.mk hr15; have HC213 := Aside0.mk (show y210.length ≤ c15 from by rw [hy15, hc15]; exact Nat.sub_le_sub_right hroom15 _); clear hr15 hC15 hroom15 hi015 hsz15 hc15; have KY15 := Aside0.mk hy15; have KA15 := Aside0.mk hA15; clear hy15 hA15; replace q15 := eq_true q15) | ((with_reducible refine gate_builtin (b := .append) (xs := #[.tmp 22, .tmp 25]) rfl ?_); at_builtin; refine Kd.R_append_rows k58 (w0 := w) w.heap.size rfl (.tmp 22) (.tmp 25) 22 58 (.agg #[(.string ⟨#[]⟩), (.string ⟨#[]⟩)]) 32 rfl Tryd.underlying22 info58 rfl (by decide) (by omega) v208 y207 y210 _ _ _ (fun _ => True) (fun _ => False) rfl rfl ?aO ?aR (fun _ _ h => h) (fun _ h => h.elim) ?aF ?aB ?aS ?aL ?_; (case aR => repeat (first | exact (Kd.C_below HR213.out HB.out) | (with_reducible refine Kd.C_alloc ?_ _) | (with_reducible refine Kd.C_drewN ?_ _) | (with_reducible refine Kd.C_drew ?_))); (case aB => exact (by repeat (first | (with_reducible first | exact HB.out | apply below_alloc | apply pw_below_drewN | apply below_drew1) | exact HB.out))); (case aF => exact (fun _ _ => trivial)); (case aO => exact (by (with_reducible repeat (first | apply Kd.R_alloc | apply Kd.R_drewN | apply Kd.R_drew)); exact HO209.out)); (case aS => exact (below_size (by repeat (first | (with_reducible first | exact HB.out | apply below_alloc | apply pw_below_drewN | apply below_drew1) | exact HB.out)))); (case aL => have := LMc11.out; omega); intro v215 w16 ho hb hg hat; rw [← Ny214.out] at ho; have n0_ := Aside0.mk (hb); have n1_ := Aside0.mk (ho); clear HB; clear HO209; have HB := n0_; have HO216 := n1_; clear n0_ n1_; clear ho hb hg hat))
                go_ret2
                exact ⟨_, by first | rfl | (simp [errW_none, errW_some] <;> rfl) | (simp only [← hji8]; first | rfl | (simp [errW_none, errW_some] <;> rfl)) | (simp [*, errW_none, errW_some] <;> rfl), by (with_reducible repeat (first | apply Kd.R_alloc | apply Kd.R_drewN | apply Kd.R_drew)); exact HO216.out, by repeat (first | (with_reducible first | exact HB.out | apply below_alloc | apply pw_below_drewN | apply below_drew1) | exact HB.out)⟩
              · rw [if_neg c11] at H
                exact absurd H (by simp)
            · rw [if_neg c10] at H
              exact absurd H (by simp)
          · rw [if_neg c9] at H
            exact absurd H (by simp)
        · replace c7 := Bool.eq_false_iff.mpr c7
          subst c7
          have H1 : ((some (l0.drop (t201 : Int).toNat : List (S58))).bind fun y217 => (if y207.length + y217.length < 4398046511104 then (some ((y207 ++ y217), false)) else (none))) = some (r1, r2) := by rw [if_neg (show ¬ (false = true) by decide)] at H; exact H
          clear H
          have H := H1
          clear H1
          have c17b0 := eq_true (of_decide_eq_true (by first | (with_reducible assumption) | assumption) : 0 ≤ t201)
          have c18b0 := eq_true (of_decide_eq_true (by first | (with_reducible assumption) | assumption) : t201 ≤ (l0.length : Int))
          obtain ⟨y217, hy217⟩ : ∃ y_ : List (S58), y_ = (l0.drop (t201 : Int).toNat) := ⟨_, rfl⟩
          replace H : (if y207.length + y217.length < 4398046511104 then (some ((y207 ++ y217), false)) else (none)) = some (r1, r2) := by first | (rw [hy217]; with_reducible exact H) | (have H2_ := (Option.bind_some _ _).symm.trans H; rw [hy217]; with_reducible exact H2_) | (have H2_ := (Option.bind_some _ _).symm.trans H; with_reducible exact H2_) | with_reducible exact H | (rw [hy217]; exact H) | exact H
          have Ny217 := Aside0.mk hy217
          clear hy217
          by_cases c19 : y207.length + y217.length < 4398046511104
          · rw [if_pos c19] at H
            have LMc19 := Aside0.mk c19
            clear c19
            obtain ⟨y221, hy221⟩ : ∃ y_ : List (S58), y_ = (y207 ++ y217) := ⟨_, rfl⟩
            replace H : (some (y221, false)) = some (r1, r2) := by first | (rw [hy221]; with_reducible exact H) | (have H2_ := (Option.bind_some _ _).symm.trans H; rw [hy221]; with_reducible exact H2_) | (have H2_ := (Option.bind_some _ _).symm.trans H; with_reducible exact H2_) | with_reducible exact H | (rw [hy221]; exact H) | exact H
            have Ny221 := Aside0.mk hy221
            clear hy221
            simp only [Option.some.injEq, Prod.mk.injEq] at H
            obtain ⟨rfl, rfl⟩ := H
            go_enter Tryd.func29, Tryd.ntmps29
            go_wp2_with (first | ((with_reducible refine gate_callee (f := 28) rfl ?_); refine goesL_ (some 12) rfl rfl Tryd.func28 (by kernel_rfl) rfl #[.slice A0 l0.length c0, .string a1] rfl (by (try simp only [List.map_toArray, List.map_cons, List.map_nil]); first | done | rfl | (simp only [List.length_drop, List.length_take]; rfl)) ?_; (with_reducible refine (leaf_Find.calls _ _ l0 a1 t201 false _ ?side1 ?side2 A3.out).mono ?_); (case side1 => repeat (first | exact HR0.out | (with_reducible refine Kd.C_alloc ?_ _) | (with_reducible refine Kd.C_drewN ?_ _) | (with_reducible refine Kd.C_drew ?_))); (case side2 => exact HC0.out); rintro e w20 ⟨rfl, hb⟩; refine ⟨_, rfl, ?_⟩; have n0_ := Aside0.mk (below_step (by repeat (first | (with_reducible first | exact HB.out | apply below_alloc | apply pw_below_drewN | apply below_drew1) | exact HB.out)) hb); clear HB; have HB := n0_; clear n0_; (try clear hb); (try clear hb2); (try clear hk); (try clear hi); have q21 : (t201 : Int) ≤ ((l0.length : Int) : Int) := of_decide_eq_true (by first | (with_reducible assumption) | assumption); obtain ⟨i021, hi021, _, hsz21, _⟩ := info_parts info58; have hroom21 : l0.length ≤ c0 := HC0.out; have hC21 : Kd.C k58 _ A0 l0.length l0 := HR0.out; have hcut21 := cut_to (P := Tryd.prog) 22 58 .i64 Tryd.underlying22 hi021 A0 l0.length c0 t201 (of_decide_eq_true (by first | (with_reducible assumption) | assumption)) q21 hroom21; have hr21 := Kd.C_take (m := (t201 : Int).toNat) hC21 (by omega); have hy21 : y203.length = (t201 : Int).toNat := (by rw [Ny203.out, List.length_take]; omega); rw [← Ny203.out] at hr21; rw [← hy21] at hcut21; have HR206 := Aside0.mk hr21; have HC206 := Aside0.mk (show y203.length ≤ c0 from by omega); clear hr21 hC21 hroom21 hi021 hsz21; have KY21 := Aside0.mk hy21; clear hy21; replace q21 := eq_true q21) | ((with_reducible refine gate_builtin (b := .append) (xs := #[.const (.slice none 0 0), .tmp 17]) rfl ?_); at_builtin; refine Kd.R_append_rows k58 (w0 := w) w.heap.size rfl (.const (.slice none 0 0)) (.tmp 17) 22 58 (.agg #[(.string ⟨#[]⟩), (.string ⟨#[]⟩)]) 32 rfl Tryd.underlying22 info58 rfl (by decide) (by omega) (.slice none 0 0) ([] : List (S58)) y203 _ _ _ (fun _ => True) (fun _ => False) rfl rfl ?aO ?aR (fun _ _ h => h) (fun _ h => h.elim) ?aF ?aB ?aS ?aL ?_; (case aR => repeat (first | exact (Kd.C_below HR206.out HB.out) | (with_reducible refine Kd.C_alloc ?_ _) | (with_reducible refine Kd.C_drewN ?_ _) | (with_reducible refine Kd.C_drew ?_))); (case aB => exact (by repeat (first | (with_reducible first | exact HB.out | apply below_alloc | apply pw_below_drewN | apply below_drew1) | exact HB.out))); (case aF => exact (fun _ _ => trivial)); (case aO => exact ((Kd.R_nil _ _ _ _ (fun _ => True)))); (case aS => exact (below_size (by repeat (first | (with_reducible first | exact HB.out | apply below_alloc | apply pw_below_drewN | apply below_drew1) | exact HB.out)))); (case aL => have := LMc6.out; omega); intro v208 w22 ho hb hg hat; rw [← Ny207.out] at ho; have n0_ := Aside0.mk (hb); have n1_ := Aside0.mk (ho); clear HB; have HB := n0_; have HO209 := n1_; clear n0_ n1_; clear ho hb hg hat; have q23 : (t201 : Int) ≤ ((l0.length : Int) : Int) := of_decide_eq_true (by first | (with_reducible assumption) | assumption); obtain ⟨i023, hi023, _, hsz23, _⟩ := info_parts info58; have hroom23 : l0.length ≤ c0 := HC0.out; have hC23 : Kd.C k58 _ A0 l0.length l0 := HR0.out; have q023 : (0 : Int) ≤ (t201 : Int) := of_decide_eq_true (by first | (with_reducible assumption) | assumption); have hcut23 := cut_from (P := Tryd.prog) 22 58 .i64 Tryd.underlying22 hi023 2 hsz23 A0 l0.length c0 t201 q023 q23; have hr23 := Kd.C_drop (m := (t201 : Int).toNat) (c := c0) hC23 (by omega) hroom23; obtain ⟨A23, hA23⟩ : ∃ A1, A1 = (if c0 = (t201 : Int).toNat then A0 else (A0 : Option Addr).map (·.add ((t201 : Int).toNat * 2))) := ⟨_, rfl⟩; obtain ⟨c23, hc23⟩ : ∃ c1, c1 = c0 - (t201 : Int).toNat := ⟨_, rfl⟩; have hy23 : y217.length = l0.length - (t201 : Int).toNat := (by rw [Ny217.out, List.length_drop] <;> omega); rw [show (l0).drop (t201 : Int).toNat = y217 from Ny217.out.symm] at hr23; replace hr23 : Kd.C k58 _ A23 y217.length y217 := (by rw [hA23]; exact hr23); rw [← hy23, ← hA23, ← hc23] at hcut23; have HR220 := Aside0.mk hr23; have HC220 := Aside0.mk (show y217.length ≤ c23 from by rw [hy23, hc23]; exact Nat.sub_le_sub_right hroom23 _); clear hr23 hC23 hroom23 hi023 hsz23 hc23; have KY23 := Aside0.mk hy23; have KA23 := Aside0.mk hA23; clear hy23 hA23; replace q23 := eq_true q23) | ((with_reducible refine gate_builtin (b := .append) (xs := #[.tmp 22, .tmp 25]) rfl ?_); at_builtin; refine Kd.R_append_rows k58 (w0 := w) w.heap.size rfl (.tmp 22) (.tmp 25) 22 58 (.agg #[(.string ⟨#[]⟩), (.string ⟨#[]⟩)]) 32 rfl Tryd.underlying22 info58 rfl (by decide) (by omega) v208 y207 y217 _ _ _ (fun _ => True) (fun _ => False) rfl rfl ?aO ?aR (fun _ _ h => h) (fun _ h => h.elim) ?aF ?aB ?aS ?aL ?_; (case aR => repeat (first | exact (Kd.C_below HR220.out HB.out) | (with_reducible refine Kd.C_alloc ?_ _) | (with_reducible refine Kd.C_drewN ?_ _) | (with_reducible refine Kd.C_drew ?_))); (case aB => exact (by repeat (first | (with_reducible first | exact HB.out | apply below_alloc | apply pw_below_drewN | apply below_drew1) | exact HB.out))); (case aF => exact (fun _ _ => trivial)); (case aO => exact (by (with_reducible repeat (first | apply Kd.R_alloc | apply Kd.R_drewN | apply Kd.R_drew)); exact HO209.out)); (case aS => exact (below_size (by repeat (first | (with_reducible first | exact HB.out | apply below_alloc | apply pw_below_drewN | apply below_drew1) | exact HB.out)))); (case aL => have := LMc19.out; omega); intro v222 w24 ho hb hg hat; rw [← Ny221.out] at ho; have n0_ := Aside0.mk (hb); have n1_ := Aside0.mk (ho); clear HB; clear HO209; have HB := n0_; have HO223 := n1_; clear n0_ n1_; clear ho hb hg hat))
            go_ret2
            exact ⟨_, by first | rfl | (simp [errW_none, errW_some] <;> rfl) | (simp [*, errW_none, errW_some] <;> rfl), by (with_reducible repeat (first | apply Kd.R_alloc | apply Kd.R_drewN | apply Kd.R_drew)); exact HO223.out, by repeat (first | (with_reducible first | exact HB.out | apply below_alloc | apply pw_below_drewN | apply below_drew1) | exact HB.out)⟩
          · rw [if_neg c19] at H
            exact absurd H (by simp)
      · rw [if_neg c6] at H
        exact absurd H (by simp)
    · rw [if_neg c5] at H
      exact absurd H (by simp)
  · rw [if_neg c4] at H
    exact absurd H (by simp)

end Go.Proofs.YtdailhlghlledaaDoor.XLeafKeeps
