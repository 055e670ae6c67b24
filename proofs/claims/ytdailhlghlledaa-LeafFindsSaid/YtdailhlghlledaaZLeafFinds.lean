/- LeafFinds: for every input that the given statement speaks of, the law's Go function returns true and leaves its arguments as they read. Conditions: the statement's own alone (its row's list of package-level variables, tied to the program's text by the card). -/
import Derived.Test.YtdailhlghlledaaRows
import Derived.Test.YtdailhlghlledaaXLeafFindsx
import Derived.Test.YtdailhlghlledaaQLeafFinds
import Derived.Test.YtdailhlghlledaaVArgs
import Derived.WalkKit
import Derived.ProofKit
import Derived.OpenShut
import Derived.ShutString
import Derived.ChangeOld
import Derived.Below
import Derived.SizedLaws
import Derived.Carry
import Derived.LaidMore
import Derived.Deep.DeepHandedRow
import Derived.Deep.DeepWitnessRowRef
import Derived.Lib.LaidTab
set_option linter.unusedVariables false
namespace Go.Proofs.Ytdailhlghlledaa.XLeafFinds
open Go.ChangeShapes Go.WideShapes Go.ChangeAt Go.RowKit Go.Proofs.YtdailhlghlledaaW.PrintWords

theorem own : ownKnob Try.prog.godebug = none := by kernel_rfl
theorem laidOut : laidOutB Try.prog = true := by kernel_rfl
theorem opens34 : V.Opens Try.prog 34 k34.K (fun x => (x.f0.size ≤ 140737488351232 ∧ x.f1.size ≤ 140737488351232)) (fun x => ((x.f0.size + 1) + (x.f1.size + 1) + 1)) := by
  intro H enc w base sp held fuel cs x h hz
  obtain ⟨a, hK, hb, hm⟩ := V.opens_struct2 (P := Try.prog) (m0 := 1) (m1 := 1) Try.underlying34 (V.opens_string (P := Try.prog) Try.underlying9) (V.opens_string (P := Try.prog) Try.underlying9) rfl (by kernel_rfl) rfl (by kernel_rfl) (by kernel_rfl) h hz
  exact ⟨⟨a.1, a.2⟩, hK, hb, hm⟩
set_option maxRecDepth 100000 in
/-- What the printed contract gives, for every argument and every world that meets the row's conditions: the same for both forms. -/
theorem contract (H : Type) (enc : TypeId × Value → H) (W : World) (base : Nat) (args : Array Value) (ds gs : List (DataW H)) (before : List MemPlace)
    (hval0 : ∀ (j : Nat) t v, Try.f3.params[j]? = some t → args[j]? = some v → Value.okWide Try.prog W .any base t v)
    (hW : DataW.Whole enc Try.prog Try.f3.params.toList Rows.leafFindsSpec.vars false W args.toList ds gs before)
    (hsz0 : (DataW.weightsEach Try.prog (Try.f3.params.toList ++ Rows.leafFindsSpec.plain.varTypes Try.prog) (ds ++ gs)).all (· ≤ reachBytes) = true) :
    Calls Try.prog 3 args W fun e W' => ∃ v, e = .returned v ∧ Rows.leafFindsSpec.post enc Try.prog Try.f3 false true false false W args v W' := by
  have hval : ∀ (j : Nat) t v, Try.f3.params[j]? = some t → args[j]? = some v → Value.okWide Try.prog W .any base t v := hval0
  have hW' := hW
  obtain ⟨p, q, hA0, hV, rfl, hfz, hnd⟩ := hW
  have hA : DataW.TrodAll enc Try.prog W 0 (fun _ => true) true Try.f3.params.toList args.toList ds p := hA0
  have hsz : (DataW.weightsEach Try.prog (Try.f3.params.toList ++ Rows.leafFindsSpec.plain.varTypes Try.prog) (ds ++ gs)).all (· ≤ reachBytes) = true := hsz0
  rw [Try.params3] at hA hval hsz
  obtain ⟨v0, vs0, d0, ds0, p0, q0, hargs, rfl, rfl, h0, r0⟩ := trodAll_cons hA
  obtain ⟨rfl, rfl, rfl⟩ := trodAll_nil r0
  obtain rfl : args = #[v0] := by cases args; simp_all
  obtain ⟨rfl, rfl⟩ := trodVars_none hV
  have b0 : ∀ n ∈ d0.weights Try.prog 24, n ≤ 140737488351232 := fun n hn => of_decide_eq_true (List.all_eq_true.1 hsz n (DataW.weights_mem_each (j := 0) rfl rfl n hn))
  obtain ⟨cs0, rfl, _⟩ := okWide_struct Try.underlying24 (hval 0 24 v0 rfl rfl)
  have k0 := h0
  have lt0 : ∀ x ∈ p0, x.block < W.heap.size := by obtain ⟨m, hm⟩ := k0; exact DataW.trod_lt m _ _ _ hm
  obtain ⟨fu0, hf0⟩ := h0
  obtain ⟨z0, K0, B0, M0⟩ := (V.opens_struct4 (P := Try.prog) (m0 := 1) (m1 := 1) (m2 := 1) (m3 := 1) Try.underlying24 (V.opens_slice (P := Try.prog) (d := k34) (B := 32) 34 Try.underlying22 (by kernel_rfl) (by kernel_rfl) opens34) (V.opens_string (P := Try.prog) Try.underlying9) (V.opens_string (P := Try.prog) Try.underlying9) (V.opens_bool (P := Try.prog) Try.underlying4) rfl (by kernel_rfl) rfl (by kernel_rfl) rfl (by kernel_rfl) rfl (by kernel_rfl) (by kernel_rfl)) hf0 b0
  obtain ⟨cs0_0, cs0_1, cs0_2, cs0_3, e0, K0_0, K0_1, K0_2, K0_3⟩ := K0
  obtain ⟨B0_0, B0_1, B0_2, B0_3⟩ := B0
  obtain ⟨A0_0, c0_0, ce0_0, hl0_0, hC0_0⟩ := K0_0
  have ce0_1 : _ = [Value.string z0.2.1] := K0_1
  have ce0_2 : _ = [Value.string z0.2.2.1] := K0_2
  have ce0_3 : _ = [Value.bool z0.2.2.2] := K0_3
  obtain rfl : cs0 = #[.slice A0_0 z0.1.length c0_0, .string z0.2.1, .string z0.2.2.1, .bool z0.2.2.2] := by
    apply Array.toList_inj.1
    have e := e0
    simp only [ce0_0, ce0_1, ce0_2, ce0_3, List.cons_append, List.nil_append] at e
    exact e
  obtain ⟨k, hk⟩ := pure_side z0.1 z0.2.1 z0.2.2.1 z0.2.2.2 B0_0 B0_1 B0_2
  refine (copselaw7_LeafFinds.calls k _ _ z0.1 z0.2.1 z0.2.2.1 z0.2.2.2 true W hC0_0 hl0_0 hk).mono fun e W' hq => ?_
  obtain ⟨rfl, bel0⟩ := hq
  have bel : Below W.heap.size W W' := bel0
  exact ⟨_, rfl, _, _, _, [], _, [], hW', trodAll_mk1 (shut_bool Try.underlying4 _), (trodAll_cons_mk (Below.trod laidOut (by kernel_rfl) (of_decide_eq_true (by kernel_rfl)) k0 bel lt0) trodAll_mk0), rfl, bel.frame _, fun h => by cases h⟩
theorem door_met (os : Os) : laidMet Try.prog Rows.leafFindsRow.laid ((World.holding Try.prog os ⟨#[], #[], []⟩).forCall (fun _ _ => 0) ⟨#[], #[(.agg #[.slice none 0 0, .string ByteArray.empty, .string ByteArray.empty, .bool false] : Value)], []⟩).memory := laidMet_nil _ _
theorem reads (os : Os) {H : Type} (enc : TypeId × Value → H) : ∃ places, DataW.whole enc Try.prog ((World.holding Try.prog os ⟨#[], #[], []⟩).forCall (fun _ _ => 0) ⟨#[], #[(.agg #[.slice none 0 0, .string ByteArray.empty, .string ByteArray.empty, .bool false] : Value)], []⟩).memory Try.f3.params.toList Rows.leafFindsSpec.vars false (#[(.agg #[.slice none 0 0, .string ByteArray.empty, .string ByteArray.empty, .bool false] : Value)] : Array Value).toList 8 = some ([.agg [.nil, .lit (.string []), .lit (.string []), .lit (.bool false)]], [], places) :=
  ⟨[], by kernel_rfl⟩
set_option maxRecDepth 100000 in
theorem lifted (os : Os) (started : os.Started) (H : Type) (enc : TypeId × Value → H) (F : Stop.Interp) :
    ReturnsInHanded {} Try.checked os 3 .any ((OpenSpec.ofChange Rows.leafFindsSpec).preRow enc Try.prog Try.f3 Rows.leafFindsRow.domain false Rows.leafFindsRow.laid) (((OpenSpec.ofChange Rows.leafFindsSpec).at F).post enc Try.prog Try.f3 false true false false) := by
  obtain ⟨places, hx⟩ := reads os enc
  refine returnsInHanded_of_row (C := Try.checked) (s := OpenSpec.ofChange Rows.leafFindsSpec) own started (by kernel_rfl) Try.func3
    (witness_row_at (enc := enc) (C := Try.checked) false (World.holding Try.prog os ⟨#[], #[], []⟩) #[(.agg #[.slice none 0 0, .string ByteArray.empty, .string ByteArray.empty, .bool false] : Value)] rfl (by kernel_rfl) (by kernel_rfl) (by kernel_rfl)
      (OpenSpec.preRow_of_cond 8 hx (by kernel_rfl) (fun k hk => by cases hk) (by kernel_rfl) (door_met os))) ?_
  intro W base args ds gs before hval hW _ hcond hsz hL _ _
  exact contract H enc W base args ds gs before hval hW hsz
theorem said : Rows.LeafFindsSaid :=
  OpenClaim.holds_of_cond 3 Try.f3 rfl rfl rfl rfl rfl rfl rfl ⟨rfl, rfl, rfl, rfl, rfl⟩ rfl rfl rfl rfl rfl (by kernel_rfl) Try.func3 (by kernel_rfl)
    (of_decide_eq_true (by kernel_rfl)) (by unfold Func.isWrapper; first | (rw [if_pos (by decide +kernel)]; kernel_rfl) | (rw [if_neg (by decide +kernel)]; exact ⟨rfl, rfl⟩))
    (fun os started H enc _ F => by rw [OpenClaim.pre_eq_preRow]; exact lifted os started H enc F)
end Go.Proofs.Ytdailhlghlledaa.XLeafFinds
namespace Go.Proofs.Ytdailhlghlledaa
/-- The statement, under a short name. -/
theorem leafFinds_holds : Rows.LeafFindsSaid := XLeafFinds.said
#print axioms leafFinds_holds
end Go.Proofs.Ytdailhlghlledaa
