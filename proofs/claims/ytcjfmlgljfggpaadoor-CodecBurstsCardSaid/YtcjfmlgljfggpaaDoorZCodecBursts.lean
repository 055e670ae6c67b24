/- CodecBursts: for every input that the given statement speaks of, the law's Go function returns true and leaves its arguments as they read. Conditions: the statement's own alone (its row's list of package-level variables, tied to the program's text by the card). -/
import Derived.Test.YtcjfmlgljfggpaaDoorCards
import Derived.Test.YtcjfmlgljfggpaaDoorTie
import Derived.Test.YtcjfmlgljfggpaaDoorXCodecBurstsx
import Derived.Test.YtcjfmlgljfggpaaDoorQCodecBursts
import Derived.Test.YtcjfmlgljfggpaaDoorVArgs
import Derived.WalkKit
import Derived.ProofKit
import Derived.OpenShut
import Derived.ShutString
import Derived.ChangeOld
import Derived.Below
import Derived.SizedLaws
import Derived.Carry
import Derived.LaidMore
import Derived.Deep.DeepHandedRow
import Derived.Deep.DeepWitnessRowRef
import Derived.Lib.LaidTab
set_option linter.unusedVariables false
namespace Go.Proofs.YtcjfmlgljfggpaaDoor.XCodecBursts
open Go.ChangeShapes Go.WideShapes Go.ChangeAt Go.RowKit Go.Proofs.YtcjfmlgljfggpaaDoorW.PrintWords

theorem own : ownKnob Tryd.prog.godebug = none := by kernel_rfl
theorem laidOut : laidOutB Tryd.prog = true := by kernel_rfl
/-- What the row's list gives. -/
theorem glob_of_laid {W : World} (h : laidMetH Tryd.prog Rows.codecBurstsRow.laid W) : ∃ E, Glob E W := by
  rw [MakeChecks.laidMetH_plain _ _ _ (by kernel_rfl)] at h
  obtain ⟨ps, hL0, hnd, hrows⟩ := h
  obtain ⟨t17, q0, r0⟩ := V.tab_of_laid (zs := tab17) (by kernel_rfl : Tryd.prog.globalNamed "copse/codec.steps" = some 17) (by kernel_rfl : _ = some 68) Tryd.underlying68 Tryd.underlying25 (by kernel_rfl) (by kernel_rfl) hL0
  exact ⟨fun _ => ⟨0, 0, none⟩, {
    t17 := fun i hi => t17 i hi }⟩
/-- What the printed contract gives, for every argument and every world that meets the row's conditions: the same for both forms. -/
theorem contract (H : Type) (enc : TypeId × Value → H) (W : World) (base : Nat) (args : Array Value) (ds gs : List (DataW H)) (before : List MemPlace)
    (hval0 : ∀ (j : Nat) t v, Tryd.f6.params[j]? = some t → args[j]? = some v → Value.okWide Tryd.prog W .any base t v)
    (hW : DataW.Whole enc Tryd.prog Tryd.f6.params.toList Rows.codecBurstsSpec.vars false W args.toList ds gs before)
    (hsz0 : (DataW.weightsEach Tryd.prog (Tryd.f6.params.toList ++ Rows.codecBurstsSpec.plain.varTypes Tryd.prog) (ds ++ gs)).all (· ≤ reachBytes) = true) (hL : laidMetH Tryd.prog Rows.codecBurstsRow.laid W) :
    Calls Tryd.prog 6 args W fun e W' => ∃ v, e = .returned v ∧ Rows.codecBurstsSpec.post enc Tryd.prog Tryd.f6 false true false false W args v W' := by
  have hval : ∀ (j : Nat) t v, Tryd.f6.params[j]? = some t → args[j]? = some v → Value.okWide Tryd.prog W .any base t v := hval0
  have hW' := hW
  obtain ⟨p, q, hA0, hV, rfl, hfz, hnd⟩ := hW
  have hA : DataW.TrodAll enc Tryd.prog W 0 (fun _ => true) true Tryd.f6.params.toList args.toList ds p := hA0
  have hsz : (DataW.weightsEach Tryd.prog (Tryd.f6.params.toList ++ Rows.codecBurstsSpec.plain.varTypes Tryd.prog) (ds ++ gs)).all (· ≤ reachBytes) = true := hsz0
  rw [Tryd.params6] at hA hval hsz
  obtain ⟨v0, vs0, d0, ds0, p0, q0, hargs, rfl, rfl, h0, r0⟩ := trodAll_cons hA
  obtain ⟨rfl, rfl, rfl⟩ := trodAll_nil r0
  obtain rfl : args = #[v0] := by cases args; simp_all
  obtain ⟨rfl, rfl⟩ := trodVars_none hV
  obtain ⟨E, hE⟩ := glob_of_laid hL
  have b0 : ∀ n ∈ d0.weights Tryd.prog 38, n ≤ 140737488351232 := fun n hn => of_decide_eq_true (List.all_eq_true.1 hsz n (DataW.weights_mem_each (j := 0) rfl rfl n hn))
  obtain ⟨cs0, rfl, _⟩ := okWide_struct Tryd.underlying38 (hval 0 38 v0 rfl rfl)
  have k0 := h0
  have lt0 : ∀ x ∈ p0, x.block < W.heap.size := by obtain ⟨m, hm⟩ := k0; exact DataW.trod_lt m _ _ _ hm
  obtain ⟨fu0, hf0⟩ := h0
  obtain ⟨z0, K0, B0, M0⟩ := (V.opens_struct3 (P := Tryd.prog) (m0 := 1) (m1 := 1) (m2 := 1) Tryd.underlying38 (V.opens_string (P := Tryd.prog) Tryd.underlying9) (V.opens_int (P := Tryd.prog) Tryd.underlying3) (V.opens_int (P := Tryd.prog) Tryd.underlying25) rfl (by kernel_rfl) rfl (by kernel_rfl) rfl (by kernel_rfl) (by kernel_rfl)) hf0 b0
  obtain ⟨cs0_0, cs0_1, cs0_2, e0, K0_0, K0_1, K0_2⟩ := K0
  obtain ⟨B0_0, B0_1, B0_2⟩ := B0
  have ce0_0 : _ = [Value.string z0.1] := K0_0
  have ce0_1 : _ = [Value.int .i64 z0.2.1] := K0_1
  have ce0_2 : _ = [Value.int .u32 z0.2.2] := K0_2
  obtain rfl : cs0 = #[.string z0.1, .int .i64 z0.2.1, .int .u32 z0.2.2] := by
    apply Array.toList_inj.1
    have e := e0
    simp only [ce0_0, ce0_1, ce0_2, List.cons_append, List.nil_append] at e
    exact e
  obtain ⟨k, hk⟩ := pure_side z0.1 z0.2.1 z0.2.2 B0_0 B0_1 B0_2
  refine (copselaw1_CodecBursts.calls k E z0.1 z0.2.1 z0.2.2 true W hE  hk).mono fun e W' hq => ?_
  obtain ⟨rfl, bel0⟩ := hq
  have bel : Below W.heap.size W W' := bel0
  exact ⟨_, rfl, _, _, _, [], _, [], hW', trodAll_mk1 (shut_bool Tryd.underlying4 _), (trodAll_cons_mk (Below.trod laidOut (by kernel_rfl) (of_decide_eq_true (by kernel_rfl)) k0 bel lt0) trodAll_mk0), rfl, bel.frame _, fun h => by cases h⟩
theorem door_met (os : Os) : laidMet Tryd.prog Rows.codecBurstsRow.laid ((World.doorLaid Tryd.prog 281 os).forCall (fun _ _ => 0) ⟨#[], #[(.agg #[.string ByteArray.empty, .int .i64 0, .int .u32 0] : Value)], []⟩).memory := laidMet_of_run' 8 (by kernel_rfl) (by kernel_rfl)
theorem reads (os : Os) {H : Type} (enc : TypeId × Value → H) : ∃ places, DataW.whole enc Tryd.prog ((World.doorLaid Tryd.prog 281 os).forCall (fun _ _ => 0) ⟨#[], #[(.agg #[.string ByteArray.empty, .int .i64 0, .int .u32 0] : Value)], []⟩).memory Tryd.f6.params.toList Rows.codecBurstsSpec.vars false (#[(.agg #[.string ByteArray.empty, .int .i64 0, .int .u32 0] : Value)] : Array Value).toList 8 = some ([.agg [.lit (.string []), .lit (.int .i64 0), .lit (.int .u32 0)]], [], places) :=
  ⟨[], by kernel_rfl⟩
set_option maxRecDepth 100000 in
theorem lifted (os : Os) (started : os.Started) (H : Type) (enc : TypeId × Value → H) (F : Stop.Interp) :
    ReturnsInHanded {} Tryd.checked os 6 .any ((OpenSpec.ofChange Rows.codecBurstsSpec).preRow enc Tryd.prog Tryd.f6 Rows.codecBurstsRow.domain false Rows.codecBurstsRow.laid) (((OpenSpec.ofChange Rows.codecBurstsSpec).at F).post enc Tryd.prog Tryd.f6 false true false false) := by
  obtain ⟨places, hx⟩ := reads os enc
  refine returnsInHanded_of_row (C := Tryd.checked) (s := OpenSpec.ofChange Rows.codecBurstsSpec) own started (by kernel_rfl) Tryd.func6
    (witness_row_atRef (enc := enc) (C := Tryd.checked) false (World.doorLaid Tryd.prog 281 os) #[(.agg #[.string ByteArray.empty, .int .i64 0, .int .u32 0] : Value)] rfl (by kernel_rfl) (by kernel_rfl) (by kernel_rfl)
      (OpenSpec.preRow_of_cond 8 hx (by kernel_rfl) (fun k hk => by cases hk) (by kernel_rfl) (door_met os))) ?_
  intro W base args ds gs before hval hW _ hcond hsz hL _ _
  exact contract H enc W base args ds gs before hval hW hsz hL
theorem said : Rows.CodecBurstsSaid :=
  OpenClaim.holds_of_cond 6 Tryd.f6 rfl rfl rfl rfl rfl rfl rfl ⟨rfl, rfl, rfl, rfl, rfl⟩ rfl rfl rfl rfl rfl (by kernel_rfl) Tryd.func6 (by kernel_rfl)
    (of_decide_eq_true (by kernel_rfl)) (by unfold Func.isWrapper; first | (rw [if_pos (by decide +kernel)]; kernel_rfl) | (rw [if_neg (by decide +kernel)]; exact ⟨rfl, rfl⟩))
    (fun os started H enc _ F => by rw [OpenClaim.pre_eq_preRow]; exact lifted os started H enc F)
theorem plain (f : FuncId) (fn : Func) (hf : Tryd.pinned.checked.prog.funcNamed "copse/copselaw1.CodecBursts" = some f) (hfn : Tryd.pinned.checked.prog.funcs[f]? = some fn) :
    true = Tryd.pinned.checked.prog.looks [] ∧ ∀ (j : Nat) t, fn.params[j]? = some t → Tryd.pinned.checked.prog.wantsStandIn t = false := by
  obtain rfl : f = 6 := Option.some.inj ((show Tryd.prog.funcNamed "copse/copselaw1.CodecBursts" = some 6 by kernel_rfl).symm.trans hf) |>.symm
  obtain rfl : fn = Tryd.f6 := (Option.some.inj (Tryd.func6.symm.trans hfn)).symm
  refine ⟨by kernel_rfl, fun j t ht => ?_⟩
  rw [Tryd.params6] at ht
  have hm : t ∈ [38] := by simpa using Array.mem_of_getElem? ht
  have hall : ([38].all fun u => !Tryd.prog.wantsStandIn u) = true := by kernel_rfl
  exact (show Tryd.prog.wantsStandIn t = false by simpa using List.all_eq_true.1 hall t hm)
/-- The tied card. -/
theorem card : Rows.CodecBurstsCardSaid :=
  Claim7.holds_tied_plain_at .later [] _ _ _ _ said (fun _ h => by cases h) (by kernel_rfl) (fun _ h => by cases h) codecBursts_row_tie rfl ⟨rfl, rfl⟩ (by kernel_rfl) rfl plain (by kernel_rfl)
end Go.Proofs.YtcjfmlgljfggpaaDoor.XCodecBursts
namespace Go.Proofs.YtcjfmlgljfggpaaDoor
/-- The statement, under a short name. -/
theorem codecBursts_holds : Rows.CodecBurstsCardSaid := XCodecBursts.card
#print axioms codecBursts_holds
end Go.Proofs.YtcjfmlgljfggpaaDoor
