/- LeafNew: for every input that the given statement speaks of, the law's Go function returns true and leaves its arguments as they read. Conditions: the statement's own alone (its row's list of package-level variables, tied to the program's text by the card). -/
-- slim
import Derived.Test.YtdailhlghlledaaDoorCards
import Derived.Test.YtdailhlghlledaaDoorTie
import Derived.Test.YtdailhlghlledaaDoorXLeafNewx
import Derived.Test.YtdailhlghlledaaDoorQLeafNew
import Derived.Test.YtdailhlghlledaaDoorKVArgs
import Derived.WalkKit
import Derived.ProofKit
import Derived.OpenShut
import Derived.ShutString
import Derived.ChangeOld
import Derived.Below
import Derived.SizedLaws
import Derived.Carry
import Derived.LaidMore
import Derived.Deep.DeepHandedRow
import Derived.Deep.DeepWitnessRowRef
import Derived.Lib.LaidTab
set_option linter.unusedVariables false
namespace Go.Proofs.YtdailhlghlledaaDoor.XLeafNew
open Go.ChangeShapes Go.WideShapes Go.ChangeAt Go.RowKit Go.Proofs.YtdailhlghlledaaDoorW.PrintWords

theorem own:ownKnob Tryd.prog.godebug=none:=by kernel_rfl
theorem laidOut:laidOutB Tryd.prog=true:=by kernel_rfl
theorem opens58:V.Opens Tryd.prog 58 k58.K (fun x=>(x.f0.size≤140737488351232∧x.f1.size≤140737488351232)) (fun x=>((x.f0.size+1)+(x.f1.size+1)+1)):=by
  intro H enc w base sp held fuel cs x h hz
  obtain⟨a,hK,hb,hm⟩:=V.opens_struct2 (P:=Tryd.prog) (m0:=1) (m1:=1) Tryd.underlying58 (V.opens_string (P:=Tryd.prog) Tryd.underlying9) (V.opens_string (P:=Tryd.prog) Tryd.underlying9) rfl (by kernel_rfl) rfl (by kernel_rfl) (by kernel_rfl) h hz
  exact ⟨⟨a.1,a.2⟩,hK,hb,hm⟩
def ks:List Int:=[1,2,3,4,5,6,7,8,9,10,11,12,13]
theorem en_mem (q:Int):en q∈ks:=by unfold en ks;(repeat' split) <;> simp
theorem en_en (q:Int):en (en q)=en q:=(by decide : ∀ k∈ks,en k=k) _ (en_mem q)
theorem star : "*" ++ "errors.errorString" = "*errors.errorString":=by decide
theorem rowPT (u:TypeId) (h:Tryd.prog.typeName? 3 u=some "*errors.errorString"):u=100:=
  typeName_ptr_named (nm:= "errors.errorString") (by rw[star];kernel_rfl) (by kernel_rfl) (by decide) u (by rw[star];exact h)
def sents:List (String×List UInt8):=[("copse/api.ErrArg",[97,32,110,117,109,98,101,114,32,111,114,32,97,110,32,97,114,103,117,109,101,110,116,32,105,115,32,111,117,116,32,111,102,32,105,116,115,32,112,108,97,99,101]),("copse/api.ErrText",[97,32,116,101,120,116,32,111,114,32,98,121,116,101,115,32,116,104,97,116,32,99,97,110,110,111,116,32,98,101,32,114,101,97,100]),("copse/api.ErrMany",[97,98,111,118,101,32,97,32,108,105,109,105,116]),("copse/api.ErrShort",[115,111,109,101,116,104,105,110,103,32,105,115,32,109,105,115,115,105,110,103]),("copse/api.ErrTwice",[116,104,101,114,101,32,116,119,105,99,101]),("copse/api.ErrLost",[110,111,116,32,116,104,101,114,101]),("copse/api.ErrFull",[110,111,32,114,111,111,109,32,111,110,32,116,104,101,32,100,101,118,105,99,101]),("copse/api.ErrDead",[116,104,101,32,112,111,119,101,114,32,104,97,115,32,102,97,105,108,101,100]),("copse/api.ErrCorrupt",[110,111,116,32,97,32,115,116,111,114,101]),("copse/api.ErrStatus",[110,111,116,32,110,111,119]),("copse/api.ErrTxid",[110,111,32,102,117,114,116,104,101,114,32,116,114,97,110,115,97,99,116,105,111,110,32,104,97,115,32,97,32,110,117,109,98,101,114]),("copse/api.ErrOrder",[110,111,116,32,105,110,32,111,114,100,101,114]),("copse/api.ErrKind",[111,102,32,97,110,111,116,104,101,114,32,107,105,110,100])]
/-- What the row's list gives. -/
theorem glob_of_laid {W:World} (h:laidMetH Tryd.prog Rows.leafNewRow.laid W) : ∃ E,Glob E W:=by
  rw[MakeChecks.laidMetH_plain _ _ _ (by kernel_rfl)] at h
  obtain⟨ps,hL0,hnd,hrows⟩:=h
  have hL:DataW.LaidVars Tryd.prog W (sents.map (fun x=>(x.1,V.sentD x.2))++[]) ps:=hL0
  obtain⟨al,q,h1,h2,h3,h4,_,h6,_⟩:=V.sents_of_laid Tryd.underlying28 rowPT Tryd.underlying100 Tryd.underlying118 rfl rfl Tryd.underlying9 (by kernel_rfl) (by kernel_rfl) sents ps hL hrows hnd (by
    intro x hx
    simp only[sents,List.mem_cons,List.not_mem_nil,or_false] at hx
    rcases hx with rfl|rfl|rfl|rfl|rfl|rfl|rfl|rfl|rfl|rfl|rfl|rfl|rfl
    · exact ⟨0,by kernel_rfl,by kernel_rfl⟩
    · exact ⟨4,by kernel_rfl,by kernel_rfl⟩
    · exact ⟨2,by kernel_rfl,by kernel_rfl⟩
    · exact ⟨3,by kernel_rfl,by kernel_rfl⟩
    · exact ⟨5,by kernel_rfl,by kernel_rfl⟩
    · exact ⟨6,by kernel_rfl,by kernel_rfl⟩
    · exact ⟨7,by kernel_rfl,by kernel_rfl⟩
    · exact ⟨8,by kernel_rfl,by kernel_rfl⟩
    · exact ⟨9,by kernel_rfl,by kernel_rfl⟩
    · exact ⟨10,by kernel_rfl,by kernel_rfl⟩
    · exact ⟨11,by kernel_rfl,by kernel_rfl⟩
    · exact ⟨1,by kernel_rfl,by kernel_rfl⟩
    · exact ⟨12,by kernel_rfl,by kernel_rfl⟩)
  have hl:al.length=ks.length:=h1
  have e0:W.cell? ⟨0,0,none⟩=some (errW (V.addrOf ks al en) (some 1)):=by
    obtain⟨g,a,hg,ha,hc⟩:=h3 0 "copse/api.ErrArg" rfl
    obtain rfl:0=g:=Option.some.inj ((show Tryd.prog.globalNamed "copse/api.ErrArg" = some 0 by kernel_rfl).symm.trans hg)
    rw[hc,errW_some,show V.addrOf ks al en 1=a by unfold V.addrOf;rw[show ks.idxOf (en 1)=0 by decide,List.getD_eq_getElem?_getD,ha];rfl]
  have e4:W.cell? ⟨4,0,none⟩=some (errW (V.addrOf ks al en) (some 2)):=by
    obtain⟨g,a,hg,ha,hc⟩:=h3 1 "copse/api.ErrText" rfl
    obtain rfl:4=g:=Option.some.inj ((show Tryd.prog.globalNamed "copse/api.ErrText" = some 4 by kernel_rfl).symm.trans hg)
    rw[hc,errW_some,show V.addrOf ks al en 2=a by unfold V.addrOf;rw[show ks.idxOf (en 2)=1 by decide,List.getD_eq_getElem?_getD,ha];rfl]
  have e2:W.cell? ⟨2,0,none⟩=some (errW (V.addrOf ks al en) (some 3)):=by
    obtain⟨g,a,hg,ha,hc⟩:=h3 2 "copse/api.ErrMany" rfl
    obtain rfl:2=g:=Option.some.inj ((show Tryd.prog.globalNamed "copse/api.ErrMany" = some 2 by kernel_rfl).symm.trans hg)
    rw[hc,errW_some,show V.addrOf ks al en 3=a by unfold V.addrOf;rw[show ks.idxOf (en 3)=2 by decide,List.getD_eq_getElem?_getD,ha];rfl]
  have e3:W.cell? ⟨3,0,none⟩=some (errW (V.addrOf ks al en) (some 4)):=by
    obtain⟨g,a,hg,ha,hc⟩:=h3 3 "copse/api.ErrShort" rfl
    obtain rfl:3=g:=Option.some.inj ((show Tryd.prog.globalNamed "copse/api.ErrShort" = some 3 by kernel_rfl).symm.trans hg)
    rw[hc,errW_some,show V.addrOf ks al en 4=a by unfold V.addrOf;rw[show ks.idxOf (en 4)=3 by decide,List.getD_eq_getElem?_getD,ha];rfl]
  have e5:W.cell? ⟨5,0,none⟩=some (errW (V.addrOf ks al en) (some 5)):=by
    obtain⟨g,a,hg,ha,hc⟩:=h3 4 "copse/api.ErrTwice" rfl
    obtain rfl:5=g:=Option.some.inj ((show Tryd.prog.globalNamed "copse/api.ErrTwice" = some 5 by kernel_rfl).symm.trans hg)
    rw[hc,errW_some,show V.addrOf ks al en 5=a by unfold V.addrOf;rw[show ks.idxOf (en 5)=4 by decide,List.getD_eq_getElem?_getD,ha];rfl]
  have e6:W.cell? ⟨6,0,none⟩=some (errW (V.addrOf ks al en) (some 6)):=by
    obtain⟨g,a,hg,ha,hc⟩:=h3 5 "copse/api.ErrLost" rfl
    obtain rfl:6=g:=Option.some.inj ((show Tryd.prog.globalNamed "copse/api.ErrLost" = some 6 by kernel_rfl).symm.trans hg)
    rw[hc,errW_some,show V.addrOf ks al en 6=a by unfold V.addrOf;rw[show ks.idxOf (en 6)=5 by decide,List.getD_eq_getElem?_getD,ha];rfl]
  have e7:W.cell? ⟨7,0,none⟩=some (errW (V.addrOf ks al en) (some 7)):=by
    obtain⟨g,a,hg,ha,hc⟩:=h3 6 "copse/api.ErrFull" rfl
    obtain rfl:7=g:=Option.some.inj ((show Tryd.prog.globalNamed "copse/api.ErrFull" = some 7 by kernel_rfl).symm.trans hg)
    rw[hc,errW_some,show V.addrOf ks al en 7=a by unfold V.addrOf;rw[show ks.idxOf (en 7)=6 by decide,List.getD_eq_getElem?_getD,ha];rfl]
  have e8:W.cell? ⟨8,0,none⟩=some (errW (V.addrOf ks al en) (some 8)):=by
    obtain⟨g,a,hg,ha,hc⟩:=h3 7 "copse/api.ErrDead" rfl
    obtain rfl:8=g:=Option.some.inj ((show Tryd.prog.globalNamed "copse/api.ErrDead" = some 8 by kernel_rfl).symm.trans hg)
    rw[hc,errW_some,show V.addrOf ks al en 8=a by unfold V.addrOf;rw[show ks.idxOf (en 8)=7 by decide,List.getD_eq_getElem?_getD,ha];rfl]
  have e9:W.cell? ⟨9,0,none⟩=some (errW (V.addrOf ks al en) (some 9)):=by
    obtain⟨g,a,hg,ha,hc⟩:=h3 8 "copse/api.ErrCorrupt" rfl
    obtain rfl:9=g:=Option.some.inj ((show Tryd.prog.globalNamed "copse/api.ErrCorrupt" = some 9 by kernel_rfl).symm.trans hg)
    rw[hc,errW_some,show V.addrOf ks al en 9=a by unfold V.addrOf;rw[show ks.idxOf (en 9)=8 by decide,List.getD_eq_getElem?_getD,ha];rfl]
  have e10:W.cell? ⟨10,0,none⟩=some (errW (V.addrOf ks al en) (some 10)):=by
    obtain⟨g,a,hg,ha,hc⟩:=h3 9 "copse/api.ErrStatus" rfl
    obtain rfl:10=g:=Option.some.inj ((show Tryd.prog.globalNamed "copse/api.ErrStatus" = some 10 by kernel_rfl).symm.trans hg)
    rw[hc,errW_some,show V.addrOf ks al en 10=a by unfold V.addrOf;rw[show ks.idxOf (en 10)=9 by decide,List.getD_eq_getElem?_getD,ha];rfl]
  have e11:W.cell? ⟨11,0,none⟩=some (errW (V.addrOf ks al en) (some 11)):=by
    obtain⟨g,a,hg,ha,hc⟩:=h3 10 "copse/api.ErrTxid" rfl
    obtain rfl:11=g:=Option.some.inj ((show Tryd.prog.globalNamed "copse/api.ErrTxid" = some 11 by kernel_rfl).symm.trans hg)
    rw[hc,errW_some,show V.addrOf ks al en 11=a by unfold V.addrOf;rw[show ks.idxOf (en 11)=10 by decide,List.getD_eq_getElem?_getD,ha];rfl]
  have e1:W.cell? ⟨1,0,none⟩=some (errW (V.addrOf ks al en) (some 12)):=by
    obtain⟨g,a,hg,ha,hc⟩:=h3 11 "copse/api.ErrOrder" rfl
    obtain rfl:1=g:=Option.some.inj ((show Tryd.prog.globalNamed "copse/api.ErrOrder" = some 1 by kernel_rfl).symm.trans hg)
    rw[hc,errW_some,show V.addrOf ks al en 12=a by unfold V.addrOf;rw[show ks.idxOf (en 12)=11 by decide,List.getD_eq_getElem?_getD,ha];rfl]
  have e12:W.cell? ⟨12,0,none⟩=some (errW (V.addrOf ks al en) (some 13)):=by
    obtain⟨g,a,hg,ha,hc⟩:=h3 12 "copse/api.ErrKind" rfl
    obtain rfl:12=g:=Option.some.inj ((show Tryd.prog.globalNamed "copse/api.ErrKind" = some 12 by kernel_rfl).symm.trans hg)
    rw[hc,errW_some,show V.addrOf ks al en 13=a by unfold V.addrOf;rw[show ks.idxOf (en 13)=12 by decide,List.getD_eq_getElem?_getD,ha];rfl]
  exact ⟨V.addrOf ks al en,{
    c0:=e0,
    c4:=e4,
    c2:=e2,
    c3:=e3,
    c5:=e5,
    c6:=e6,
    c7:=e7,
    c8:=e8,
    c9:=e9,
    c10:=e10,
    c11:=e11,
    c1:=e1,
    c12:=e12,
    at_:=fun q=>by unfold V.addrOf;rw[en_en],
    inj:=fun q r h=>V.addrOf_inj hl h2 en_mem h,
    blk:=fun q=>h4 _ (V.addrOf_mem hl en_mem q) }⟩
set_option maxRecDepth 100000 in
/-- What the printed contract gives, for every argument and every world that meets the row's conditions: the same for both forms. -/
theorem contract (H:Type) (enc:TypeId×Value→H) (W:World) (base:Nat) (args:Array Value) (ds gs:List (DataW H)) (before:List MemPlace)
    (hval0 : ∀ (j:Nat) t v,Tryd.f10.params[j]?=some t→args[j]?=some v→Value.okWide Tryd.prog W .any base t v)
    (hW:DataW.Whole enc Tryd.prog Tryd.f10.params.toList Rows.leafNewSpec.vars false W args.toList ds gs before)
    (hsz0:(DataW.weightsEach Tryd.prog (Tryd.f10.params.toList++Rows.leafNewSpec.plain.varTypes Tryd.prog) (ds++gs)).all (·≤reachBytes)=true) (hL:laidMetH Tryd.prog Rows.leafNewRow.laid W) :
    Calls Tryd.prog 10 args W fun e W'=>∃ v,e=.returned v∧Rows.leafNewSpec.post enc Tryd.prog Tryd.f10 false true false false W args v W':=by
  have hval : ∀ (j:Nat) t v,Tryd.f10.params[j]?=some t→args[j]?=some v→Value.okWide Tryd.prog W .any base t v:=hval0
  have hW':=hW
  obtain⟨p,q,hA0,hV,rfl,hfz,hnd⟩:=hW
  have hA:DataW.TrodAll enc Tryd.prog W 0 (fun _=>true) true Tryd.f10.params.toList args.toList ds p:=hA0
  have hsz:(DataW.weightsEach Tryd.prog (Tryd.f10.params.toList++Rows.leafNewSpec.plain.varTypes Tryd.prog) (ds++gs)).all (·≤reachBytes)=true:=hsz0
  rw[Tryd.params10] at hA hval hsz
  obtain⟨v0,vs0,d0,ds0,p0,q0,hargs,rfl,rfl,h0,r0⟩:=trodAll_cons hA
  obtain⟨rfl,rfl,rfl⟩:=trodAll_nil r0
  obtain rfl:args=#[v0]:=by cases args;simp_all
  obtain⟨rfl,rfl⟩:=trodVars_none hV
  obtain⟨E,hE⟩:=glob_of_laid hL
  have b0 : ∀ n∈d0.weights Tryd.prog 24,n≤140737488351232:=fun n hn=>of_decide_eq_true (List.all_eq_true.1 hsz n (DataW.weights_mem_each (j:=0) rfl rfl n hn))
  obtain⟨cs0,rfl,_⟩:=okWide_struct Tryd.underlying24 (hval 0 24 v0 rfl rfl)
  have k0:=h0
  have lt0 : ∀ x∈p0,x.block<W.heap.size:=by obtain⟨m,hm⟩:=k0;exact DataW.trod_lt m _ _ _ hm
  obtain⟨fu0,hf0⟩:=h0
  obtain⟨z0,K0,B0,M0⟩:=(V.opens_struct4 (P:=Tryd.prog) (m0:=1) (m1:=1) (m2:=1) (m3:=1) Tryd.underlying24 (V.opens_slice (P:=Tryd.prog) (d:=k58) (B:=32) 58 Tryd.underlying22 (by kernel_rfl) (by kernel_rfl) opens58) (V.opens_string (P:=Tryd.prog) Tryd.underlying9) (V.opens_string (P:=Tryd.prog) Tryd.underlying9) (V.opens_bool (P:=Tryd.prog) Tryd.underlying4) rfl (by kernel_rfl) rfl (by kernel_rfl) rfl (by kernel_rfl) rfl (by kernel_rfl) (by kernel_rfl)) hf0 b0
  obtain⟨cs0_0,cs0_1,cs0_2,cs0_3,e0,K0_0,K0_1,K0_2,K0_3⟩:=K0
  obtain⟨B0_0,B0_1,B0_2,B0_3⟩:=B0
  obtain⟨A0_0,c0_0,ce0_0,hl0_0,hC0_0⟩:=K0_0
  have ce0_1:_=[Value.string z0.2.1]:=K0_1
  have ce0_2:_=[Value.string z0.2.2.1]:=K0_2
  have ce0_3:_=[Value.bool z0.2.2.2]:=K0_3
  obtain rfl:cs0=#[.slice A0_0 z0.1.length c0_0,.string z0.2.1,.string z0.2.2.1,.bool z0.2.2.2]:=by
    apply Array.toList_inj.1
    have e:=e0
    simp only[ce0_0,ce0_1,ce0_2,ce0_3,List.cons_append,List.nil_append] at e
    exact e
  obtain⟨k,hk⟩:=pure_side z0.1 z0.2.1 z0.2.2.1 z0.2.2.2 B0_0 B0_1 B0_2
  refine (copselaw7_LeafNew.calls k E _ _ z0.1 z0.2.1 z0.2.2.1 z0.2.2.2 true W hE hC0_0 hl0_0 hk).mono fun e W' hq=>?_
  obtain⟨rfl,bel0⟩:=hq
  have bel:Below W.heap.size W W':=bel0
  exact ⟨_,rfl,_,_,_,[],_,[],hW',trodAll_mk1 (shut_bool Tryd.underlying4 _),(trodAll_cons_mk (Below.trod laidOut (by kernel_rfl) (of_decide_eq_true (by kernel_rfl)) k0 bel lt0) trodAll_mk0),rfl,bel.frame _,fun h=>by cases h⟩
theorem door_met (os:Os):laidMet Tryd.prog Rows.leafNewRow.laid ((World.doorLaid Tryd.prog 256 os).forCall (fun _ _=>0) ⟨#[],#[(.agg #[.slice none 0 0,.string ByteArray.empty,.string ByteArray.empty,.bool false]:Value)],[]⟩).memory:=laidMet_of_run' 8 (by kernel_rfl) (by kernel_rfl)
theorem reads (os:Os) {H:Type} (enc:TypeId×Value→H) : ∃ places,DataW.whole enc Tryd.prog ((World.doorLaid Tryd.prog 256 os).forCall (fun _ _=>0) ⟨#[],#[(.agg #[.slice none 0 0,.string ByteArray.empty,.string ByteArray.empty,.bool false]:Value)],[]⟩).memory Tryd.f10.params.toList Rows.leafNewSpec.vars false (#[(.agg #[.slice none 0 0,.string ByteArray.empty,.string ByteArray.empty,.bool false]:Value)]:Array Value).toList 8=some ([.agg [.nil,.lit (.string []),.lit (.string []),.lit (.bool false)]],[],places):=
  ⟨[],by kernel_rfl⟩
set_option maxRecDepth 100000 in
theorem lifted (os:Os) (started:os.Started) (H:Type) (enc:TypeId×Value→H) (F:Stop.Interp) :
    ReturnsInHanded {} Tryd.checked os 10 .any ((OpenSpec.ofChange Rows.leafNewSpec).preRow enc Tryd.prog Tryd.f10 Rows.leafNewRow.domain false Rows.leafNewRow.laid) (((OpenSpec.ofChange Rows.leafNewSpec).at F).post enc Tryd.prog Tryd.f10 false true false false):=by
  obtain⟨places,hx⟩:=reads os enc
  refine returnsInHanded_of_row (C:=Tryd.checked) (s:=OpenSpec.ofChange Rows.leafNewSpec) own started (by kernel_rfl) Tryd.func10
    (witness_row_atRef (enc:=enc) (C:=Tryd.checked) false (World.doorLaid Tryd.prog 256 os) #[(.agg #[.slice none 0 0,.string ByteArray.empty,.string ByteArray.empty,.bool false]:Value)] rfl (by kernel_rfl) (by kernel_rfl) (by kernel_rfl)
      (OpenSpec.preRow_of_cond 8 hx (by kernel_rfl) (fun k hk=>by cases hk) (by kernel_rfl) (door_met os))) ?_
  intro W base args ds gs before hval hW _ hcond hsz hL _ _
  exact contract H enc W base args ds gs before hval hW hsz hL
theorem said:Rows.LeafNewSaid:=
  OpenClaim.holds_of_cond 10 Tryd.f10 rfl rfl rfl rfl rfl rfl rfl ⟨rfl,rfl,rfl,rfl,rfl⟩ rfl rfl rfl rfl rfl (by kernel_rfl) Tryd.func10 (by kernel_rfl)
    (of_decide_eq_true (by kernel_rfl)) (by unfold Func.isWrapper;first|(rw[if_pos (by decide +kernel)];kernel_rfl)|(rw[if_neg (by decide +kernel)];exact ⟨rfl,rfl⟩))
    (fun os started H enc _ F=>by rw[OpenClaim.pre_eq_preRow];exact lifted os started H enc F)
theorem plain (f:FuncId) (fn:Func) (hf:Tryd.pinned.checked.prog.funcNamed "copse/copselaw7.LeafNew" = some f) (hfn:Tryd.pinned.checked.prog.funcs[f]?=some fn) :
    true=Tryd.pinned.checked.prog.looks []∧∀ (j:Nat) t,fn.params[j]?=some t→Tryd.pinned.checked.prog.wantsStandIn t=false:=by
  obtain rfl:f=10:=Option.some.inj ((show Tryd.prog.funcNamed "copse/copselaw7.LeafNew" = some 10 by kernel_rfl).symm.trans hf) |>.symm
  obtain rfl:fn=Tryd.f10:=(Option.some.inj (Tryd.func10.symm.trans hfn)).symm
  refine ⟨by kernel_rfl,fun j t ht=>?_⟩
  rw[Tryd.params10] at ht
  have hm:t∈[24]:=by simpa using Array.mem_of_getElem? ht
  have hall:([24].all fun u=>!Tryd.prog.wantsStandIn u)=true:=by kernel_rfl
  exact (show Tryd.prog.wantsStandIn t=false by simpa using List.all_eq_true.1 hall t hm)
/-- The tied card. -/
theorem card:Rows.LeafNewCardSaid:=
  Claim7.holds_tied_plain_at .later [] _ _ _ _ said (fun _ h=>by cases h) (by kernel_rfl) (fun _ h=>by cases h) leafNew_row_tie rfl ⟨rfl,rfl⟩ (by kernel_rfl) rfl plain (by kernel_rfl)
end Go.Proofs.YtdailhlghlledaaDoor.XLeafNew
namespace Go.Proofs.YtdailhlghlledaaDoor
/-- The statement, under a short name. -/
theorem leafNew_holds:Rows.LeafNewCardSaid:=XLeafNew.card
#print axioms leafNew_holds
end Go.Proofs.YtdailhlghlledaaDoor
