-- Printed for this claim by a program (wip/printx) that builds on the kit's print. Not trusted: Lean checks it.
-- slim
import Derived.Test.YtdailhlghlledaaDoorXLeafNewx0
namespace Go.Proofs.YtdailhlghlledaaDoor.XLeafNew
open Go.RowKit Go.Proofs.YtdailhlghlledaaDoorW.PrintWords Go.Proofs.YtdailhlghlledaaDoorW.PrintLast Go.Proofs.YtdailhlghlledaaDoorW.PrintMore
attribute [local go_sem] max2_int min2_int max_two min_two max_three min_three max_four min_four   -- for this text's walks alone
set_option linter.unusedVariables false
set_option linter.unusedSimpArgs false

-- NOT PRINTED: function 47 (api_Pair)

/-! ### leaf_Find: function 28 -/
def leaf_Find.ge (key:ByteArray) (p:S58):Bool:=!(Op.bytesLess p.f0.toList key.toList)
def leaf_Find.idx (l0:List S58) (key:ByteArray):Nat:=l0.findIdx (leaf_Find.ge key)
def leaf_Find.f (l0:List S58) (a1:ByteArray):Option (Int×Bool):=
 if l0.length<4611686018427387904 then
  if leaf_Find.idx l0 a1<l0.length then some ((leaf_Find.idx l0 a1:Int),((rd_T58 l0 (leaf_Find.idx l0 a1:Int)).f0.toList==a1.toList)) else some ((l0.length:Int),false)
 else none
set_option maxHeartbeats 8000000 in
set_option maxRecDepth 100000 in
theorem leaf_Find.clo (key pk pv:ByteArray) (b:Nat) (w:World) (hv:w.cell? ⟨b,0,none⟩=some (.string key)) :
  Calls Tryd.prog 48 #[.agg #[.string pk,.string pv],.pointer (some ⟨b,0,none⟩)] w fun e w'=>e=.returned (.bool (!(Op.bytesLess pk.toList key.toList)))∧Below w.heap.size w w':=by
 have hu58:=Tryd.underlying58
 have hv2:=((below_alloc (Below.refl _ w) (.cells #[.string pk,.string pv] 58)).cell (World.block_lt_of_cell? w _ hv)).trans hv
 go_enter Tryd.func48,Tryd.ntmps48
 go_wp2
 go_ret
 exact ⟨rfl,below_alloc (Below.refl _ _) _⟩
set_option maxHeartbeats 8000000 in
set_option maxRecDepth 100000 in
theorem leaf_Find.index (key:ByteArray) (b:Nat) (A0:Option Addr) (c0:Nat) (l0:List S58) (w:World) (hv:w.cell? ⟨b,0,none⟩=some (.string key)) (hr0:Kd.C k58 w A0 l0.length l0) (hlen:l0.length<4611686018427387904) (r:Int) (hr:r=if leaf_Find.idx l0 key<l0.length then (leaf_Find.idx l0 key:Int) else -1) :
  Calls Tryd.prog 47 #[.slice A0 l0.length c0,.func (.func 48) #[] #[.pointer (some ⟨b,0,none⟩)]] w fun e w'=>e=.returned (.int .i64 r)∧Below w.heap.size w w':=by
 have hu58:=Tryd.underlying58
 have HR0:=Aside0.mk hr0
 have HV:=Aside0.mk hv
 have HL:=Aside0.mk hlen
 have HR:=Aside0.mk hr
 clear hr0 hv hlen hr
 have HB:=Aside0.mk (Below.refl w.heap.size w)
 go_enter Tryd.func47,Tryd.ntmps47
 go_wp2
 go_loopg [8] (l0.length+1) (fun kq v8 w'=>∃ i:Nat,v8=.int .i64 (i:Int)∧Aside0 (i+kq=l0.length+1∧i≤l0.length∧∀ j (hj:j<l0.length),j<i→leaf_Find.ge key l0[j]=false)∧Aside0 (Below w.heap.size w w'))
 case atStart=>exact ⟨0,rfl,⟨by omega,by omega,fun j _ h=>by omega⟩,HB⟩
 case round=>
  obtain⟨i,rfl,HA,HB⟩:=hrel
  cases gk with
  |zero=>exact absurd HA.out (by omega)
  |succ k1=>
   by_cases c2:i<l0.length
   ·
    have c2b:decide ((i:Int)<(l0.length:Int))=true:=decide_eq_true (by omega)
    have c2d:decide (i<l0.length)=true:=decide_eq_true c2
    have hn:wrap64 ((i:Int)+1)=((i+1:Nat):Int):=by have:=HL.out;unfold wrap64;omega
    have p:0≤(i:Int):=by omega
    have q:(i:Int)<(l0.length:Int):=by omega
    obtain⟨ad,e,hx_0,hx_1⟩:=at_T58 HR0.out (i:Int) p q
    cases e
    rw[Int.toNat_natCast] at hx_0 hx_1
    replace hx_0:=(HB.out.cell (World.block_lt_of_cell? w _ hx_0)).trans hx_0
    replace hx_1:=(HB.out.cell (World.block_lt_of_cell? w _ hx_1)).trans hx_1
    have hv:=(HB.out.cell (World.block_lt_of_cell? w _ HV.out)).trans HV.out
    have pb:=eq_true p
    have qb:=eq_true q
    have hrd:rd_T58 l0 (i:Int)=l0[i]:=by
     unfold rd_T58
     rw[Int.toNat_natCast,List.getD_eq_getElem?_getD,List.getElem?_eq_getElem c2]
     rfl
    cases hg:leaf_Find.ge key l0[i] with
    |false=>
     have hb:(!(Op.bytesLess l0[i].f0.toList key.toList))=false:=hg
     go_wp2_with (first|(go_at_call 48;refine (leaf_Find.clo key _ _ b _ hv).mono ?_;rintro e w1 ⟨rfl,hd⟩;rw[hb];have HB2:=Aside0.mk (below_step HB.out hd);clear hd))
     go_roundg k1
     case measure=>have:=HA.out;omega
     case rel=>exact ⟨i+1,by rw[hn],⟨by have:=HA.out.1;omega,by omega,fun j hj hji=>by
      by_cases hjj:j=i
      ·
       subst hjj;exact hg
      ·
       exact HA.out.2.2 j hj (by omega)⟩,HB2⟩
    |true=>
     have hb:(!(Op.bytesLess l0[i].f0.toList key.toList))=true:=hg
     have hidx:leaf_Find.idx l0 key=i:=(List.findIdx_eq c2).2 ⟨hg,fun j hji=>HA.out.2.2 j (by omega) hji⟩
     go_wp2_with (first|(go_at_call 48;refine (leaf_Find.clo key _ _ b _ hv).mono ?_;rintro e w1 ⟨rfl,hd⟩;rw[hb];have HB2:=Aside0.mk (below_step HB.out hd);clear hd))
     go_ret
     refine ⟨?_,HB2.out⟩
     rw[HR.out,hidx,if_pos c2]
     rfl
   ·
    have c2b:decide ((i:Int)<(l0.length:Int))=false:=decide_eq_false (by omega)
    have c2d:decide (i<l0.length)=false:=decide_eq_false c2
    have hidx : ¬ leaf_Find.idx l0 key<l0.length:=by
     unfold leaf_Find.idx
     intro hlt
     have h1:=List.findIdx_getElem (p:=leaf_Find.ge key) (xs:=l0) (w:=hlt)
     have h2:=HA.out.2.2 _ hlt (by have:=HA.out.2.1;omega)
     rw[h1] at h2
     exact absurd h2 (by simp)
    go_wp2
    go_ret
    refine ⟨?_,HB.out⟩
    rw[HR.out,if_neg hidx]
    rfl
set_option maxHeartbeats 8000000 in
set_option maxRecDepth 100000 in
theorem leaf_Find.calls (A0:Option Addr) (c0:Nat) (l0:List (S58)) (a1:ByteArray) (r1:Int) (r2:Bool) (w:World) (hr0:Kd.C k58 w A0 l0.length l0) (hc0:l0.length≤c0) (h:leaf_Find.f l0 a1=some (r1,r2)) :
  Calls Tryd.prog 28 #[.slice A0 l0.length c0,.string a1] w fun e w'=>e=.returned (.tuple #[.int .i64 r1,.bool r2])∧Below w.heap.size w w':=by
 have hu58:=Tryd.underlying58
 unfold leaf_Find.f at h
 by_cases hlen:l0.length<4611686018427387904
 ·
  rw[if_pos hlen] at h
  have hmf : ∀ (fn:Fn) (first cap:Array Value) (w:World),(Instr.makeFunc fn first cap).run Tryd.prog w=.ok (.func fn first cap) w:=fun _ _ _ _=>rfl
  have hb0:=below_alloc (Below.refl w.heap.size w) (.cells #[.string a1] 9)
  have hv:(w.alloc (.cells #[.string a1] 9)).cell? ⟨w.heap.size,0,none⟩=some (.string a1):=by
   have h:=heap_alloc_new w (.cells #[.string a1] 9)
   unfold World.cell?
   simp only[h]
   rfl
  have hr1:=Kd.C_below hr0 hb0
  by_cases hi:leaf_Find.idx l0 a1<l0.length
  ·
   rw[if_pos hi] at h
   obtain⟨i,hidx⟩ : ∃ i,i=leaf_Find.idx l0 a1:=⟨_,rfl⟩
   rw[←hidx] at h hi
   simp only[Option.some.injEq,Prod.mk.injEq] at h
   obtain⟨rfl,rfl⟩:=h
   have hI:=leaf_Find.index a1 w.heap.size A0 c0 l0 _ hv hr1 hlen (i:Int) (by rw[←hidx,if_pos hi])
   clear hidx
   have p:0≤(i:Int):=by omega
   have q:(i:Int)<(l0.length:Int):=by omega
   have c1b:decide ((i:Int)<0)=false:=decide_eq_false (by omega)
   obtain⟨ad,e,hx_0,hx_1⟩:=at_T58 hr0 (i:Int) p q
   cases e
   rw[Int.toNat_natCast] at hx_0 hx_1
   have pb:=eq_true p
   have qb:=eq_true q
   go_enter Tryd.func28,Tryd.ntmps28
   go_wp2_with (first|(go_at_call 47;refine hI.mono ?_;rintro e w1 ⟨rfl,hd⟩;replace hx_0:=((hb0.trans (hd.mono (by simp))).cell (World.block_lt_of_cell? w _ hx_0)).trans hx_0;have hv1:=(hd.cell (World.block_lt_of_cell? _ _ hv)).trans hv;have HD:=Aside0.mk (hb0.trans (hd.mono (by simp)));clear hd))
   repeat (go_quiet (fail);try go_wp2)
   go_ret2
   exact ⟨rfl,by first|exact pw_below_drewN HD.out _|exact HD.out⟩
  ·
   rw[if_neg hi] at h
   simp only[Option.some.injEq,Prod.mk.injEq] at h
   obtain⟨rfl,rfl⟩:=h
   have hI:=leaf_Find.index a1 w.heap.size A0 c0 l0 _ hv hr1 hlen (-1) (by rw[if_neg hi])
   go_enter Tryd.func28,Tryd.ntmps28
   go_wp2_with (first|(go_at_call 47;refine hI.mono ?_;rintro e w1 ⟨rfl,hd⟩;have HD:=Aside0.mk (hb0.trans (hd.mono (by simp)));clear hd))
   go_ret2
   exact ⟨rfl,HD.out⟩
 ·
  rw[if_neg hlen] at h
  exact absurd h (by simp)

/-! ### leaf_Set: function 27 -/
def leaf_Set.f (l0:List (S58)) (a1:ByteArray) (a2:ByteArray):Option ((List (S58))):=(leaf_Find.f l0 a1).bind fun bt217=>(if 0≤bt217.1 then (if bt217.1≤(l0.length:Int) then ((some (l0.take (bt217.1:Int).toNat:List (S58))).bind fun y219=>(if ([]:List (S58)).length+y219.length<4398046511104 then ((some (([]:List (S58))++y219:List (S58))).bind fun y223=>(if y223.length<4398046511104 then ((some (y223++[(⟨a1,a2⟩:S58)]:List (S58))).bind fun y226=>(if bt217.2=true then (if 0≤(wrap64 (bt217.1+1)) then (if (wrap64 (bt217.1+1))≤(l0.length:Int) then ((some (l0.drop ((wrap64 (bt217.1+1)):Int).toNat:List (S58))).bind fun y229=>(if y226.length+y229.length<4398046511104 then (some (y226++y229)) else (none))) else (none)) else (none)) else ((some (l0.drop (bt217.1:Int).toNat:List (S58))).bind fun y236=>(if y226.length+y236.length<4398046511104 then (some (y226++y236)) else (none))))) else (none))) else (none))) else (none)) else (none))
set_option maxHeartbeats 8000000 in
set_option maxRecDepth 100000 in
theorem leaf_Set.calls (A0:Option Addr) (c0:Nat) (l0:List (S58)) (a1:ByteArray) (a2:ByteArray) (r:List (S58)) (w:World) (hr0:Kd.C k58 w A0 l0.length l0) (hc0:l0.length≤c0) (h:leaf_Set.f l0 a1 a2=some r) :
  Calls Tryd.prog 27 #[.slice A0 l0.length c0,.string a1,.string a2] w fun e w'=>∃ v0_:Value,e=.returned (v0_)∧Kd.R k58 58 w' w.heap.size (fun _=>True) v0_ r∧Below w.heap.size w w':=by
 have hu58:=Tryd.underlying58
 have HR0:=Aside0.mk hr0
 have HC0:=Aside0.mk hc0
 clear hr0 hc0
 have HB:=Aside0.mk (Below.refl w.heap.size w)
 have H:((leaf_Find.f l0 a1).bind fun bt217=>(if 0≤bt217.1 then (if bt217.1≤(l0.length:Int) then ((some (l0.take (bt217.1:Int).toNat:List (S58))).bind fun y219=>(if ([]:List (S58)).length+y219.length<4398046511104 then ((some (([]:List (S58))++y219:List (S58))).bind fun y223=>(if y223.length<4398046511104 then ((some (y223++[(⟨a1,a2⟩:S58)]:List (S58))).bind fun y226=>(if bt217.2=true then (if 0≤(wrap64 (bt217.1+1)) then (if (wrap64 (bt217.1+1))≤(l0.length:Int) then ((some (l0.drop ((wrap64 (bt217.1+1)):Int).toNat:List (S58))).bind fun y229=>(if y226.length+y229.length<4398046511104 then (some (y226++y229)) else (none))) else (none)) else (none)) else ((some (l0.drop (bt217.1:Int).toNat:List (S58))).bind fun y236=>(if y226.length+y236.length<4398046511104 then (some (y226++y236)) else (none))))) else (none))) else (none))) else (none)) else (none)))=some r:=h
 clear h
 replace H:=Option.bind_eq_some_iff.mp H
 obtain⟨⟨t217,t218⟩,A40,H⟩:=H
 try dsimp only at H
 have A4:=Aside0.mk A40
 clear A40
 by_cases c5:0≤t217
 ·
  rw[if_pos c5] at H
  have c5b0:=eq_true c5
  have c5b1:decide (0≤t217)=true:=decide_eq_true c5
  clear c5
  by_cases c6:t217≤(l0.length:Int)
  ·
   rw[if_pos c6] at H
   have c6b0:=eq_true c6
   have c6b1:decide (t217≤(l0.length:Int))=true:=decide_eq_true c6
   clear c6
   obtain⟨y219,hy219⟩ : ∃ y_:List (S58),y_=(l0.take (t217:Int).toNat):=⟨_,rfl⟩
   replace H:(if ([]:List (S58)).length+y219.length<4398046511104 then ((some (([]:List (S58))++y219:List (S58))).bind fun y223=>(if y223.length<4398046511104 then ((some (y223++[(⟨a1,a2⟩:S58)]:List (S58))).bind fun y226=>(if t218=true then (if 0≤(wrap64 (t217+1)) then (if (wrap64 (t217+1))≤(l0.length:Int) then ((some (l0.drop ((wrap64 (t217+1)):Int).toNat:List (S58))).bind fun y229=>(if y226.length+y229.length<4398046511104 then (some (y226++y229)) else (none))) else (none)) else (none)) else ((some (l0.drop (t217:Int).toNat:List (S58))).bind fun y236=>(if y226.length+y236.length<4398046511104 then (some (y226++y236)) else (none))))) else (none))) else (none))=some r:=by first|(rw[hy219];with_reducible exact H)|(have H2_:=(Option.bind_some _ _).symm.trans H;rw[hy219];with_reducible exact H2_)|(have H2_:=(Option.bind_some _ _).symm.trans H;with_reducible exact H2_)|with_reducible exact H|(rw[hy219];exact H)|exact H
   have Ny219:=Aside0.mk hy219
   clear hy219
   by_cases c7:([]:List (S58)).length+y219.length<4398046511104
   ·
    rw[if_pos c7] at H
    have LMc7:=Aside0.mk c7
    clear c7
    obtain⟨y223,hy223⟩ : ∃ y_:List (S58),y_=(([]:List (S58))++y219):=⟨_,rfl⟩
    replace H:(if y223.length<4398046511104 then ((some (y223++[(⟨a1,a2⟩:S58)]:List (S58))).bind fun y226=>(if t218=true then (if 0≤(wrap64 (t217+1)) then (if (wrap64 (t217+1))≤(l0.length:Int) then ((some (l0.drop ((wrap64 (t217+1)):Int).toNat:List (S58))).bind fun y229=>(if y226.length+y229.length<4398046511104 then (some (y226++y229)) else (none))) else (none)) else (none)) else ((some (l0.drop (t217:Int).toNat:List (S58))).bind fun y236=>(if y226.length+y236.length<4398046511104 then (some (y226++y236)) else (none))))) else (none))=some r:=by first|(rw[hy223];with_reducible exact H)|(have H2_:=(Option.bind_some _ _).symm.trans H;rw[hy223];with_reducible exact H2_)|(have H2_:=(Option.bind_some _ _).symm.trans H;with_reducible exact H2_)|with_reducible exact H|(rw[hy223];exact H)|exact H
    have Ny223:=Aside0.mk hy223
    clear hy223
    by_cases c8:y223.length<4398046511104
    ·
     rw[if_pos c8] at H
     have LMc8:=Aside0.mk c8
     clear c8
     obtain⟨y226,hy226⟩ : ∃ y_:List (S58),y_=(y223++[(⟨a1,a2⟩:S58)]):=⟨_,rfl⟩
     replace H:(if t218=true then (if 0≤(wrap64 (t217+1)) then (if (wrap64 (t217+1))≤(l0.length:Int) then ((some (l0.drop ((wrap64 (t217+1)):Int).toNat:List (S58))).bind fun y229=>(if y226.length+y229.length<4398046511104 then (some (y226++y229)) else (none))) else (none)) else (none)) else ((some (l0.drop (t217:Int).toNat:List (S58))).bind fun y236=>(if y226.length+y236.length<4398046511104 then (some (y226++y236)) else (none))))=some r:=by first|(rw[hy226];with_reducible exact H)|(have H2_:=(Option.bind_some _ _).symm.trans H;rw[hy226];with_reducible exact H2_)|(have H2_:=(Option.bind_some _ _).symm.trans H;with_reducible exact H2_)|with_reducible exact H|(rw[hy226];exact H)|exact H
     have Ny226:=Aside0.mk hy226
     clear hy226
     by_cases c9:t218=true
     ·
      subst c9
      have H1:(if 0≤(wrap64 (t217+1)) then (if (wrap64 (t217+1))≤(l0.length:Int) then ((some (l0.drop ((wrap64 (t217+1)):Int).toNat:List (S58))).bind fun y229=>(if y226.length+y229.length<4398046511104 then (some (y226++y229)) else (none))) else (none)) else (none))=some r:=by rw[if_pos rfl] at H;exact H
      clear H
      have H:=H1
      clear H1
      obtain⟨ji10,hji10⟩ : ∃ j_:Int,(wrap64 (t217+1))=j_:=⟨_,rfl⟩
      replace H:(if 0≤(ji10) then (if (ji10)≤(l0.length:Int) then ((some (l0.drop ((ji10):Int).toNat:List (S58))).bind fun y229=>(if y226.length+y229.length<4398046511104 then (some (y226++y229)) else (none))) else (none)) else (none))=some r:=by first|(rw[hji10] at H;exact H)|(simp only[hji10] at H ⊢;exact H)
      (try rw[hji10] at A4)
      have hji10w:(IntKind.i64.wrap (t217+1))=ji10:=(i64_w _).trans hji10
      by_cases c11:0≤(ji10)
      ·
       rw[if_pos c11] at H
       have c11b0:=eq_true c11
       have c11b1:decide (0≤(ji10))=true:=decide_eq_true c11
       clear c11
       by_cases c12:(ji10)≤(l0.length:Int)
       ·
        rw[if_pos c12] at H
        have c12b0:=eq_true c12
        have c12b1:decide ((ji10)≤(l0.length:Int))=true:=decide_eq_true c12
        clear c12
        obtain⟨y229,hy229⟩ : ∃ y_:List (S58),y_=(l0.drop ((ji10):Int).toNat):=⟨_,rfl⟩
        replace H:(if y226.length+y229.length<4398046511104 then (some (y226++y229)) else (none))=some r:=by first|(rw[hy229];with_reducible exact H)|(have H2_:=(Option.bind_some _ _).symm.trans H;rw[hy229];with_reducible exact H2_)|(have H2_:=(Option.bind_some _ _).symm.trans H;with_reducible exact H2_)|with_reducible exact H|(rw[hy229];exact H)|exact H
        have Ny229:=Aside0.mk hy229
        clear hy229
        by_cases c13:y226.length+y229.length<4398046511104
        ·
         rw[if_pos c13] at H
         have LMc13:=Aside0.mk c13
         clear c13
         obtain⟨y233,hy233⟩ : ∃ y_:List (S58),y_=(y226++y229):=⟨_,rfl⟩
         replace H:(some y233)=some r:=by first|(rw[hy233];with_reducible exact H)|(have H2_:=(Option.bind_some _ _).symm.trans H;rw[hy233];with_reducible exact H2_)|(have H2_:=(Option.bind_some _ _).symm.trans H;with_reducible exact H2_)|with_reducible exact H|(rw[hy233];exact H)|exact H
         have Ny233:=Aside0.mk hy233
         clear hy233
         obtain rfl:=Option.some.inj H
         go_enter Tryd.func27,Tryd.ntmps27
         go_wp2_with (first|((with_reducible refine gate_callee (f:=28) rfl ?_);refine goesL_ (some 13) rfl rfl Tryd.func28 (by kernel_rfl) rfl #[.slice A0 l0.length c0,.string a1] rfl (by (try simp only[ml_]);first|done|rfl|(simp only[List.length_drop,List.length_take];rfl)) ?_;(with_reducible refine (leaf_Find.calls _ _ l0 a1 t217 true _ ?side1 ?side2 A4.out).mono ?_);(case side1=>exact upC HR0.out);(case side2=>exact HC0.out);rintro e w14 ⟨rfl,hb⟩;refine ⟨_,rfl,?_⟩;have n0_:=Aside0.mk (below_step (upB HB.out) hb);clear HB;have HB:=n0_;clear n0_;(try clear hb);(try clear hb2);(try clear hk);(try clear hi);have q15:(t217:Int)≤((l0.length:Int):Int):=of_decide_eq_true (by assumption);obtain⟨i015,hi015,_,hsz15,_⟩:=info_parts info58;have hroom15:l0.length≤c0:=HC0.out;have hC15:Kd.C k58 _ A0 l0.length l0:=HR0.out;have hcut15:=cut_to (P:=Tryd.prog) 22 58 .i64 Tryd.underlying22 hi015 A0 l0.length c0 t217 (of_decide_eq_true (by assumption)) q15 hroom15;have hr15:=Kd.C_take (m:=(t217:Int).toNat) hC15 (by omega);have hy15:y219.length=(t217:Int).toNat:=(by rw[Ny219.out,List.length_take];omega);rw[←Ny219.out] at hr15;rw[←hy15] at hcut15;have HR222:=Aside0.mk hr15;have HC222:=Aside0.mk (show y219.length≤c0 from by omega);clear hr15 hC15 hroom15 hi015 hsz15;have KY15:=Aside0.mk hy15;clear hy15;replace q15:=eq_true q15)|((with_reducible refine gate_builtin (b:=.append) (xs:=#[.const (.slice none 0 0),.tmp 18]) rfl ?_);at_builtin;refine Kd.R_append_rows k58 (w0:=w) w.heap.size rfl (.const (.slice none 0 0)) (.tmp 18) 22 58 (.agg #[(.string ⟨#[]⟩),(.string ⟨#[]⟩)]) 32 rfl Tryd.underlying22 info58 rfl (by decide) (by omega) (.slice none 0 0) ([]:List (S58)) y219 _ _ _ (fun _=>True) (fun _=>False) rfl rfl ?aO ?aR (fun _ _ h=>h) (fun _ h=>h.elim) ?aF ?aB ?aS ?aL ?_;(case aR=>exact upC (Kd.C_below HR222.out HB.out));(case aB=>exact (upB HB.out));(case aF=>exact (fun _ _=>trivial));(case aO=>exact ((Kd.R_nil _ _ _ _ (fun _=>True))));(case aS=>exact (below_size (upB HB.out)));(case aL=>have:=LMc7.out;omega);intro v224 w16 ho hb hg hat;rw[←Ny223.out] at ho;have n0_:=Aside0.mk (hb);have n1_:=Aside0.mk (ho);clear HB;have HB:=n0_;have HO225:=n1_;clear n0_ n1_;clear ho hb hg hat)|((with_reducible refine gate_builtin (b:=.append) (xs:=#[.tmp 20,.tmp 24]) rfl ?_);at_builtin;refine Kd.R_append k58 (w0:=w) w.heap.size rfl (.tmp 20) (.tmp 24) 22 58 (.agg #[(.string ⟨#[]⟩),(.string ⟨#[]⟩)]) 32 rfl Tryd.underlying22 info58 rfl (by decide) (by omega) v224 y223 (⟨a1,a2⟩:S58) [.string a1,.string a2] (fun _=>True) (fun _=>False) rfl rfl ?aP (fun _ hk=>hk.elim) ?aF ?aO ?aB ?aS ?aL ?_;(case aP=>exact k58_mkM _ _ _ (⟨a1,a2⟩:S58));(case aB=>exact (upB HB.out));(case aF=>exact (fun _ _=>trivial));(case aO=>exact (upK HO225.out));(case aS=>exact (below_size (upB HB.out)));(case aL=>have:=LMc8.out;omega);intro v227 w17 ho hb hg hat;rw[←Ny226.out] at ho;have n0_:=Aside0.mk (hb);have n1_:=Aside0.mk (ho);clear HB;clear HO225;have HB:=n0_;have HO228:=n1_;clear n0_ n1_;clear ho hb hg hat;have q18:((ji10):Int)≤((l0.length:Int):Int):=of_decide_eq_true (by assumption);obtain⟨i018,hi018,_,hsz18,_⟩:=info_parts info58;have hroom18:l0.length≤c0:=HC0.out;have hC18:Kd.C k58 _ A0 l0.length l0:=HR0.out;have q018:(0:Int)≤((ji10):Int):=of_decide_eq_true (by assumption);have hcut18:=cut_from (P:=Tryd.prog) 22 58 .i64 Tryd.underlying22 hi018 2 hsz18 A0 l0.length c0 (ji10) q018 q18;have hr18:=Kd.C_drop (m:=((ji10):Int).toNat) (c:=c0) hC18 (by omega) hroom18;obtain⟨A18,hA18⟩ : ∃ A1,A1=(if c0=((ji10):Int).toNat then A0 else (A0:Option Addr).map (·.add (((ji10):Int).toNat*2))):=⟨_,rfl⟩;obtain⟨c18,hc18⟩ : ∃ c1,c1=c0 - ((ji10):Int).toNat:=⟨_,rfl⟩;have hy18:y229.length=l0.length - ((ji10):Int).toNat:=(by rw[Ny229.out,List.length_drop] <;> omega);rw[show (l0).drop ((ji10):Int).toNat=y229 from Ny229.out.symm] at hr18;replace hr18:Kd.C k58 _ A18 y229.length y229:=(by rw[hA18];exact hr18);rw[←hy18,←hA18,←hc18] at hcut18;have HR232:=Aside0.mk hr18;have HC232:=Aside0.mk (show y229.length≤c18 from by rw[hy18,hc18];exact Nat.sub_le_sub_right hroom18 _);clear hr18 hC18 hroom18 hi018 hsz18 hc18;have KY18:=Aside0.mk hy18;have KA18:=Aside0.mk hA18;clear hy18 hA18;replace q18:=eq_true q18)|((with_reducible refine gate_builtin (b:=.append) (xs:=#[.tmp 29,.tmp 32]) rfl ?_);at_builtin;refine Kd.R_append_rows k58 (w0:=w) w.heap.size rfl (.tmp 29) (.tmp 32) 22 58 (.agg #[(.string ⟨#[]⟩),(.string ⟨#[]⟩)]) 32 rfl Tryd.underlying22 info58 rfl (by decide) (by omega) v227 y226 y229 _ _ _ (fun _=>True) (fun _=>False) rfl rfl ?aO ?aR (fun _ _ h=>h) (fun _ h=>h.elim) ?aF ?aB ?aS ?aL ?_;(case aR=>exact upC (Kd.C_below HR232.out HB.out));(case aB=>exact (upB HB.out));(case aF=>exact (fun _ _=>trivial));(case aO=>exact (upK HO228.out));(case aS=>exact (below_size (upB HB.out)));(case aL=>have:=LMc13.out;omega);intro v234 w19 ho hb hg hat;rw[←Ny233.out] at ho;have n0_:=Aside0.mk (hb);have n1_:=Aside0.mk (ho);clear HB;clear HO228;have HB:=n0_;have HO235:=n1_;clear n0_ n1_;clear ho hb hg hat))
         go_ret
         exact ⟨_,by first|rfl|(simp[errW_none,errW_some] <;> rfl)|(simp only[←hji10];first|rfl|(simp[errW_none,errW_some] <;> rfl))|(simp[*,errW_none,errW_some] <;> rfl),by (with_reducible repeat (first|apply Kd.R_alloc|apply Kd.R_drewN|apply Kd.R_drew));exact HO235.out,upB HB.out⟩
        ·
         rw[if_neg c13] at H
         exact absurd H (by simp)
       ·
        rw[if_neg c12] at H
        exact absurd H (by simp)
      ·
       rw[if_neg c11] at H
       exact absurd H (by simp)
     ·
      replace c9:=Bool.eq_false_iff.mpr c9
      subst c9
      have H1:((some (l0.drop (t217:Int).toNat:List (S58))).bind fun y236=>(if y226.length+y236.length<4398046511104 then (some (y226++y236)) else (none)))=some r:=by rw[if_neg (show ¬ (false=true) by decide)] at H;exact H
      clear H
      have H:=H1
      clear H1
      have c20b0:=eq_true (of_decide_eq_true (by assumption):0≤t217)
      have c21b0:=eq_true (of_decide_eq_true (by assumption):t217≤(l0.length:Int))
      obtain⟨y236,hy236⟩ : ∃ y_:List (S58),y_=(l0.drop (t217:Int).toNat):=⟨_,rfl⟩
      replace H:(if y226.length+y236.length<4398046511104 then (some (y226++y236)) else (none))=some r:=by first|(rw[hy236];with_reducible exact H)|(have H2_:=(Option.bind_some _ _).symm.trans H;rw[hy236];with_reducible exact H2_)|(have H2_:=(Option.bind_some _ _).symm.trans H;with_reducible exact H2_)|with_reducible exact H|(rw[hy236];exact H)|exact H
      have Ny236:=Aside0.mk hy236
      clear hy236
      by_cases c22:y226.length+y236.length<4398046511104
      ·
       rw[if_pos c22] at H
       have LMc22:=Aside0.mk c22
       clear c22
       obtain⟨y240,hy240⟩ : ∃ y_:List (S58),y_=(y226++y236):=⟨_,rfl⟩
       replace H:(some y240)=some r:=by first|(rw[hy240];with_reducible exact H)|(have H2_:=(Option.bind_some _ _).symm.trans H;rw[hy240];with_reducible exact H2_)|(have H2_:=(Option.bind_some _ _).symm.trans H;with_reducible exact H2_)|with_reducible exact H|(rw[hy240];exact H)|exact H
       have Ny240:=Aside0.mk hy240
       clear hy240
       obtain rfl:=Option.some.inj H
       go_enter Tryd.func27,Tryd.ntmps27
       go_wp2_with (first|((with_reducible refine gate_callee (f:=28) rfl ?_);refine goesL_ (some 13) rfl rfl Tryd.func28 (by kernel_rfl) rfl #[.slice A0 l0.length c0,.string a1] rfl (by (try simp only[ml_]);first|done|rfl|(simp only[List.length_drop,List.length_take];rfl)) ?_;(with_reducible refine (leaf_Find.calls _ _ l0 a1 t217 false _ ?side1 ?side2 A4.out).mono ?_);(case side1=>exact upC HR0.out);(case side2=>exact HC0.out);rintro e w23 ⟨rfl,hb⟩;refine ⟨_,rfl,?_⟩;have n0_:=Aside0.mk (below_step (upB HB.out) hb);clear HB;have HB:=n0_;clear n0_;(try clear hb);(try clear hb2);(try clear hk);(try clear hi);have q24:(t217:Int)≤((l0.length:Int):Int):=of_decide_eq_true (by assumption);obtain⟨i024,hi024,_,hsz24,_⟩:=info_parts info58;have hroom24:l0.length≤c0:=HC0.out;have hC24:Kd.C k58 _ A0 l0.length l0:=HR0.out;have hcut24:=cut_to (P:=Tryd.prog) 22 58 .i64 Tryd.underlying22 hi024 A0 l0.length c0 t217 (of_decide_eq_true (by assumption)) q24 hroom24;have hr24:=Kd.C_take (m:=(t217:Int).toNat) hC24 (by omega);have hy24:y219.length=(t217:Int).toNat:=(by rw[Ny219.out,List.length_take];omega);rw[←Ny219.out] at hr24;rw[←hy24] at hcut24;have HR222:=Aside0.mk hr24;have HC222:=Aside0.mk (show y219.length≤c0 from by omega);clear hr24 hC24 hroom24 hi024 hsz24;have KY24:=Aside0.mk hy24;clear hy24;replace q24:=eq_true q24)|((with_reducible refine gate_builtin (b:=.append) (xs:=#[.const (.slice none 0 0),.tmp 18]) rfl ?_);at_builtin;refine Kd.R_append_rows k58 (w0:=w) w.heap.size rfl (.const (.slice none 0 0)) (.tmp 18) 22 58 (.agg #[(.string ⟨#[]⟩),(.string ⟨#[]⟩)]) 32 rfl Tryd.underlying22 info58 rfl (by decide) (by omega) (.slice none 0 0) ([]:List (S58)) y219 _ _ _ (fun _=>True) (fun _=>False) rfl rfl ?aO ?aR (fun _ _ h=>h) (fun _ h=>h.elim) ?aF ?aB ?aS ?aL ?_;(case aR=>exact upC (Kd.C_below HR222.out HB.out));(case aB=>exact (upB HB.out));(case aF=>exact (fun _ _=>trivial));(case aO=>exact ((Kd.R_nil _ _ _ _ (fun _=>True))));(case aS=>exact (below_size (upB HB.out)));(case aL=>have:=LMc7.out;omega);intro v224 w25 ho hb hg hat;rw[←Ny223.out] at ho;have n0_:=Aside0.mk (hb);have n1_:=Aside0.mk (ho);clear HB;have HB:=n0_;have HO225:=n1_;clear n0_ n1_;clear ho hb hg hat)|((with_reducible refine gate_builtin (b:=.append) (xs:=#[.tmp 20,.tmp 24]) rfl ?_);at_builtin;refine Kd.R_append k58 (w0:=w) w.heap.size rfl (.tmp 20) (.tmp 24) 22 58 (.agg #[(.string ⟨#[]⟩),(.string ⟨#[]⟩)]) 32 rfl Tryd.underlying22 info58 rfl (by decide) (by omega) v224 y223 (⟨a1,a2⟩:S58) [.string a1,.string a2] (fun _=>True) (fun _=>False) rfl rfl ?aP (fun _ hk=>hk.elim) ?aF ?aO ?aB ?aS ?aL ?_;(case aP=>exact k58_mkM _ _ _ (⟨a1,a2⟩:S58));(case aB=>exact (upB HB.out));(case aF=>exact (fun _ _=>trivial));(case aO=>exact (upK HO225.out));(case aS=>exact (below_size (upB HB.out)));(case aL=>have:=LMc8.out;omega);intro v227 w26 ho hb hg hat;rw[←Ny226.out] at ho;have n0_:=Aside0.mk (hb);have n1_:=Aside0.mk (ho);clear HB;clear HO225;have HB:=n0_;have HO228:=n1_;clear n0_ n1_;clear ho hb hg hat;have q27:(t217:Int)≤((l0.length:Int):Int):=of_decide_eq_true (by assumption);obtain⟨i027,hi027,_,hsz27,_⟩:=info_parts info58;have hroom27:l0.length≤c0:=HC0.out;have hC27:Kd.C k58 _ A0 l0.length l0:=HR0.out;have q027:(0:Int)≤(t217:Int):=of_decide_eq_true (by assumption);have hcut27:=cut_from (P:=Tryd.prog) 22 58 .i64 Tryd.underlying22 hi027 2 hsz27 A0 l0.length c0 t217 q027 q27;have hr27:=Kd.C_drop (m:=(t217:Int).toNat) (c:=c0) hC27 (by omega) hroom27;obtain⟨A27,hA27⟩ : ∃ A1,A1=(if c0=(t217:Int).toNat then A0 else (A0:Option Addr).map (·.add ((t217:Int).toNat*2))):=⟨_,rfl⟩;obtain⟨c27,hc27⟩ : ∃ c1,c1=c0 - (t217:Int).toNat:=⟨_,rfl⟩;have hy27:y236.length=l0.length - (t217:Int).toNat:=(by rw[Ny236.out,List.length_drop] <;> omega);rw[show (l0).drop (t217:Int).toNat=y236 from Ny236.out.symm] at hr27;replace hr27:Kd.C k58 _ A27 y236.length y236:=(by rw[hA27];exact hr27);rw[←hy27,←hA27,←hc27] at hcut27;have HR239:=Aside0.mk hr27;have HC239:=Aside0.mk (show y236.length≤c27 from by rw[hy27,hc27];exact Nat.sub_le_sub_right hroom27 _);clear hr27 hC27 hroom27 hi027 hsz27 hc27;have KY27:=Aside0.mk hy27;have KA27:=Aside0.mk hA27;clear hy27 hA27;replace q27:=eq_true q27)|((with_reducible refine gate_builtin (b:=.append) (xs:=#[.tmp 29,.tmp 32]) rfl ?_);at_builtin;refine Kd.R_append_rows k58 (w0:=w) w.heap.size rfl (.tmp 29) (.tmp 32) 22 58 (.agg #[(.string ⟨#[]⟩),(.string ⟨#[]⟩)]) 32 rfl Tryd.underlying22 info58 rfl (by decide) (by omega) v227 y226 y236 _ _ _ (fun _=>True) (fun _=>False) rfl rfl ?aO ?aR (fun _ _ h=>h) (fun _ h=>h.elim) ?aF ?aB ?aS ?aL ?_;(case aR=>exact upC (Kd.C_below HR239.out HB.out));(case aB=>exact (upB HB.out));(case aF=>exact (fun _ _=>trivial));(case aO=>exact (upK HO228.out));(case aS=>exact (below_size (upB HB.out)));(case aL=>have:=LMc22.out;omega);intro v241 w28 ho hb hg hat;rw[←Ny240.out] at ho;have n0_:=Aside0.mk (hb);have n1_:=Aside0.mk (ho);clear HB;clear HO228;have HB:=n0_;have HO242:=n1_;clear n0_ n1_;clear ho hb hg hat))
       go_ret
       exact ⟨_,by first|rfl|(simp[errW_none,errW_some] <;> rfl)|(simp[*,errW_none,errW_some] <;> rfl),by (with_reducible repeat (first|apply Kd.R_alloc|apply Kd.R_drewN|apply Kd.R_drew));exact HO242.out,upB HB.out⟩
      ·
       rw[if_neg c22] at H
       exact absurd H (by simp)
    ·
     rw[if_neg c8] at H
     exact absurd H (by simp)
   ·
    rw[if_neg c7] at H
    exact absurd H (by simp)
  ·
   rw[if_neg c6] at H
   exact absurd H (by simp)
 ·
  rw[if_neg c5] at H
  exact absurd H (by simp)

/-! ### leaf_Drop: function 29 -/
def leaf_Drop.f (l0:List (S58)) (a1:ByteArray):Option ((List (S58))×Bool):=(leaf_Find.f l0 a1).bind fun bt243=>(if 0≤bt243.1 then (if bt243.1≤(l0.length:Int) then ((some (l0.take (bt243.1:Int).toNat:List (S58))).bind fun y245=>(if ([]:List (S58)).length+y245.length<4398046511104 then ((some (([]:List (S58))++y245:List (S58))).bind fun y249=>(if bt243.2=true then (if 0≤(wrap64 (bt243.1+1)) then (if (wrap64 (bt243.1+1))≤(l0.length:Int) then ((some (l0.drop ((wrap64 (bt243.1+1)):Int).toNat:List (S58))).bind fun y252=>(if y249.length+y252.length<4398046511104 then (some ((y249++y252),bt243.2)) else (none))) else (none)) else (none)) else ((some (l0.drop (bt243.1:Int).toNat:List (S58))).bind fun y259=>(if y249.length+y259.length<4398046511104 then (some ((y249++y259),bt243.2)) else (none))))) else (none))) else (none)) else (none))
set_option maxHeartbeats 8000000 in
set_option maxRecDepth 100000 in
theorem leaf_Drop.calls (A0:Option Addr) (c0:Nat) (l0:List (S58)) (a1:ByteArray) (r1:List (S58)) (r2:Bool) (w:World) (hr0:Kd.C k58 w A0 l0.length l0) (hc0:l0.length≤c0) (h:leaf_Drop.f l0 a1=some (r1,r2)) :
  Calls Tryd.prog 29 #[.slice A0 l0.length c0,.string a1] w fun e w'=>∃ v0_:Value,e=.returned (.tuple #[v0_,.bool r2])∧Kd.R k58 58 w' w.heap.size (fun _=>True) v0_ r1∧Below w.heap.size w w':=by
 have HR0:=Aside0.mk hr0
 have HC0:=Aside0.mk hc0
 clear hr0 hc0
 have HB:=Aside0.mk (Below.refl w.heap.size w)
 have H:((leaf_Find.f l0 a1).bind fun bt243=>(if 0≤bt243.1 then (if bt243.1≤(l0.length:Int) then ((some (l0.take (bt243.1:Int).toNat:List (S58))).bind fun y245=>(if ([]:List (S58)).length+y245.length<4398046511104 then ((some (([]:List (S58))++y245:List (S58))).bind fun y249=>(if bt243.2=true then (if 0≤(wrap64 (bt243.1+1)) then (if (wrap64 (bt243.1+1))≤(l0.length:Int) then ((some (l0.drop ((wrap64 (bt243.1+1)):Int).toNat:List (S58))).bind fun y252=>(if y249.length+y252.length<4398046511104 then (some ((y249++y252),bt243.2)) else (none))) else (none)) else (none)) else ((some (l0.drop (bt243.1:Int).toNat:List (S58))).bind fun y259=>(if y249.length+y259.length<4398046511104 then (some ((y249++y259),bt243.2)) else (none))))) else (none))) else (none)) else (none)))=some (r1,r2):=h
 clear h
 replace H:=Option.bind_eq_some_iff.mp H
 obtain⟨⟨t243,t244⟩,A30,H⟩:=H
 try dsimp only at H
 have A3:=Aside0.mk A30
 clear A30
 by_cases c4:0≤t243
 ·
  rw[if_pos c4] at H
  have c4b0:=eq_true c4
  have c4b1:decide (0≤t243)=true:=decide_eq_true c4
  clear c4
  by_cases c5:t243≤(l0.length:Int)
  ·
   rw[if_pos c5] at H
   have c5b0:=eq_true c5
   have c5b1:decide (t243≤(l0.length:Int))=true:=decide_eq_true c5
   clear c5
   obtain⟨y245,hy245⟩ : ∃ y_:List (S58),y_=(l0.take (t243:Int).toNat):=⟨_,rfl⟩
   replace H:(if ([]:List (S58)).length+y245.length<4398046511104 then ((some (([]:List (S58))++y245:List (S58))).bind fun y249=>(if t244=true then (if 0≤(wrap64 (t243+1)) then (if (wrap64 (t243+1))≤(l0.length:Int) then ((some (l0.drop ((wrap64 (t243+1)):Int).toNat:List (S58))).bind fun y252=>(if y249.length+y252.length<4398046511104 then (some ((y249++y252),t244)) else (none))) else (none)) else (none)) else ((some (l0.drop (t243:Int).toNat:List (S58))).bind fun y259=>(if y249.length+y259.length<4398046511104 then (some ((y249++y259),t244)) else (none))))) else (none))=some (r1,r2):=by first|(rw[hy245];with_reducible exact H)|(have H2_:=(Option.bind_some _ _).symm.trans H;rw[hy245];with_reducible exact H2_)|(have H2_:=(Option.bind_some _ _).symm.trans H;with_reducible exact H2_)|with_reducible exact H|(rw[hy245];exact H)|exact H
   have Ny245:=Aside0.mk hy245
   clear hy245
   by_cases c6:([]:List (S58)).length+y245.length<4398046511104
   ·
    rw[if_pos c6] at H
    have LMc6:=Aside0.mk c6
    clear c6
    obtain⟨y249,hy249⟩ : ∃ y_:List (S58),y_=(([]:List (S58))++y245):=⟨_,rfl⟩
    replace H:(if t244=true then (if 0≤(wrap64 (t243+1)) then (if (wrap64 (t243+1))≤(l0.length:Int) then ((some (l0.drop ((wrap64 (t243+1)):Int).toNat:List (S58))).bind fun y252=>(if y249.length+y252.length<4398046511104 then (some ((y249++y252),t244)) else (none))) else (none)) else (none)) else ((some (l0.drop (t243:Int).toNat:List (S58))).bind fun y259=>(if y249.length+y259.length<4398046511104 then (some ((y249++y259),t244)) else (none))))=some (r1,r2):=by first|(rw[hy249];with_reducible exact H)|(have H2_:=(Option.bind_some _ _).symm.trans H;rw[hy249];with_reducible exact H2_)|(have H2_:=(Option.bind_some _ _).symm.trans H;with_reducible exact H2_)|with_reducible exact H|(rw[hy249];exact H)|exact H
    have Ny249:=Aside0.mk hy249
    clear hy249
    by_cases c7:t244=true
    ·
     subst c7
     have H1:(if 0≤(wrap64 (t243+1)) then (if (wrap64 (t243+1))≤(l0.length:Int) then ((some (l0.drop ((wrap64 (t243+1)):Int).toNat:List (S58))).bind fun y252=>(if y249.length+y252.length<4398046511104 then (some ((y249++y252),true)) else (none))) else (none)) else (none))=some (r1,r2):=by rw[if_pos rfl] at H;exact H
     clear H
     have H:=H1
     clear H1
     obtain⟨ji8,hji8⟩ : ∃ j_:Int,(wrap64 (t243+1))=j_:=⟨_,rfl⟩
     replace H:(if 0≤(ji8) then (if (ji8)≤(l0.length:Int) then ((some (l0.drop ((ji8):Int).toNat:List (S58))).bind fun y252=>(if y249.length+y252.length<4398046511104 then (some ((y249++y252),true)) else (none))) else (none)) else (none))=some (r1,r2):=by first|(rw[hji8] at H;exact H)|(simp only[hji8] at H ⊢;exact H)
     (try rw[hji8] at A3)
     have hji8w:(IntKind.i64.wrap (t243+1))=ji8:=(i64_w _).trans hji8
     by_cases c9:0≤(ji8)
     ·
      rw[if_pos c9] at H
      have c9b0:=eq_true c9
      have c9b1:decide (0≤(ji8))=true:=decide_eq_true c9
      clear c9
      by_cases c10:(ji8)≤(l0.length:Int)
      ·
       rw[if_pos c10] at H
       have c10b0:=eq_true c10
       have c10b1:decide ((ji8)≤(l0.length:Int))=true:=decide_eq_true c10
       clear c10
       obtain⟨y252,hy252⟩ : ∃ y_:List (S58),y_=(l0.drop ((ji8):Int).toNat):=⟨_,rfl⟩
       replace H:(if y249.length+y252.length<4398046511104 then (some ((y249++y252),true)) else (none))=some (r1,r2):=by first|(rw[hy252];with_reducible exact H)|(have H2_:=(Option.bind_some _ _).symm.trans H;rw[hy252];with_reducible exact H2_)|(have H2_:=(Option.bind_some _ _).symm.trans H;with_reducible exact H2_)|with_reducible exact H|(rw[hy252];exact H)|exact H
       have Ny252:=Aside0.mk hy252
       clear hy252
       by_cases c11:y249.length+y252.length<4398046511104
       ·
        rw[if_pos c11] at H
        have LMc11:=Aside0.mk c11
        clear c11
        obtain⟨y256,hy256⟩ : ∃ y_:List (S58),y_=(y249++y252):=⟨_,rfl⟩
        replace H:(some (y256,true))=some (r1,r2):=by first|(rw[hy256];with_reducible exact H)|(have H2_:=(Option.bind_some _ _).symm.trans H;rw[hy256];with_reducible exact H2_)|(have H2_:=(Option.bind_some _ _).symm.trans H;with_reducible exact H2_)|with_reducible exact H|(rw[hy256];exact H)|exact H
        have Ny256:=Aside0.mk hy256
        clear hy256
        simp only[Option.some.injEq,Prod.mk.injEq] at H
        obtain⟨rfl,rfl⟩:=H
        go_enter Tryd.func29,Tryd.ntmps29
        go_wp2_with (first|((with_reducible refine gate_callee (f:=28) rfl ?_);refine goesL_ (some 12) rfl rfl Tryd.func28 (by kernel_rfl) rfl #[.slice A0 l0.length c0,.string a1] rfl (by (try simp only[ml_]);first|done|rfl|(simp only[List.length_drop,List.length_take];rfl)) ?_;(with_reducible refine (leaf_Find.calls _ _ l0 a1 t243 true _ ?side1 ?side2 A3.out).mono ?_);(case side1=>exact upC HR0.out);(case side2=>exact HC0.out);rintro e w12 ⟨rfl,hb⟩;refine ⟨_,rfl,?_⟩;have n0_:=Aside0.mk (below_step (upB HB.out) hb);clear HB;have HB:=n0_;clear n0_;(try clear hb);(try clear hb2);(try clear hk);(try clear hi);have q13:(t243:Int)≤((l0.length:Int):Int):=of_decide_eq_true (by assumption);obtain⟨i013,hi013,_,hsz13,_⟩:=info_parts info58;have hroom13:l0.length≤c0:=HC0.out;have hC13:Kd.C k58 _ A0 l0.length l0:=HR0.out;have hcut13:=cut_to (P:=Tryd.prog) 22 58 .i64 Tryd.underlying22 hi013 A0 l0.length c0 t243 (of_decide_eq_true (by assumption)) q13 hroom13;have hr13:=Kd.C_take (m:=(t243:Int).toNat) hC13 (by omega);have hy13:y245.length=(t243:Int).toNat:=(by rw[Ny245.out,List.length_take];omega);rw[←Ny245.out] at hr13;rw[←hy13] at hcut13;have HR248:=Aside0.mk hr13;have HC248:=Aside0.mk (show y245.length≤c0 from by omega);clear hr13 hC13 hroom13 hi013 hsz13;have KY13:=Aside0.mk hy13;clear hy13;replace q13:=eq_true q13)|((with_reducible refine gate_builtin (b:=.append) (xs:=#[.const (.slice none 0 0),.tmp 17]) rfl ?_);at_builtin;refine Kd.R_append_rows k58 (w0:=w) w.heap.size rfl (.const (.slice none 0 0)) (.tmp 17) 22 58 (.agg #[(.string ⟨#[]⟩),(.string ⟨#[]⟩)]) 32 rfl Tryd.underlying22 info58 rfl (by decide) (by omega) (.slice none 0 0) ([]:List (S58)) y245 _ _ _ (fun _=>True) (fun _=>False) rfl rfl ?aO ?aR (fun _ _ h=>h) (fun _ h=>h.elim) ?aF ?aB ?aS ?aL ?_;(case aR=>exact upC (Kd.C_below HR248.out HB.out));(case aB=>exact (upB HB.out));(case aF=>exact (fun _ _=>trivial));(case aO=>exact ((Kd.R_nil _ _ _ _ (fun _=>True))));(case aS=>exact (below_size (upB HB.out)));(case aL=>have:=LMc6.out;omega);intro v250 w14 ho hb hg hat;rw[←Ny249.out] at ho;have n0_:=Aside0.mk (hb);have n1_:=Aside0.mk (ho);clear HB;have HB:=n0_;have HO251:=n1_;clear n0_ n1_;clear ho hb hg hat;have q15:((ji8):Int)≤((l0.length:Int):Int):=of_decide_eq_true (by assumption);obtain⟨i015,hi015,_,hsz15,_⟩:=info_parts info58;have hroom15:l0.length≤c0:=HC0.out;have hC15:Kd.C k58 _ A0 l0.length l0:=HR0.out;have q015:(0:Int)≤((ji8):Int):=of_decide_eq_true (by assumption);have hcut15:=cut_from (P:=Tryd.prog) 22 58 .i64 Tryd.underlying22 hi015 2 hsz15 A0 l0.length c0 (ji8) q015 q15;have hr15:=Kd.C_drop (m:=((ji8):Int).toNat) (c:=c0) hC15 (by omega) hroom15;obtain⟨A15,hA15⟩ : ∃ A1,A1=(if c0=((ji8):Int).toNat then A0 else (A0:Option Addr).map (·.add (((ji8):Int).toNat*2))):=⟨_,rfl⟩;obtain⟨c15,hc15⟩ : ∃ c1,c1=c0 - ((ji8):Int).toNat:=⟨_,rfl⟩;have hy15:y252.length=l0.length - ((ji8):Int).toNat:=(by rw[Ny252.out,List.length_drop] <;> omega);rw[show (l0).drop ((ji8):Int).toNat=y252 from Ny252.out.symm] at hr15;replace hr15:Kd.C k58 _ A15 y252.length y252:=(by rw[hA15];exact hr15);rw[←hy15,←hA15,←hc15] at hcut15;have HR255:=Aside0.mk hr15;have HC255:=Aside0.mk (show y252.length≤c15 from by rw[hy15,hc15];exact Nat.sub_le_sub_right hroom15 _);clear hr15 hC15 hroom15 hi015 hsz15 hc15;have KY15:=Aside0.mk hy15;have KA15:=Aside0.mk hA15;clear hy15 hA15;replace q15:=eq_true q15)|((with_reducible refine gate_builtin (b:=.append) (xs:=#[.tmp 22,.tmp 25]) rfl ?_);at_builtin;refine Kd.R_append_rows k58 (w0:=w) w.heap.size rfl (.tmp 22) (.tmp 25) 22 58 (.agg #[(.string ⟨#[]⟩),(.string ⟨#[]⟩)]) 32 rfl Tryd.underlying22 info58 rfl (by decide) (by omega) v250 y249 y252 _ _ _ (fun _=>True) (fun _=>False) rfl rfl ?aO ?aR (fun _ _ h=>h) (fun _ h=>h.elim) ?aF ?aB ?aS ?aL ?_;(case aR=>exact upC (Kd.C_below HR255.out HB.out));(case aB=>exact (upB HB.out));(case aF=>exact (fun _ _=>trivial));(case aO=>exact (upK HO251.out));(case aS=>exact (below_size (upB HB.out)));(case aL=>have:=LMc11.out;omega);intro v257 w16 ho hb hg hat;rw[←Ny256.out] at ho;have n0_:=Aside0.mk (hb);have n1_:=Aside0.mk (ho);clear HB;clear HO251;have HB:=n0_;have HO258:=n1_;clear n0_ n1_;clear ho hb hg hat))
        go_ret2
        exact ⟨_,by first|rfl|(simp[errW_none,errW_some] <;> rfl)|(simp only[←hji8];first|rfl|(simp[errW_none,errW_some] <;> rfl))|(simp[*,errW_none,errW_some] <;> rfl),by (with_reducible repeat (first|apply Kd.R_alloc|apply Kd.R_drewN|apply Kd.R_drew));exact HO258.out,upB HB.out⟩
       ·
        rw[if_neg c11] at H
        exact absurd H (by simp)
      ·
       rw[if_neg c10] at H
       exact absurd H (by simp)
     ·
      rw[if_neg c9] at H
      exact absurd H (by simp)
    ·
     replace c7:=Bool.eq_false_iff.mpr c7
     subst c7
     have H1:((some (l0.drop (t243:Int).toNat:List (S58))).bind fun y259=>(if y249.length+y259.length<4398046511104 then (some ((y249++y259),false)) else (none)))=some (r1,r2):=by rw[if_neg (show ¬ (false=true) by decide)] at H;exact H
     clear H
     have H:=H1
     clear H1
     have c17b0:=eq_true (of_decide_eq_true (by assumption):0≤t243)
     have c18b0:=eq_true (of_decide_eq_true (by assumption):t243≤(l0.length:Int))
     obtain⟨y259,hy259⟩ : ∃ y_:List (S58),y_=(l0.drop (t243:Int).toNat):=⟨_,rfl⟩
     replace H:(if y249.length+y259.length<4398046511104 then (some ((y249++y259),false)) else (none))=some (r1,r2):=by first|(rw[hy259];with_reducible exact H)|(have H2_:=(Option.bind_some _ _).symm.trans H;rw[hy259];with_reducible exact H2_)|(have H2_:=(Option.bind_some _ _).symm.trans H;with_reducible exact H2_)|with_reducible exact H|(rw[hy259];exact H)|exact H
     have Ny259:=Aside0.mk hy259
     clear hy259
     by_cases c19:y249.length+y259.length<4398046511104
     ·
      rw[if_pos c19] at H
      have LMc19:=Aside0.mk c19
      clear c19
      obtain⟨y263,hy263⟩ : ∃ y_:List (S58),y_=(y249++y259):=⟨_,rfl⟩
      replace H:(some (y263,false))=some (r1,r2):=by first|(rw[hy263];with_reducible exact H)|(have H2_:=(Option.bind_some _ _).symm.trans H;rw[hy263];with_reducible exact H2_)|(have H2_:=(Option.bind_some _ _).symm.trans H;with_reducible exact H2_)|with_reducible exact H|(rw[hy263];exact H)|exact H
      have Ny263:=Aside0.mk hy263
      clear hy263
      simp only[Option.some.injEq,Prod.mk.injEq] at H
      obtain⟨rfl,rfl⟩:=H
      go_enter Tryd.func29,Tryd.ntmps29
      go_wp2_with (first|((with_reducible refine gate_callee (f:=28) rfl ?_);refine goesL_ (some 12) rfl rfl Tryd.func28 (by kernel_rfl) rfl #[.slice A0 l0.length c0,.string a1] rfl (by (try simp only[ml_]);first|done|rfl|(simp only[List.length_drop,List.length_take];rfl)) ?_;(with_reducible refine (leaf_Find.calls _ _ l0 a1 t243 false _ ?side1 ?side2 A3.out).mono ?_);(case side1=>exact upC HR0.out);(case side2=>exact HC0.out);rintro e w20 ⟨rfl,hb⟩;refine ⟨_,rfl,?_⟩;have n0_:=Aside0.mk (below_step (upB HB.out) hb);clear HB;have HB:=n0_;clear n0_;(try clear hb);(try clear hb2);(try clear hk);(try clear hi);have q21:(t243:Int)≤((l0.length:Int):Int):=of_decide_eq_true (by assumption);obtain⟨i021,hi021,_,hsz21,_⟩:=info_parts info58;have hroom21:l0.length≤c0:=HC0.out;have hC21:Kd.C k58 _ A0 l0.length l0:=HR0.out;have hcut21:=cut_to (P:=Tryd.prog) 22 58 .i64 Tryd.underlying22 hi021 A0 l0.length c0 t243 (of_decide_eq_true (by assumption)) q21 hroom21;have hr21:=Kd.C_take (m:=(t243:Int).toNat) hC21 (by omega);have hy21:y245.length=(t243:Int).toNat:=(by rw[Ny245.out,List.length_take];omega);rw[←Ny245.out] at hr21;rw[←hy21] at hcut21;have HR248:=Aside0.mk hr21;have HC248:=Aside0.mk (show y245.length≤c0 from by omega);clear hr21 hC21 hroom21 hi021 hsz21;have KY21:=Aside0.mk hy21;clear hy21;replace q21:=eq_true q21)|((with_reducible refine gate_builtin (b:=.append) (xs:=#[.const (.slice none 0 0),.tmp 17]) rfl ?_);at_builtin;refine Kd.R_append_rows k58 (w0:=w) w.heap.size rfl (.const (.slice none 0 0)) (.tmp 17) 22 58 (.agg #[(.string ⟨#[]⟩),(.string ⟨#[]⟩)]) 32 rfl Tryd.underlying22 info58 rfl (by decide) (by omega) (.slice none 0 0) ([]:List (S58)) y245 _ _ _ (fun _=>True) (fun _=>False) rfl rfl ?aO ?aR (fun _ _ h=>h) (fun _ h=>h.elim) ?aF ?aB ?aS ?aL ?_;(case aR=>exact upC (Kd.C_below HR248.out HB.out));(case aB=>exact (upB HB.out));(case aF=>exact (fun _ _=>trivial));(case aO=>exact ((Kd.R_nil _ _ _ _ (fun _=>True))));(case aS=>exact (below_size (upB HB.out)));(case aL=>have:=LMc6.out;omega);intro v250 w22 ho hb hg hat;rw[←Ny249.out] at ho;have n0_:=Aside0.mk (hb);have n1_:=Aside0.mk (ho);clear HB;have HB:=n0_;have HO251:=n1_;clear n0_ n1_;clear ho hb hg hat;have q23:(t243:Int)≤((l0.length:Int):Int):=of_decide_eq_true (by assumption);obtain⟨i023,hi023,_,hsz23,_⟩:=info_parts info58;have hroom23:l0.length≤c0:=HC0.out;have hC23:Kd.C k58 _ A0 l0.length l0:=HR0.out;have q023:(0:Int)≤(t243:Int):=of_decide_eq_true (by assumption);have hcut23:=cut_from (P:=Tryd.prog) 22 58 .i64 Tryd.underlying22 hi023 2 hsz23 A0 l0.length c0 t243 q023 q23;have hr23:=Kd.C_drop (m:=(t243:Int).toNat) (c:=c0) hC23 (by omega) hroom23;obtain⟨A23,hA23⟩ : ∃ A1,A1=(if c0=(t243:Int).toNat then A0 else (A0:Option Addr).map (·.add ((t243:Int).toNat*2))):=⟨_,rfl⟩;obtain⟨c23,hc23⟩ : ∃ c1,c1=c0 - (t243:Int).toNat:=⟨_,rfl⟩;have hy23:y259.length=l0.length - (t243:Int).toNat:=(by rw[Ny259.out,List.length_drop] <;> omega);rw[show (l0).drop (t243:Int).toNat=y259 from Ny259.out.symm] at hr23;replace hr23:Kd.C k58 _ A23 y259.length y259:=(by rw[hA23];exact hr23);rw[←hy23,←hA23,←hc23] at hcut23;have HR262:=Aside0.mk hr23;have HC262:=Aside0.mk (show y259.length≤c23 from by rw[hy23,hc23];exact Nat.sub_le_sub_right hroom23 _);clear hr23 hC23 hroom23 hi023 hsz23 hc23;have KY23:=Aside0.mk hy23;have KA23:=Aside0.mk hA23;clear hy23 hA23;replace q23:=eq_true q23)|((with_reducible refine gate_builtin (b:=.append) (xs:=#[.tmp 22,.tmp 25]) rfl ?_);at_builtin;refine Kd.R_append_rows k58 (w0:=w) w.heap.size rfl (.tmp 22) (.tmp 25) 22 58 (.agg #[(.string ⟨#[]⟩),(.string ⟨#[]⟩)]) 32 rfl Tryd.underlying22 info58 rfl (by decide) (by omega) v250 y249 y259 _ _ _ (fun _=>True) (fun _=>False) rfl rfl ?aO ?aR (fun _ _ h=>h) (fun _ h=>h.elim) ?aF ?aB ?aS ?aL ?_;(case aR=>exact upC (Kd.C_below HR262.out HB.out));(case aB=>exact (upB HB.out));(case aF=>exact (fun _ _=>trivial));(case aO=>exact (upK HO251.out));(case aS=>exact (below_size (upB HB.out)));(case aL=>have:=LMc19.out;omega);intro v264 w24 ho hb hg hat;rw[←Ny263.out] at ho;have n0_:=Aside0.mk (hb);have n1_:=Aside0.mk (ho);clear HB;clear HO251;have HB:=n0_;have HO265:=n1_;clear n0_ n1_;clear ho hb hg hat))
      go_ret2
      exact ⟨_,by first|rfl|(simp[errW_none,errW_some] <;> rfl)|(simp[*,errW_none,errW_some] <;> rfl),by (with_reducible repeat (first|apply Kd.R_alloc|apply Kd.R_drewN|apply Kd.R_drew));exact HO265.out,upB HB.out⟩
     ·
      rw[if_neg c19] at H
      exact absurd H (by simp)
   ·
    rw[if_neg c6] at H
    exact absurd H (by simp)
  ·
   rw[if_neg c5] at H
   exact absurd H (by simp)
 ·
  rw[if_neg c4] at H
  exact absurd H (by simp)

/-! ### copseref7_Size: function 15 -/
def copseref7_Size.l0:Nat→List (S58)→Int→Int→Option (Int)
 |0,_,_,_=>none
 |k+1,x0,x3,x4=>if x4<(x0.length:Int) then (if 0≤x4 then (copseref7_Size.l0 k x0 (wrap64 ((wrap64 ((wrap64 (x3+5))+(((rd_T58 x0 x4).f0).size:Int)))+(((rd_T58 x0 x4).f1).size:Int))) (wrap64 (x4+1))) else (none)) else (some x3)
def copseref7_Size.f (k:Nat) (l0:List (S58)):Option (Int):=copseref7_Size.l0 k l0 0 0
theorem copseref7_Size.mono_l : ∀ k,(∀ y0 y1 y2,LeO (copseref7_Size.l0 k y0 y1 y2) (copseref7_Size.l0 (k+1) y0 y1 y2))
 |0=>fun _ _ _ r h=>by simp[copseref7_Size.l0] at h
 |k+1=>by
  have ih0:=copseref7_Size.mono_l k
  ·
   intro y0 y1 y2
   unfold copseref7_Size.l0
   repeat' first
   |(with_reducible exact ih0 _ _ _)
   |(with_reducible exact LeO.refl _)
   |(with_reducible exact LeO.none _)
   |(with_reducible refine LeO.ite ?_ ?_)
   |(with_reducible refine LeO.bind ?_ (fun _=>?_))
   |exact ih0 _ _ _
   |exact LeO.none _
   |refine LeO.ite ?_ ?_
   |refine LeO.bind ?_ (fun _=>?_)
theorem copseref7_Size.mono : ∀ a0 k,LeO (copseref7_Size.f k a0) (copseref7_Size.f (k+1) a0):=by
 intro a0 k
 have ih0:=copseref7_Size.mono_l k
 unfold copseref7_Size.f
 repeat' first
   |(with_reducible exact ih0 _ _ _)
   |(with_reducible exact LeO.refl _)
   |(with_reducible exact LeO.none _)
   |(with_reducible refine LeO.ite ?_ ?_)
   |(with_reducible refine LeO.bind ?_ (fun _=>?_))
   |exact ih0 _ _ _
   |exact LeO.none _
   |refine LeO.ite ?_ ?_
   |refine LeO.bind ?_ (fun _=>?_)
set_option maxHeartbeats 8000000 in
set_option maxRecDepth 100000 in
theorem copseref7_Size.calls (k:Nat) (A0:Option Addr) (c0:Nat) (l0:List (S58)) (r:Int) (w:World) (hr0:Kd.C k58 w A0 l0.length l0) (hc0:l0.length≤c0) (h:copseref7_Size.f k l0=some r) :
  Calls Tryd.prog 15 #[.slice A0 l0.length c0] w fun e w'=>e=.returned (.int .i64 r)∧Drawn0 w w':=by
 have HR0:=Aside0.mk hr0
 have HC0:=Aside0.mk hc0
 clear hr0 hc0
 have H:(copseref7_Size.l0 k l0 0 0)=some r:=h
 clear h
 have H':=Aside0.mk H
 clear H
 go_enter Tryd.func15,Tryd.ntmps15
 go_wp2
 repeat (go_quiet (fail);try go_wp2)
 go_loopg [3,4] k (fun kq v3 v4 w'=>∃ (x3_1:Int) (x4_1:Int),v3=.int .i64 x3_1∧v4=.int .i64 x4_1∧Aside0 (copseref7_Size.l0 kq l0 x3_1 x4_1=some r)∧Aside0 (kq≤k)∧Drawn0 w w')
 case atStart=>exact ⟨(0),(0),(by first|rfl|(simp;done)|(simp[*];done)),(by first|rfl|(simp;done)|(simp[*];done)),H',⟨Nat.le_refl _⟩,by repeat (first|exact Drawn0.refl _|apply Drawn0.step)⟩
 case round=>
  clear H'
  try clear c1
  obtain⟨x3_1,x4_1,rfl,rfl,HA,HK1,⟨m1,rfl⟩⟩:=hrel
  cases gk with
  |zero=>exact absurd HA.out (by simp[copseref7_Size.l0])
  |succ k1=>
   have H:=HA.out
   clear HA
   simp only[copseref7_Size.l0] at H
   by_cases c2:x4_1<(l0.length:Int)
   ·
    rw[if_pos c2] at H
    have c2b0:decide (x4_1<(l0.length:Int))=true:=decide_eq_true c2
    clear c2
    by_cases c3:0≤x4_1
    ·
     rw[if_pos c3] at H
     have c3b0:decide (0≤x4_1)=true:=decide_eq_true c3
     clear c3
     have H':=Aside0.mk H
     clear H
     have p266:0≤(x4_1:Int):=of_decide_eq_true (by assumption)
     have q266:x4_1<(l0.length:Int):=of_decide_eq_true (by assumption)
     obtain⟨ad266,e266,hx266_0,hx266_1⟩:=at_T58 HR0.out x4_1 p266 q266
     cases e266
     replace p266:=eq_true p266
     replace q266:=eq_true q266
     have p267:0≤(x4_1:Int):=of_decide_eq_true (by assumption)
     have q267:x4_1<(l0.length:Int):=of_decide_eq_true (by assumption)
     obtain⟨ad267,e267,hx267_0,hx267_1⟩:=at_T58 HR0.out x4_1 p267 q267
     obtain rfl:ad266=ad267:=(by injection e267)
     replace p267:=eq_true p267
     replace q267:=eq_true q267
     go_wp2
     repeat (go_quiet (fail);try go_wp2)
     go_roundg k1
     case measure=>have:=HK1.out;omega
     case rel=>exact ⟨(wrap64 ((wrap64 ((wrap64 (x3_1+5))+(((rd_T58 l0 x4_1).f0).size:Int)))+(((rd_T58 l0 x4_1).f1).size:Int))),(wrap64 (x4_1+1)),(by first|rfl|(simp;done)|(simp[*];done)),(by first|rfl|(simp;done)|(simp[*];done)),H',⟨by have:=HK1.out;omega⟩,by repeat (first|exact Drawn0.refl _|apply Drawn0.step)⟩
    ·
     rw[if_neg c3] at H
     exact absurd H (by simp)
   ·
    rw[if_neg c2] at H
    have c2b0:decide (x4_1<(l0.length:Int))=false:=decide_eq_false c2
    clear c2
    obtain rfl:=Option.some.inj H
    go_wp2
    repeat (go_quiet (fail);try go_wp2)
    go_ret
    exact ⟨by first|rfl|(simp;done)|(simp[*];done),by repeat (first|exact Drawn0.refl _|apply Drawn0.step)⟩

/-! ### copsekit_more: function 34 -/
def copsekit_more.f (a0:Option Int):Option (Int):=if a0.isNone=true then (some (-1)) else (if en (a0.getD 0)=en 8 then (some 8) else (if en (a0.getD 0)=en 9 then (some 9) else (if en (a0.getD 0)=en 10 then (some 10) else (if en (a0.getD 0)=en 11 then (some 11) else (if en (a0.getD 0)=en 12 then (some 12) else (if en (a0.getD 0)=en 13 then (some 13) else (some (-1))))))))
set_option maxHeartbeats 8000000 in
set_option maxRecDepth 100000 in
theorem copsekit_more.calls (E:Int→Addr) (a0:Option Int) (r:Int) (w:World) (hG:Glob E w) (h:copsekit_more.f a0=some r) :
  Calls Tryd.prog 34 #[errW E a0] w fun e w'=>e=.returned (.int .i64 r)∧Drawn0 w w':=by
 have hu28:=Tryd.underlying28
 have hu100:=Tryd.underlying100
 have HG:=Aside0.mk hG
 clear hG
 have H:(if a0.isNone=true then (some (-1)) else (if en (a0.getD 0)=en 8 then (some 8) else (if en (a0.getD 0)=en 9 then (some 9) else (if en (a0.getD 0)=en 10 then (some 10) else (if en (a0.getD 0)=en 11 then (some 11) else (if en (a0.getD 0)=en 12 then (some 12) else (if en (a0.getD 0)=en 13 then (some 13) else (some (-1)))))))))=some r:=h
 clear h
 rcases a0 with _|q268
 ·
  have H1:(some (-1))=some r:=by rw[if_pos (show (none:Option Int).isNone=true by rfl)] at H;exact H
  clear H
  have H:=H1
  clear H1
  simp only[errW_none,errW_some]
  obtain rfl:=Option.some.inj H
  have hx2:w.cell? ⟨8,0,none⟩=some (errW E (some 8)):=Glob.c8 (upG HG.out)
  simp only[errW_some] at hx2
  have hx3:=fun (W_:World) (v_:Value)=>run_eql_iface_nil_left (P:=Tryd.prog) W_ 100 v_ Tryd.underlying28
  have hx4:w.cell? ⟨9,0,none⟩=some (errW E (some 9)):=Glob.c9 (upG HG.out)
  simp only[errW_some] at hx4
  have hx5:w.cell? ⟨10,0,none⟩=some (errW E (some 10)):=Glob.c10 (upG HG.out)
  simp only[errW_some] at hx5
  have hx6:w.cell? ⟨11,0,none⟩=some (errW E (some 11)):=Glob.c11 (upG HG.out)
  simp only[errW_some] at hx6
  have hx7:w.cell? ⟨1,0,none⟩=some (errW E (some 12)):=Glob.c1 (upG HG.out)
  simp only[errW_some] at hx7
  have hx8:w.cell? ⟨12,0,none⟩=some (errW E (some 13)):=Glob.c12 (upG HG.out)
  simp only[errW_some] at hx8
  go_enter Tryd.func34,Tryd.ntmps34
  go_wp2
  go_ret
  exact ⟨by first|rfl|(simp;done)|(simp[*];done),by repeat (first|exact Drawn0.refl _|apply Drawn0.step)⟩
 ·
  have H1:(if en q268=en 8 then (some 8) else (if en q268=en 9 then (some 9) else (if en q268=en 10 then (some 10) else (if en q268=en 11 then (some 11) else (if en q268=en 12 then (some 12) else (if en q268=en 13 then (some 13) else (some (-1))))))))=some r:=by rw[if_neg (show ¬ (some q268).isNone=true by simp)] at H;exact H
  clear H
  have H:=H1
  clear H1
  simp only[errW_none,errW_some]
  by_cases c9:en q268=en 8
  ·
   rw[if_pos c9] at H
   have c9b0:(en q268==en 8)=true:=beq_iff_eq.mpr c9
   have c9b1:(en q268 != en 8)=false:=bne_eq_false_iff_eq.mpr c9
   clear c9
   obtain rfl:=Option.some.inj H
   have hx10:w.cell? ⟨8,0,none⟩=some (errW E (some 8)):=Glob.c8 (upG HG.out)
   simp only[errW_some] at hx10
   have hx11:=fun n_=>Glob.eql_drewN ((upG HG.out):Glob E w) n_ q268 8
   simp only[errW_some] at hx11
   have hx12:=Glob.eql ((upG HG.out):Glob E w) q268 8
   simp only[errW_some] at hx12
   go_enter Tryd.func34,Tryd.ntmps34
   go_wp2
   go_ret
   exact ⟨by first|rfl|(simp;done)|(simp[*];done),by repeat (first|exact Drawn0.refl _|apply Drawn0.step)⟩
  ·
   rw[if_neg c9] at H
   have c9b0:(en q268==en 8)=false:=beq_eq_false_iff_ne.mpr c9
   have c9b1:(en q268 != en 8)=true:=bne_iff_ne.mpr c9
   by_cases c13:en q268=en 9
   ·
    rw[if_pos c13] at H
    have c13b0:(en q268==en 9)=true:=beq_iff_eq.mpr c13
    have c13b1:(en q268 != en 9)=false:=bne_eq_false_iff_eq.mpr c13
    clear c13
    obtain rfl:=Option.some.inj H
    have hx14:w.cell? ⟨8,0,none⟩=some (errW E (some 8)):=Glob.c8 (upG HG.out)
    simp only[errW_some] at hx14
    have hx15:=fun n_=>Glob.eql_drewN ((upG HG.out):Glob E w) n_ q268 8
    simp only[errW_some] at hx15
    have hx16:=Glob.eql ((upG HG.out):Glob E w) q268 8
    simp only[errW_some] at hx16
    have hx17:w.cell? ⟨9,0,none⟩=some (errW E (some 9)):=Glob.c9 (upG HG.out)
    simp only[errW_some] at hx17
    have hx18:=fun n_=>Glob.eql_drewN ((upG HG.out):Glob E w) n_ q268 9
    simp only[errW_some] at hx18
    have hx19:=Glob.eql ((upG HG.out):Glob E w) q268 9
    simp only[errW_some] at hx19
    go_enter Tryd.func34,Tryd.ntmps34
    go_wp2
    go_ret
    exact ⟨by first|rfl|(simp;done)|(simp[*];done),by repeat (first|exact Drawn0.refl _|apply Drawn0.step)⟩
   ·
    rw[if_neg c13] at H
    have c13b0:(en q268==en 9)=false:=beq_eq_false_iff_ne.mpr c13
    have c13b1:(en q268 != en 9)=true:=bne_iff_ne.mpr c13
    by_cases c20:en q268=en 10
    ·
     rw[if_pos c20] at H
     have c20b0:(en q268==en 10)=true:=beq_iff_eq.mpr c20
     have c20b1:(en q268 != en 10)=false:=bne_eq_false_iff_eq.mpr c20
     clear c20
     obtain rfl:=Option.some.inj H
     have hx21:w.cell? ⟨8,0,none⟩=some (errW E (some 8)):=Glob.c8 (upG HG.out)
     simp only[errW_some] at hx21
     have hx22:=fun n_=>Glob.eql_drewN ((upG HG.out):Glob E w) n_ q268 8
     simp only[errW_some] at hx22
     have hx23:=Glob.eql ((upG HG.out):Glob E w) q268 8
     simp only[errW_some] at hx23
     have hx24:w.cell? ⟨9,0,none⟩=some (errW E (some 9)):=Glob.c9 (upG HG.out)
     simp only[errW_some] at hx24
     have hx25:=fun n_=>Glob.eql_drewN ((upG HG.out):Glob E w) n_ q268 9
     simp only[errW_some] at hx25
     have hx26:=Glob.eql ((upG HG.out):Glob E w) q268 9
     simp only[errW_some] at hx26
     have hx27:w.cell? ⟨10,0,none⟩=some (errW E (some 10)):=Glob.c10 (upG HG.out)
     simp only[errW_some] at hx27
     have hx28:=fun n_=>Glob.eql_drewN ((upG HG.out):Glob E w) n_ q268 10
     simp only[errW_some] at hx28
     have hx29:=Glob.eql ((upG HG.out):Glob E w) q268 10
     simp only[errW_some] at hx29
     go_enter Tryd.func34,Tryd.ntmps34
     go_wp2
     go_ret
     exact ⟨by first|rfl|(simp;done)|(simp[*];done),by repeat (first|exact Drawn0.refl _|apply Drawn0.step)⟩
    ·
     rw[if_neg c20] at H
     have c20b0:(en q268==en 10)=false:=beq_eq_false_iff_ne.mpr c20
     have c20b1:(en q268 != en 10)=true:=bne_iff_ne.mpr c20
     by_cases c30:en q268=en 11
     ·
      rw[if_pos c30] at H
      have c30b0:(en q268==en 11)=true:=beq_iff_eq.mpr c30
      have c30b1:(en q268 != en 11)=false:=bne_eq_false_iff_eq.mpr c30
      clear c30
      obtain rfl:=Option.some.inj H
      have hx31:w.cell? ⟨8,0,none⟩=some (errW E (some 8)):=Glob.c8 (upG HG.out)
      simp only[errW_some] at hx31
      have hx32:=fun n_=>Glob.eql_drewN ((upG HG.out):Glob E w) n_ q268 8
      simp only[errW_some] at hx32
      have hx33:=Glob.eql ((upG HG.out):Glob E w) q268 8
      simp only[errW_some] at hx33
      have hx34:w.cell? ⟨9,0,none⟩=some (errW E (some 9)):=Glob.c9 (upG HG.out)
      simp only[errW_some] at hx34
      have hx35:=fun n_=>Glob.eql_drewN ((upG HG.out):Glob E w) n_ q268 9
      simp only[errW_some] at hx35
      have hx36:=Glob.eql ((upG HG.out):Glob E w) q268 9
      simp only[errW_some] at hx36
      have hx37:w.cell? ⟨10,0,none⟩=some (errW E (some 10)):=Glob.c10 (upG HG.out)
      simp only[errW_some] at hx37
      have hx38:=fun n_=>Glob.eql_drewN ((upG HG.out):Glob E w) n_ q268 10
      simp only[errW_some] at hx38
      have hx39:=Glob.eql ((upG HG.out):Glob E w) q268 10
      simp only[errW_some] at hx39
      have hx40:w.cell? ⟨11,0,none⟩=some (errW E (some 11)):=Glob.c11 (upG HG.out)
      simp only[errW_some] at hx40
      have hx41:=fun n_=>Glob.eql_drewN ((upG HG.out):Glob E w) n_ q268 11
      simp only[errW_some] at hx41
      have hx42:=Glob.eql ((upG HG.out):Glob E w) q268 11
      simp only[errW_some] at hx42
      go_enter Tryd.func34,Tryd.ntmps34
      go_wp2
      go_ret
      exact ⟨by first|rfl|(simp;done)|(simp[*];done),by repeat (first|exact Drawn0.refl _|apply Drawn0.step)⟩
     ·
      rw[if_neg c30] at H
      have c30b0:(en q268==en 11)=false:=beq_eq_false_iff_ne.mpr c30
      have c30b1:(en q268 != en 11)=true:=bne_iff_ne.mpr c30
      by_cases c43:en q268=en 12
      ·
       rw[if_pos c43] at H
       have c43b0:(en q268==en 12)=true:=beq_iff_eq.mpr c43
       have c43b1:(en q268 != en 12)=false:=bne_eq_false_iff_eq.mpr c43
       clear c43
       obtain rfl:=Option.some.inj H
       have hx44:w.cell? ⟨8,0,none⟩=some (errW E (some 8)):=Glob.c8 (upG HG.out)
       simp only[errW_some] at hx44
       have hx45:=fun n_=>Glob.eql_drewN ((upG HG.out):Glob E w) n_ q268 8
       simp only[errW_some] at hx45
       have hx46:=Glob.eql ((upG HG.out):Glob E w) q268 8
       simp only[errW_some] at hx46
       have hx47:w.cell? ⟨9,0,none⟩=some (errW E (some 9)):=Glob.c9 (upG HG.out)
       simp only[errW_some] at hx47
       have hx48:=fun n_=>Glob.eql_drewN ((upG HG.out):Glob E w) n_ q268 9
       simp only[errW_some] at hx48
       have hx49:=Glob.eql ((upG HG.out):Glob E w) q268 9
       simp only[errW_some] at hx49
       have hx50:w.cell? ⟨10,0,none⟩=some (errW E (some 10)):=Glob.c10 (upG HG.out)
       simp only[errW_some] at hx50
       have hx51:=fun n_=>Glob.eql_drewN ((upG HG.out):Glob E w) n_ q268 10
       simp only[errW_some] at hx51
       have hx52:=Glob.eql ((upG HG.out):Glob E w) q268 10
       simp only[errW_some] at hx52
       have hx53:w.cell? ⟨11,0,none⟩=some (errW E (some 11)):=Glob.c11 (upG HG.out)
       simp only[errW_some] at hx53
       have hx54:=fun n_=>Glob.eql_drewN ((upG HG.out):Glob E w) n_ q268 11
       simp only[errW_some] at hx54
       have hx55:=Glob.eql ((upG HG.out):Glob E w) q268 11
       simp only[errW_some] at hx55
       have hx56:w.cell? ⟨1,0,none⟩=some (errW E (some 12)):=Glob.c1 (upG HG.out)
       simp only[errW_some] at hx56
       have hx57:=fun n_=>Glob.eql_drewN ((upG HG.out):Glob E w) n_ q268 12
       simp only[errW_some] at hx57
       have hx58:=Glob.eql ((upG HG.out):Glob E w) q268 12
       simp only[errW_some] at hx58
       go_enter Tryd.func34,Tryd.ntmps34
       go_wp2
       go_ret
       exact ⟨by first|rfl|(simp;done)|(simp[*];done),by repeat (first|exact Drawn0.refl _|apply Drawn0.step)⟩
      ·
       rw[if_neg c43] at H
       have c43b0:(en q268==en 12)=false:=beq_eq_false_iff_ne.mpr c43
       have c43b1:(en q268 != en 12)=true:=bne_iff_ne.mpr c43
       by_cases c59:en q268=en 13
       ·
        rw[if_pos c59] at H
        have c59b0:(en q268==en 13)=true:=beq_iff_eq.mpr c59
        have c59b1:(en q268 != en 13)=false:=bne_eq_false_iff_eq.mpr c59
        clear c59
        obtain rfl:=Option.some.inj H
        have hx60:w.cell? ⟨8,0,none⟩=some (errW E (some 8)):=Glob.c8 (upG HG.out)
        simp only[errW_some] at hx60
        have hx61:=fun n_=>Glob.eql_drewN ((upG HG.out):Glob E w) n_ q268 8
        simp only[errW_some] at hx61
        have hx62:=Glob.eql ((upG HG.out):Glob E w) q268 8
        simp only[errW_some] at hx62
        have hx63:w.cell? ⟨9,0,none⟩=some (errW E (some 9)):=Glob.c9 (upG HG.out)
        simp only[errW_some] at hx63
        have hx64:=fun n_=>Glob.eql_drewN ((upG HG.out):Glob E w) n_ q268 9
        simp only[errW_some] at hx64
        have hx65:=Glob.eql ((upG HG.out):Glob E w) q268 9
        simp only[errW_some] at hx65
        have hx66:w.cell? ⟨10,0,none⟩=some (errW E (some 10)):=Glob.c10 (upG HG.out)
        simp only[errW_some] at hx66
        have hx67:=fun n_=>Glob.eql_drewN ((upG HG.out):Glob E w) n_ q268 10
        simp only[errW_some] at hx67
        have hx68:=Glob.eql ((upG HG.out):Glob E w) q268 10
        simp only[errW_some] at hx68
        have hx69:w.cell? ⟨11,0,none⟩=some (errW E (some 11)):=Glob.c11 (upG HG.out)
        simp only[errW_some] at hx69
        have hx70:=fun n_=>Glob.eql_drewN ((upG HG.out):Glob E w) n_ q268 11
        simp only[errW_some] at hx70
        have hx71:=Glob.eql ((upG HG.out):Glob E w) q268 11
        simp only[errW_some] at hx71
        have hx72:w.cell? ⟨1,0,none⟩=some (errW E (some 12)):=Glob.c1 (upG HG.out)
        simp only[errW_some] at hx72
        have hx73:=fun n_=>Glob.eql_drewN ((upG HG.out):Glob E w) n_ q268 12
        simp only[errW_some] at hx73
        have hx74:=Glob.eql ((upG HG.out):Glob E w) q268 12
        simp only[errW_some] at hx74
        have hx75:w.cell? ⟨12,0,none⟩=some (errW E (some 13)):=Glob.c12 (upG HG.out)
        simp only[errW_some] at hx75
        have hx76:=fun n_=>Glob.eql_drewN ((upG HG.out):Glob E w) n_ q268 13
        simp only[errW_some] at hx76
        have hx77:=Glob.eql ((upG HG.out):Glob E w) q268 13
        simp only[errW_some] at hx77
        go_enter Tryd.func34,Tryd.ntmps34
        go_wp2
        go_ret
        exact ⟨by first|rfl|(simp;done)|(simp[*];done),by repeat (first|exact Drawn0.refl _|apply Drawn0.step)⟩
       ·
        rw[if_neg c59] at H
        have c59b0:(en q268==en 13)=false:=beq_eq_false_iff_ne.mpr c59
        have c59b1:(en q268 != en 13)=true:=bne_iff_ne.mpr c59
        obtain rfl:=Option.some.inj H
        have hx78:w.cell? ⟨8,0,none⟩=some (errW E (some 8)):=Glob.c8 (upG HG.out)
        simp only[errW_some] at hx78
        have hx79:=fun n_=>Glob.eql_drewN ((upG HG.out):Glob E w) n_ q268 8
        simp only[errW_some] at hx79
        have hx80:=Glob.eql ((upG HG.out):Glob E w) q268 8
        simp only[errW_some] at hx80
        have hx81:w.cell? ⟨9,0,none⟩=some (errW E (some 9)):=Glob.c9 (upG HG.out)
        simp only[errW_some] at hx81
        have hx82:=fun n_=>Glob.eql_drewN ((upG HG.out):Glob E w) n_ q268 9
        simp only[errW_some] at hx82
        have hx83:=Glob.eql ((upG HG.out):Glob E w) q268 9
        simp only[errW_some] at hx83
        have hx84:w.cell? ⟨10,0,none⟩=some (errW E (some 10)):=Glob.c10 (upG HG.out)
        simp only[errW_some] at hx84
        have hx85:=fun n_=>Glob.eql_drewN ((upG HG.out):Glob E w) n_ q268 10
        simp only[errW_some] at hx85
        have hx86:=Glob.eql ((upG HG.out):Glob E w) q268 10
        simp only[errW_some] at hx86
        have hx87:w.cell? ⟨11,0,none⟩=some (errW E (some 11)):=Glob.c11 (upG HG.out)
        simp only[errW_some] at hx87
        have hx88:=fun n_=>Glob.eql_drewN ((upG HG.out):Glob E w) n_ q268 11
        simp only[errW_some] at hx88
        have hx89:=Glob.eql ((upG HG.out):Glob E w) q268 11
        simp only[errW_some] at hx89
        have hx90:w.cell? ⟨1,0,none⟩=some (errW E (some 12)):=Glob.c1 (upG HG.out)
        simp only[errW_some] at hx90
        have hx91:=fun n_=>Glob.eql_drewN ((upG HG.out):Glob E w) n_ q268 12
        simp only[errW_some] at hx91
        have hx92:=Glob.eql ((upG HG.out):Glob E w) q268 12
        simp only[errW_some] at hx92
        have hx93:w.cell? ⟨12,0,none⟩=some (errW E (some 13)):=Glob.c12 (upG HG.out)
        simp only[errW_some] at hx93
        have hx94:=fun n_=>Glob.eql_drewN ((upG HG.out):Glob E w) n_ q268 13
        simp only[errW_some] at hx94
        have hx95:=Glob.eql ((upG HG.out):Glob E w) q268 13
        simp only[errW_some] at hx95
        go_enter Tryd.func34,Tryd.ntmps34
        go_wp2
        go_ret
        exact ⟨by first|rfl|(simp;done)|(simp[*];done),by repeat (first|exact Drawn0.refl _|apply Drawn0.step)⟩

end Go.Proofs.YtdailhlghlledaaDoor.XLeafNew
