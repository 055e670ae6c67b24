-- Printed for this claim by a program (wip/printx) that builds on the kit's print. Not trusted: Lean checks it.
-- slim
import Derived.Test.YtdailhlghlledaaDoorXLeafNewx0
import Derived.Test.YtdailhlghlledaaDoorXLeafNewx2
namespace Go.Proofs.YtdailhlghlledaaDoor.XLeafNew
open Go.RowKit Go.Proofs.YtdailhlghlledaaDoorW.PrintWords Go.Proofs.YtdailhlghlledaaDoorW.PrintLast Go.Proofs.YtdailhlghlledaaDoorW.PrintMore
attribute [local go_sem] max2_int min2_int max_two min_two max_three min_three max_four min_four   -- for this text's walks alone
set_option linter.unusedVariables false
set_option linter.unusedSimpArgs false

/-! ### leaf_Cut: function 18 -/
def leaf_Cut.l0:Nat→List (S58)→List Int→List (S58)→Int→Int→Option ((List (S58))×(List (S58))×Option Int)
 |0,_,_,_,_,_=>none
 |k+1,x0,x5,x10,x11,x12=>if x12<x11 then (if 0≤x12 then (if x12<(x10.length:Int) then ((leaf_cost.f ((rd_T58 x10 x12).f0) ((rd_T58 x10 x12).f1)).bind fun t125=>(if x5.length<17592186044416 then (leaf_Cut.l0 k x0 (x5++[t125]) x10 x11 (wrap64 (x12+1))) else (none))) else (none)) else (none)) else ((cells_Cut.f k x5).bind fun bt129=>(if bt129.2.isNone=true then (if 0≤bt129.1 then (if bt129.1≤(x0.length:Int) then ((some (x0.take (bt129.1:Int).toNat:List (S58))).bind fun y132=>(if ([]:List (S58)).length+y132.length<4398046511104 then ((some (x0.drop (bt129.1:Int).toNat:List (S58))).bind fun y139=>(if ([]:List (S58)).length+y139.length<4398046511104 then (some ((([]:List (S58))++y132),(([]:List (S58))++y139),none)) else (none))) else (none))) else (none)) else (none)) else (some (([]:List (S58)),([]:List (S58)),some (bt129.2.getD 0)))))
def leaf_Cut.f (k:Nat) (l0:List (S58)):Option ((List (S58))×(List (S58))×Option Int):=leaf_Cut.l0 k l0 ([]:List Int) l0 (l0.length:Int) 0
theorem leaf_Cut.mono_l : ∀ k,(∀ y0 y1 y2 y3 y4,LeO (leaf_Cut.l0 k y0 y1 y2 y3 y4) (leaf_Cut.l0 (k+1) y0 y1 y2 y3 y4))
 |0=>fun _ _ _ _ _ r h=>by simp[leaf_Cut.l0] at h
 |k+1=>by
  have ih0:=leaf_Cut.mono_l k
  ·
   intro y0 y1 y2 y3 y4
   unfold leaf_Cut.l0
   repeat' first
   |(with_reducible exact ih0 _ _ _ _ _)
   |(with_reducible exact cells_Cut.mono _ _)
   |(with_reducible exact LeO.refl _)
   |(with_reducible exact LeO.none _)
   |(with_reducible refine LeO.ite ?_ ?_)
   |(with_reducible refine LeO.bind ?_ (fun _=>?_))
   |exact ih0 _ _ _ _ _
   |exact cells_Cut.mono _ _
   |exact LeO.none _
   |refine LeO.ite ?_ ?_
   |refine LeO.bind ?_ (fun _=>?_)
theorem leaf_Cut.mono : ∀ a0 k,LeO (leaf_Cut.f k a0) (leaf_Cut.f (k+1) a0):=by
 intro a0 k
 have ih0:=leaf_Cut.mono_l k
 unfold leaf_Cut.f
 repeat' first
   |(with_reducible exact ih0 _ _ _ _ _)
   |(with_reducible exact cells_Cut.mono _ _)
   |(with_reducible exact LeO.refl _)
   |(with_reducible exact LeO.none _)
   |(with_reducible refine LeO.ite ?_ ?_)
   |(with_reducible refine LeO.bind ?_ (fun _=>?_))
   |exact ih0 _ _ _ _ _
   |exact cells_Cut.mono _ _
   |exact LeO.none _
   |refine LeO.ite ?_ ?_
   |refine LeO.bind ?_ (fun _=>?_)
def leaf_Cut.T10:Bool×List (List Nat×List Nat):=(true,[([],[]),([],[]),([0,1],[0,1]),([2],[2]),([],[]),([],[]),([4,5],[4,5]),([6,3],[6]),([3,7,0,1,2,3],[3]),([7,8,0,1,2,3,4,5,6,7,8],[7]),([9,0,1,2,3,4,5,6,7,8,9],[])])
def leaf_Cut.B10:List Nat:=[0,0,3,7,0,0,48,127,255,511,1023]
theorem leaf_Cut.tab10:rtab .any (opsOf Tryd.f18 10)=leaf_Cut.T10:=by kernel_rfl
theorem leaf_Cut.bits10:waitsOk leaf_Cut.T10.2 leaf_Cut.B10=true:=by kernel_rfl
set_option maxHeartbeats 8000000 in
set_option maxRecDepth 100000 in
theorem leaf_Cut.calls (k:Nat) (E:Int→Addr) (A0:Option Addr) (c0:Nat) (l0:List (S58)) (r1:List (S58)) (r2:List (S58)) (r3:Option Int) (w:World) (hG:Glob E w) (hr0:Kd.C k58 w A0 l0.length l0) (hc0:l0.length≤c0) (h:leaf_Cut.f k l0=some (r1,r2,r3)) :
  Calls Tryd.prog 18 #[.slice A0 l0.length c0] w fun e w'=>∃ v0_ v1_:Value,e=.returned (.tuple #[v0_,v1_,errW E r3])∧Kd.R k58 58 w' w.heap.size (fun k_=>some k_≠(v1_:Value).ownBlock) v0_ r1∧Kd.R k58 58 w' w.heap.size (fun k_=>some k_≠(v0_:Value).ownBlock) v1_ r2∧Below w.heap.size w w':=by
 have hu58:=Tryd.underlying58
 have hu28:=Tryd.underlying28
 have hu100:=Tryd.underlying100
 have HR0:=Aside0.mk hr0
 have HC0:=Aside0.mk hc0
 clear hr0 hc0
 have HB:=Aside0.mk (Below.refl w.heap.size w)
 have HG:=Aside0.mk hG
 clear hG
 have H:(leaf_Cut.l0 k l0 ([]:List Int) l0 (l0.length:Int) 0)=some (r1,r2,r3):=h
 clear h
 have H':=Aside0.mk H
 clear H
 go_enter Tryd.func18,Tryd.ntmps18
 go_wp2
 go_loopg [5,12] k (fun kq v5 v12 w'=>∃ (x5_1:List Int) (x12_1:Int),v12=.int .i64 x12_1∧Aside0 (leaf_Cut.l0 kq l0 x5_1 l0 (l0.length:Int) x12_1=some (r1,r2,r3))∧Aside0 (kq≤k)∧Aside0 (Kd.R (Kd.int .i64) 3 w' w.heap.size (fun _=>True) v5 x5_1)∧Aside0 (Below w.heap.size w w'))
 case atStart=>exact ⟨(([]:List Int)),(0),(by first|rfl|(simp;done)|(simp[*];done)),H',⟨Nat.le_refl _⟩,⟨by first|exact Kd.R_nil _ _ _ _ _|exact Kd.N_nil _ _ _ _ _|exact Kd.V_nil _ _ _ _ _|exact Kd.Q_nil _ _ _ _ _|exact Kd.S_nil _ _ _ _ _⟩,⟨upB HB.out⟩⟩
 case round=>
  clear H'
  try clear c1
  obtain⟨x5_1,x12_1,rfl,HA,HK1,HO_5,HB⟩:=hrel
  cases gk with
  |zero=>exact absurd HA.out (by simp[leaf_Cut.l0])
  |succ k1=>
   have H:=HA.out
   clear HA
   simp only[leaf_Cut.l0] at H
   by_cases c2:x12_1<(l0.length:Int)
   ·
    rw[if_pos c2] at H
    have c2b0:decide (x12_1<(l0.length:Int))=true:=decide_eq_true c2
    clear c2
    by_cases c3:0≤x12_1
    ·
     rw[if_pos c3] at H
     have c3b0:decide (0≤x12_1)=true:=decide_eq_true c3
     clear c3
     by_cases c4:x12_1<(l0.length:Int)
     ·
      rw[if_pos c4] at H
      have c4b0:decide (x12_1<(l0.length:Int))=true:=decide_eq_true c4
      clear c4
      replace H:=Option.bind_eq_some_iff.mp H
      obtain⟨t125,A50,H⟩:=H
      try dsimp only at H
      have A5:=Aside0.mk A50
      clear A50
      by_cases c6:x5_1.length<17592186044416
      ·
       rw[if_pos c6] at H
       have LMc6:=Aside0.mk c6
       clear c6
       obtain⟨y126,hy126⟩ : ∃ y_:List Int,y_=(x5_1++[t125]):=⟨_,rfl⟩
       replace H:(leaf_Cut.l0 k1 l0 y126 l0 (l0.length:Int) (wrap64 (x12_1+1)))=some (r1,r2,r3):=by first|(rw[hy126];with_reducible exact H)|(have H2_:=(Option.bind_some _ _).symm.trans H;rw[hy126];with_reducible exact H2_)|(have H2_:=(Option.bind_some _ _).symm.trans H;with_reducible exact H2_)|with_reducible exact H|(rw[hy126];exact H)|exact H
       have Ny126:=Aside0.mk hy126
       clear hy126
       have H':=Aside0.mk H
       clear H
       have p123:0≤(x12_1:Int):=of_decide_eq_true (by assumption)
       have q123:x12_1<(l0.length:Int):=of_decide_eq_true (by assumption)
       obtain⟨ad123,e123,hx123_0,hx123_1⟩:=at_T58 HR0.out x12_1 p123 q123
       cases e123
       replace hx123_0:=(HB.out.cell (World.block_lt_of_cell? w _ hx123_0)).trans hx123_0
       replace hx123_1:=(HB.out.cell (World.block_lt_of_cell? w _ hx123_1)).trans hx123_1
       replace p123:=eq_true p123
       replace q123:=eq_true q123
       go_wp2_with (first|((with_reducible refine gate_dst (N:=7) rfl ?_);refine box_event ?hg (N:=7) ?hd (cs:=#[.string (⟨#[]⟩:ByteArray),.string (⟨#[]⟩:ByteArray)]) (t:=58) ?hr ?_;(case hd=>rfl);(case hg=>rfl);(case hr=>first|(go_simp;done)|(go_simp;rfl));intro gb124 hg w7 hbox hb;have n0_:=Aside0.mk (Kd.R_below (upK HO_5.out) hb);have n1_:=Aside0.mk (below_step (upB HB.out) hb);have n2_:=Aside0.mk (hbox);have n3_:=Aside0.mk ((by rw[hg];exact (below_size (upB HB.out)):w.heap.size≤gb124));have n4_:=Aside0.mk ((by rw[hg];exact (below_size (upB HB.out)):w.heap.size≤gb124));clear HO_5;clear HB;have HO_5:=n0_;have HB:=n1_;have BK124:=n2_;have GW124:=n3_;have GE124:=n4_;clear n0_ n1_ n2_ n3_ n4_;clear hb hbox hg;have hcz8_0:w7.cell? ⟨gb124,0,none⟩=some (.string (⟨#[]⟩:ByteArray)):=(blk_cell BK124.out 0).trans rfl;have hcz8_1:w7.cell? ⟨gb124,1,none⟩=some (.string (⟨#[]⟩:ByteArray)):=(blk_cell BK124.out 1).trans rfl;have hfz8_0:=blk_frozen BK124.out 0;have hfz8_1:=blk_frozen BK124.out 1)|((with_reducible refine gate_callee (f:=33) rfl ?_);refine goesL_ (some 18) rfl rfl Tryd.func33 (by kernel_rfl) rfl #[.agg #[.string ((rd_T58 l0 x12_1).f0),.string ((rd_T58 l0 x12_1).f1)]] rfl (by (try simp only[ml_]);first|done|rfl|(simp only[List.length_drop,List.length_take];rfl)) ?_;(with_reducible refine (leaf_cost.calls ((rd_T58 l0 x12_1).f0) ((rd_T58 l0 x12_1).f1) t125 _ A5.out).mono ?_);rintro e w9 ⟨rfl,hb⟩;refine ⟨_,rfl,?_⟩;have n0_:=Aside0.mk (Kd.R_below (by (with_reducible repeat (first|apply Kd.R_alloc|apply Kd.R_drewN|apply Kd.R_drew));exact (Kd.R_mono (Kd.R_far (p:=⟨gb124,1,none⟩) (Kd.R_far (p:=⟨gb124,0,none⟩) (Kd.R_types HO_5.out BK124.out (by decide)) (fun _ hk=>hk.2) (.string ((rd_T58 l0 x12_1).f0))) (fun _ hk=>hk.2) (.string ((rd_T58 l0 x12_1).f1))) (fun _ h_=>h_.1))) hb);have n1_:=Aside0.mk (blk_below (g:=gb124) (o:=.cells #[.string ((rd_T58 l0 x12_1).f0),.string ((rd_T58 l0 x12_1).f1)] 58 (0,0)) (by (with_reducible repeat (first|refine blk_drewN ?_ _|refine blk_drew ?_|refine blk_alloc ?_ _));refine blk_put (cs:=#[.string ((rd_T58 l0 x12_1).f0),.string (⟨#[]⟩:ByteArray)]) ?_ 1 _ rfl;(with_reducible repeat (first|refine blk_drewN ?_ _|refine blk_drew ?_|refine blk_alloc ?_ _));refine blk_put (cs:=#[.string (⟨#[]⟩:ByteArray),.string (⟨#[]⟩:ByteArray)]) ?_ 0 _ rfl;(with_reducible repeat (first|refine blk_drewN ?_ _|refine blk_drew ?_|refine blk_alloc ?_ _));exact BK124.out) hb);have n2_:=Aside0.mk (below_step (by repeat (first|exact upB HB.out|refine below_set ?_ GE124.out)) hb);clear HO_5;clear BK124;clear HB;have HO_5:=n0_;have BK124:=n1_;have HB:=n2_;clear n0_ n1_ n2_;(try clear hb);(try clear hb2);(try clear hk);(try clear hi))|((with_reducible refine gate_builtin (b:=.append) (xs:=#[.tmp 16,.tmp 19]) rfl ?_);at_builtin;refine Kd.R_append (Kd.int .i64) (w0:=w) w.heap.size rfl (.tmp 16) (.tmp 19) 65 3 (.int .i64 0) 8 rfl Tryd.underlying65 info3 rfl (by decide) (by omega) u5 x5_1 t125 [.int .i64 t125] (fun _=>True) (fun _=>False) rfl rfl ?aP (fun _ hk=>hk.elim) ?aF ?aO ?aB ?aS ?aL ?_;(case aP=>exact rfl);(case aB=>exact (by repeat (first|exact upB HB.out|refine below_set ?_ GE124.out)));(case aF=>exact (fun _ _=>trivial));(case aO=>exact (upK HO_5.out));(case aS=>exact (below_size (by repeat (first|exact upB HB.out|refine below_set ?_ GE124.out))));(case aL=>have:=LMc6.out;omega);intro v127 w10 ho hb hg hat;rw[←Ny126.out] at ho;have n0_:=Aside0.mk (blk_grown (g:=gb124) (o:=.cells #[.string ((rd_T58 l0 x12_1).f0),.string ((rd_T58 l0 x12_1).f1)] 58 (0,0)) (upX BK124.out) hg (Kd.R_ne HO_5.out BK124.out (by decide)));have n1_:=Aside0.mk (hb);have n2_:=Aside0.mk (ho);clear BK124;clear HB;clear HO_5;have BK124:=n0_;have HB:=n1_;have HO128:=n2_;clear n0_ n1_ n2_;clear ho hb hg hat))
       go_roundg k1
       case measure=>have:=HK1.out;omega
       case rel=>exact ⟨(y126),(wrap64 (x12_1+1)),(by first|rfl|(simp;done)|(simp[*];done)),H',⟨by have:=HK1.out;omega⟩,⟨by (with_reducible repeat (first|apply Kd.R_alloc|apply Kd.R_drewN|apply Kd.R_drew));exact HO128.out⟩,⟨by repeat (first|exact upB HB.out|refine below_set ?_ GE124.out|apply pw_below_drewN)⟩⟩
      ·
       rw[if_neg c6] at H
       exact absurd H (by simp)
     ·
      rw[if_neg c4] at H
      exact absurd H (by simp)
    ·
     rw[if_neg c3] at H
     exact absurd H (by simp)
   ·
    rw[if_neg c2] at H
    have c2b0:decide (x12_1<(l0.length:Int))=false:=decide_eq_false c2
    clear c2
    replace H:=Option.bind_eq_some_iff.mp H
    obtain⟨⟨t129,t130⟩,A110,H⟩:=H
    try dsimp only at H
    have A11:=Aside0.mk A110
    clear A110
    rcases t130 with _|q131
    ·
     have H1:(if 0≤t129 then (if t129≤(l0.length:Int) then ((some (l0.take (t129:Int).toNat:List (S58))).bind fun y132=>(if ([]:List (S58)).length+y132.length<4398046511104 then ((some (l0.drop (t129:Int).toNat:List (S58))).bind fun y139=>(if ([]:List (S58)).length+y139.length<4398046511104 then (some ((([]:List (S58))++y132),(([]:List (S58))++y139),none)) else (none))) else (none))) else (none)) else (none))=some (r1,r2,r3):=by rw[if_pos (show (none:Option Int).isNone=true by rfl)] at H;exact H
     clear H
     have H:=H1
     clear H1
     try simp only[errW_none,errW_some]
     by_cases c12:0≤t129
     ·
      rw[if_pos c12] at H
      have c12b0:=eq_true c12
      have c12b1:decide (0≤t129)=true:=decide_eq_true c12
      clear c12
      by_cases c13:t129≤(l0.length:Int)
      ·
       rw[if_pos c13] at H
       have c13b0:=eq_true c13
       have c13b1:decide (t129≤(l0.length:Int))=true:=decide_eq_true c13
       clear c13
       obtain⟨y132,hy132⟩ : ∃ y_:List (S58),y_=(l0.take (t129:Int).toNat):=⟨_,rfl⟩
       replace H:(if ([]:List (S58)).length+y132.length<4398046511104 then ((some (l0.drop (t129:Int).toNat:List (S58))).bind fun y139=>(if ([]:List (S58)).length+y139.length<4398046511104 then (some ((([]:List (S58))++y132),(([]:List (S58))++y139),none)) else (none))) else (none))=some (r1,r2,r3):=by first|(rw[hy132];with_reducible exact H)|(have H2_:=(Option.bind_some _ _).symm.trans H;rw[hy132];with_reducible exact H2_)|(have H2_:=(Option.bind_some _ _).symm.trans H;with_reducible exact H2_)|with_reducible exact H|(rw[hy132];exact H)|exact H
       have Ny132:=Aside0.mk hy132
       clear hy132
       by_cases c14:([]:List (S58)).length+y132.length<4398046511104
       ·
        rw[if_pos c14] at H
        have LMc14:=Aside0.mk c14
        clear c14
        obtain⟨y136,hy136⟩ : ∃ y_:List (S58),y_=(([]:List (S58))++y132):=⟨_,rfl⟩
        replace H:((some (l0.drop (t129:Int).toNat:List (S58))).bind fun y139=>(if ([]:List (S58)).length+y139.length<4398046511104 then (some (y136,(([]:List (S58))++y139),none)) else (none)))=some (r1,r2,r3):=by first|(rw[hy136];with_reducible exact H)|(have H2_:=(Option.bind_some _ _).symm.trans H;rw[hy136];with_reducible exact H2_)|(have H2_:=(Option.bind_some _ _).symm.trans H;with_reducible exact H2_)|with_reducible exact H|(rw[hy136];exact H)|exact H
        have Ny136:=Aside0.mk hy136
        clear hy136
        have c15b0:=eq_true (of_decide_eq_true (by assumption):0≤t129)
        have c16b0:=eq_true (of_decide_eq_true (by assumption):t129≤(l0.length:Int))
        obtain⟨y139,hy139⟩ : ∃ y_:List (S58),y_=(l0.drop (t129:Int).toNat):=⟨_,rfl⟩
        replace H:(if ([]:List (S58)).length+y139.length<4398046511104 then (some (y136,(([]:List (S58))++y139),none)) else (none))=some (r1,r2,r3):=by first|(rw[hy139];with_reducible exact H)|(have H2_:=(Option.bind_some _ _).symm.trans H;rw[hy139];with_reducible exact H2_)|(have H2_:=(Option.bind_some _ _).symm.trans H;with_reducible exact H2_)|with_reducible exact H|(rw[hy139];exact H)|exact H
        have Ny139:=Aside0.mk hy139
        clear hy139
        by_cases c17:([]:List (S58)).length+y139.length<4398046511104
        ·
         rw[if_pos c17] at H
         have LMc17:=Aside0.mk c17
         clear c17
         obtain⟨y143,hy143⟩ : ∃ y_:List (S58),y_=(([]:List (S58))++y139):=⟨_,rfl⟩
         replace H:(some (y136,y143,none))=some (r1,r2,r3):=by first|(rw[hy143];with_reducible exact H)|(have H2_:=(Option.bind_some _ _).symm.trans H;rw[hy143];with_reducible exact H2_)|(have H2_:=(Option.bind_some _ _).symm.trans H;with_reducible exact H2_)|with_reducible exact H|(rw[hy143];exact H)|exact H
         have Ny143:=Aside0.mk hy143
         clear hy143
         simp only[Option.some.injEq,Prod.mk.injEq] at H
         obtain⟨rfl,rfl,rfl⟩:=H
         obtain⟨Ao18,co18,eo18⟩:=Kd.R_slice HO_5.out
         subst eo18
         try go_wp2_with (first|((with_reducible refine gate_callee (f:=36) rfl ?_);refine goesL_ (some 24) rfl rfl Tryd.func36 (by kernel_rfl) rfl #[.slice Ao18 x5_1.length co18] rfl (by (try simp only[ml_]);first|done|rfl|(simp only[List.length_drop,List.length_take];rfl)) ?_;(with_reducible refine (cells_Cut.calls k1 E _ _ x5_1 t129 none _ ?side1 ?side2 ?side3 A11.out).mono ?_);(case side1=>exact (Glob.below HG.out (upB HB.out)));(case side2=>exact upC (Kd.R_reads' HO_5.out).2.2);(case side3=>exact (Kd.R_reads' HO_5.out).2.1);rintro e w19 ⟨rfl,hb⟩;refine ⟨_,rfl,?_⟩;have n0_:=Aside0.mk (Kd.R_below (upK HO_5.out) hb);have n1_:=Aside0.mk (below_step (upB HB.out) hb);clear HO_5;clear HB;have HO_5:=n0_;have HB:=n1_;clear n0_ n1_;(try clear hb);(try clear hb2);(try clear hk);(try clear hi);(try simp only[errW_none,errW_some])))
         have n0_:=Aside0.mk (Kd.R_drew HO_5.out)
         have n1_:=Aside0.mk (below_drew1 HB.out)
         clear HO_5
         clear HB
         have HO_5:=n0_
         have HB:=n1_
         clear n0_ n1_
         have q21:(t129:Int)≤((l0.length:Int):Int):=of_decide_eq_true (by assumption)
         obtain⟨i021,hi021,_,hsz21,_⟩:=info_parts info58
         have hroom21:l0.length≤c0:=HC0.out
         have hC21:Kd.C k58 _ A0 l0.length l0:=HR0.out
         have hcut21:=cut_to (P:=Tryd.prog) 22 58 .i64 Tryd.underlying22 hi021 A0 l0.length c0 t129 (of_decide_eq_true (by assumption)) q21 hroom21
         have hr21:=Kd.C_take (m:=(t129:Int).toNat) hC21 (by omega)
         have hy21:y132.length=(t129:Int).toNat:=(by rw[Ny132.out,List.length_take];omega)
         rw[←Ny132.out] at hr21
         rw[←hy21] at hcut21
         have HR135:=Aside0.mk hr21
         have HC135:=Aside0.mk (show y132.length≤c0 from by omega)
         clear hr21 hC21 hroom21 hi021 hsz21
         have KY21:=Aside0.mk hy21
         clear hy21
         replace q21:=eq_true q21
         have q22:(t129:Int)≤((l0.length:Int):Int):=of_decide_eq_true (by assumption)
         obtain⟨i022,hi022,_,hsz22,_⟩:=info_parts info58
         have hroom22:l0.length≤c0:=HC0.out
         have hC22:Kd.C k58 _ A0 l0.length l0:=HR0.out
         have q022:(0:Int)≤(t129:Int):=of_decide_eq_true (by assumption)
         have hcut22:=cut_from (P:=Tryd.prog) 22 58 .i64 Tryd.underlying22 hi022 2 hsz22 A0 l0.length c0 t129 q022 q22
         have hr22:=Kd.C_drop (m:=(t129:Int).toNat) (c:=c0) hC22 (by omega) hroom22
         obtain⟨A22,hA22⟩ : ∃ A1,A1=(if c0=(t129:Int).toNat then A0 else (A0:Option Addr).map (·.add ((t129:Int).toNat*2))):=⟨_,rfl⟩
         obtain⟨c22,hc22⟩ : ∃ c1,c1=c0 - (t129:Int).toNat:=⟨_,rfl⟩
         have hy22:y139.length=l0.length - (t129:Int).toNat:=(by rw[Ny139.out,List.length_drop] <;> omega)
         rw[show (l0).drop (t129:Int).toNat=y139 from Ny139.out.symm] at hr22
         replace hr22:Kd.C k58 _ A22 y139.length y139:=(by rw[hA22];exact hr22)
         rw[←hy22,←hA22,←hc22] at hcut22
         have HR142:=Aside0.mk hr22
         have HC142:=Aside0.mk (show y139.length≤c22 from by rw[hy22,hc22];exact Nat.sub_le_sub_right hroom22 _)
         clear hr22 hC22 hroom22 hi022 hsz22 hc22
         have KY22:=Aside0.mk hy22
         have KA22:=Aside0.mk hA22
         clear hy22 hA22
         replace q22:=eq_true q22
         refine start_ (n:=11) (S:=fun w'=>True) (ds:=[]) #[false,false,false,false,false,false,false,false,false,false,false] (by kernel_rfl) rfl rfl trivial (fun hHeld=>?_);refine with_tabW leaf_Cut.tab10 leaf_Cut.bits10 (fun HT_ HW_=>?_)
         generalize w19.drew=w20 at HO_5 HB HR135 HR142 hHeld ⊢
         refine pure_ (i:=0) (N:=some 30) (v:=?_) (a':=?_) #[true,false,false,false,false,false,false,false,false,false,false] rfl rfl (any_of HT_.out (by kernel_rfl)) (fun _ _ _ h=>h) (Or.inl ⟨by rfl,?_⟩) ?_ ?_
         rotate_left
         ·
          intro w'
          go_simp
          with_reducible rfl
         rotate_left
         ·
          simp only[pt_]
          rfl
         refine pure_ (i:=1) (N:=some 31) (v:=?_) (a':=?_) #[true,true,false,false,false,false,false,false,false,false,false] rfl rfl (any_of HT_.out (by kernel_rfl)) (fun _ _ _ h=>h) (Or.inl ⟨by rfl,?_⟩) ?_ ?_
         rotate_left
         ·
          intro w'
          go_simp
          with_reducible rfl
         rotate_left
         ·
          simp only[pt_]
          rfl
         refine pure_ (i:=2) (N:=some 32) (v:=?_) (a':=?_) #[true,true,true,false,false,false,false,false,false,false,false] rfl rfl (any_of HT_.out (by kernel_rfl)) (fun _ _ _ h=>h) (Or.inl ⟨by rfl,?_⟩) ?_ ?_
         rotate_left
         ·
          intro w'
          go_simp
          with_reducible rfl
         rotate_left
         ·
          simp only[pt_]
          rfl
         refine pure_ (i:=4) (N:=some 34) (v:=?_) (a':=?_) #[true,true,true,false,true,false,false,false,false,false,false] rfl rfl (any_of HT_.out (by kernel_rfl)) (fun _ _ _ h=>h) (Or.inl ⟨by rfl,?_⟩) ?_ ?_
         rotate_left
         ·
          intro w'
          go_simp
          with_reducible rfl
         rotate_left
         ·
          simp only[pt_]
          rfl
         refine pure_ (i:=5) (N:=some 35) (v:=?_) (a':=?_) #[true,true,true,false,true,true,false,false,false,false,false] rfl rfl (any_of HT_.out (by kernel_rfl)) (fun _ _ _ h=>h) (Or.inl ⟨by rfl,?_⟩) ?_ ?_
         rotate_left
         ·
          intro w'
          go_simp
          with_reducible rfl
         rotate_left
         ·
          simp only[pt_]
          rfl
         refine pure_ (i:=6) (N:=some 36) (v:=?_) (a':=?_) #[true,true,true,false,true,true,true,false,false,false,false] rfl rfl (any_of HT_.out (by kernel_rfl)) (fun _ _ _ h=>h) (Or.inl ⟨by rfl,?_⟩) ?_ ?_
         rotate_left
         ·
          intro w'
          go_simp
          with_reducible rfl
         rotate_left
         ·
          simp only[pt_]
          rfl
         refine one_ (i:=3) (N:=some 33) #[true,true,true,true,true,true,true,false,false,false,false] rfl rfl (one_of HT_.out (by kernel_rfl)) (by decide) (fun K hK=>?_)
         refine Kd.R_append_rows_step k58 (w0:=w) w.heap.size (by rfl) (.const (.slice none 0 0)) (.tmp 32) 22 58 (.agg #[(.string ⟨#[]⟩),(.string ⟨#[]⟩)]) 32 rfl Tryd.underlying22 info58 rfl (by decide) (by omega) (.slice none 0 0) ([]:List (S58)) y132 _ _ _ (fun _=>True) (fun _=>False) rfl rfl ?aO ?aR (fun _ _ h=>h) (fun _ h=>h.elim) ?aF ?aB ?aS ?aL ?_
         (case aR=>exact upC (Kd.C_below HR135.out HB.out))
         (case aB=>exact (upB HB.out))
         (case aF=>exact (fun _ _=>trivial))
         (case aO=>exact ((Kd.R_nil _ _ _ _ (fun _=>True))))
         (case aS=>exact (below_size (upB HB.out)))
         (case aL=>have:=LMc14.out;omega)
         intro v137 w23 ho hb hg hat
         rw[←Ny136.out] at ho
         have n0_:=Aside0.mk (Kd.R_grown (upK HO_5.out) hg (fun _ _=>by simp[Value.ownBlock]))
         have n1_:=Aside0.mk (hb)
         have n2_:=Aside0.mk (ho)
         clear HO_5
         clear HB
         have HO_5:=n0_
         have HB:=n1_
         have HO138:=n2_
         clear n0_ n1_ n2_
         clear ho hb hg hat
         refine hK.out _ _ trivial (fun hHeld=>?_)
         clear hK K
         refine norm_ (a':=?_) ?_ ?_
         rotate_left
         ·
          show Act.put _ (some 33) _=_
          simp only[pt_]
          rfl
         refine one_ (i:=7) (N:=some 37) #[true,true,true,true,true,true,true,true,false,false,false] rfl rfl (one_of HT_.out (by kernel_rfl)) (by decide) (fun K hK=>?_)
         refine Kd.R_append_rows_step k58 (w0:=w) w.heap.size (by rfl) (.const (.slice none 0 0)) (.tmp 36) 22 58 (.agg #[(.string ⟨#[]⟩),(.string ⟨#[]⟩)]) 32 rfl Tryd.underlying22 info58 rfl (by decide) (by omega) (.slice none 0 0) ([]:List (S58)) y139 _ _ _ (fun k_=>some k_≠(v137:Value).ownBlock) (fun _=>False) rfl rfl ?aO ?aR (fun _ _ h=>h) (fun _ h=>h.elim) ?aF ?aB ?aS ?aL ?_
         (case aR=>exact upC (Kd.C_below HR142.out HB.out))
         (case aB=>exact (upB HB.out))
         (case aF=>exact (fun k_ hk=>Kd.fresh' (Kd.R_lt (upK HO138.out)) k_ hk))
         (case aO=>exact ((Kd.R_nil _ _ _ _ (fun k_=>some k_≠(v137:Value).ownBlock))))
         (case aS=>exact (below_size (upB HB.out)))
         (case aL=>have:=LMc17.out;omega)
         intro v144 w24 ho hb hg hat
         rw[←Ny143.out] at ho
         have n0_:=Aside0.mk (Kd.R_grown (upK HO_5.out) hg (fun _ _=>by simp[Value.ownBlock]))
         have n1_:=Aside0.mk (Kd.R_after (Kd.R_apart_nil (upK HO138.out)) hg hat)
         have n2_:=Aside0.mk (hb)
         have n3_:=Aside0.mk (ho)
         clear HO_5
         clear HO138
         clear HB
         have HO_5:=n0_
         have HO138:=n1_
         have HB:=n2_
         have HO145:=n3_
         clear n0_ n1_ n2_ n3_
         clear ho hb hg hat
         refine hK.out _ _ trivial (fun hHeld=>?_)
         clear hK K
         refine norm_ (a':=?_) ?_ ?_
         rotate_left
         ·
          show Act.put _ (some 37) _=_
          simp only[pt_]
          rfl
         refine pure_ (i:=8) (N:=some 2) (v:=?_) (a':=?_) #[true,true,true,true,true,true,true,true,true,false,false] rfl rfl (any_of HT_.out (by kernel_rfl)) (fun _ _ _ h=>h) (Or.inl ⟨by rfl,?_⟩) ?_ ?_
         rotate_left
         ·
          intro w'
          go_simp
          with_reducible rfl
         rotate_left
         ·
          simp only[pt_]
          rfl
         refine pure_ (i:=9) (N:=some 3) (v:=?_) (a':=?_) #[true,true,true,true,true,true,true,true,true,true,false] rfl rfl (any_of HT_.out (by kernel_rfl)) (fun _ _ _ h=>h) (Or.inl ⟨by rfl,?_⟩) ?_ ?_
         rotate_left
         ·
          intro w'
          go_simp
          with_reducible rfl
         rotate_left
         ·
          simp only[pt_]
          rfl
         refine pure_ (i:=10) (N:=some 4) (v:=?_) (a':=?_) #[true,true,true,true,true,true,true,true,true,true,true] rfl rfl (any_of HT_.out (by kernel_rfl)) (fun _ _ _ h=>h) (Or.inl ⟨by rfl,?_⟩) ?_ ?_
         rotate_left
         ·
          intro w'
          go_simp
          with_reducible rfl
         rotate_left
         ·
          simp only[pt_]
          rfl
         refine done_ (done_of HT_.out (by kernel_rfl)) ?_
         try go_wp2
         go_ret3
         exact ⟨_,_,by first|rfl|(simp[errW_none,errW_some] <;> rfl)|(simp[*,errW_none,errW_some] <;> rfl),by exact Kd.R_mono (upK HO138.out) (fun _ hk=>hk.2),by (with_reducible repeat (first|apply Kd.R_alloc|apply Kd.R_drewN|apply Kd.R_drew));exact HO145.out,upB HB.out⟩
        ·
         rw[if_neg c17] at H
         exact absurd H (by simp)
       ·
        rw[if_neg c14] at H
        exact absurd H (by simp)
      ·
       rw[if_neg c13] at H
       exact absurd H (by simp)
     ·
      rw[if_neg c12] at H
      exact absurd H (by simp)
    ·
     have H1:(some (([]:List (S58)),([]:List (S58)),some q131))=some (r1,r2,r3):=by rw[if_neg (show ¬ (some q131).isNone=true by simp)] at H;exact H
     clear H
     have H:=H1
     clear H1
     try simp only[errW_none,errW_some]
     simp only[Option.some.injEq,Prod.mk.injEq] at H
     obtain⟨rfl,rfl,rfl⟩:=H
     obtain⟨Ao25,co25,eo25⟩:=Kd.R_slice HO_5.out
     subst eo25
     go_wp2_with (first|((with_reducible refine gate_callee (f:=36) rfl ?_);refine goesL_ (some 24) rfl rfl Tryd.func36 (by kernel_rfl) rfl #[.slice Ao25 x5_1.length co25] rfl (by (try simp only[ml_]);first|done|rfl|(simp only[List.length_drop,List.length_take];rfl)) ?_;(with_reducible refine (cells_Cut.calls k1 E _ _ x5_1 t129 (some q131) _ ?side1 ?side2 ?side3 A11.out).mono ?_);(case side1=>exact (Glob.below HG.out (upB HB.out)));(case side2=>exact upC (Kd.R_reads' HO_5.out).2.2);(case side3=>exact (Kd.R_reads' HO_5.out).2.1);rintro e w26 ⟨rfl,hb⟩;refine ⟨_,rfl,?_⟩;have n0_:=Aside0.mk (Kd.R_below (upK HO_5.out) hb);have n1_:=Aside0.mk (below_step (upB HB.out) hb);clear HO_5;clear HB;have HO_5:=n0_;have HB:=n1_;clear n0_ n1_;(try clear hb);(try clear hb2);(try clear hk);(try clear hi);(try simp only[errW_none,errW_some])))
     go_ret3
     exact ⟨_,_,by first|rfl|(simp[errW_none,errW_some] <;> rfl)|(simp[*,errW_none,errW_some] <;> rfl),by first|exact Kd.R_nil _ _ _ _ _|exact Kd.N_nil _ _ _ _ _|exact Kd.V_nil _ _ _ _ _|exact Kd.Q_nil _ _ _ _ _|exact Kd.S_nil _ _ _ _ _,by first|exact Kd.R_nil _ _ _ _ _|exact Kd.N_nil _ _ _ _ _|exact Kd.V_nil _ _ _ _ _|exact Kd.Q_nil _ _ _ _ _|exact Kd.S_nil _ _ _ _ _,upB HB.out⟩

/-! ### leaf_Size: function 12 -/
def leaf_Size.l0:Nat→Int→List (S58)→Int→Int→Option (Int)
 |0,_,_,_,_=>none
 |k+1,x3,x6,x7,x8=>if x8<x7 then (if 0≤x8 then (if x8<(x6.length:Int) then ((leaf_cost.f ((rd_T58 x6 x8).f0) ((rd_T58 x6 x8).f1)).bind fun t148=>(leaf_Size.l0 k (wrap64 (x3+t148)) x6 x7 (wrap64 (x8+1)))) else (none)) else (none)) else (some x3)
def leaf_Size.f (k:Nat) (l0:List (S58)):Option (Int):=leaf_Size.l0 k 0 l0 (l0.length:Int) 0
theorem leaf_Size.mono_l : ∀ k,(∀ y0 y1 y2 y3,LeO (leaf_Size.l0 k y0 y1 y2 y3) (leaf_Size.l0 (k+1) y0 y1 y2 y3))
 |0=>fun _ _ _ _ r h=>by simp[leaf_Size.l0] at h
 |k+1=>by
  have ih0:=leaf_Size.mono_l k
  ·
   intro y0 y1 y2 y3
   unfold leaf_Size.l0
   repeat' first
   |(with_reducible exact ih0 _ _ _ _)
   |(with_reducible exact LeO.refl _)
   |(with_reducible exact LeO.none _)
   |(with_reducible refine LeO.ite ?_ ?_)
   |(with_reducible refine LeO.bind ?_ (fun _=>?_))
   |exact ih0 _ _ _ _
   |exact LeO.none _
   |refine LeO.ite ?_ ?_
   |refine LeO.bind ?_ (fun _=>?_)
theorem leaf_Size.mono : ∀ a0 k,LeO (leaf_Size.f k a0) (leaf_Size.f (k+1) a0):=by
 intro a0 k
 have ih0:=leaf_Size.mono_l k
 unfold leaf_Size.f
 repeat' first
   |(with_reducible exact ih0 _ _ _ _)
   |(with_reducible exact LeO.refl _)
   |(with_reducible exact LeO.none _)
   |(with_reducible refine LeO.ite ?_ ?_)
   |(with_reducible refine LeO.bind ?_ (fun _=>?_))
   |exact ih0 _ _ _ _
   |exact LeO.none _
   |refine LeO.ite ?_ ?_
   |refine LeO.bind ?_ (fun _=>?_)
set_option maxHeartbeats 8000000 in
set_option maxRecDepth 100000 in
theorem leaf_Size.calls (k:Nat) (A0:Option Addr) (c0:Nat) (l0:List (S58)) (r:Int) (w:World) (hr0:Kd.C k58 w A0 l0.length l0) (hc0:l0.length≤c0) (h:leaf_Size.f k l0=some r) :
  Calls Tryd.prog 12 #[.slice A0 l0.length c0] w fun e w'=>e=.returned (.int .i64 r)∧Below w.heap.size w w':=by
 have hu58:=Tryd.underlying58
 have HR0:=Aside0.mk hr0
 have HC0:=Aside0.mk hc0
 clear hr0 hc0
 have HB:=Aside0.mk (Below.refl w.heap.size w)
 have H:(leaf_Size.l0 k 0 l0 (l0.length:Int) 0)=some r:=h
 clear h
 have H':=Aside0.mk H
 clear H
 go_enter Tryd.func12,Tryd.ntmps12
 go_wp2
 go_loopg [3,8] k (fun kq v3 v8 w'=>∃ (x3_1:Int) (x8_1:Int),v3=.int .i64 x3_1∧v8=.int .i64 x8_1∧Aside0 (leaf_Size.l0 kq x3_1 l0 (l0.length:Int) x8_1=some r)∧Aside0 (kq≤k)∧Aside0 (Below w.heap.size w w'))
 case atStart=>exact ⟨(0),(0),(by first|rfl|(simp;done)|(simp[*];done)),(by first|rfl|(simp;done)|(simp[*];done)),H',⟨Nat.le_refl _⟩,⟨upB HB.out⟩⟩
 case round=>
  clear H'
  try clear c1
  obtain⟨x3_1,x8_1,rfl,rfl,HA,HK1,HB⟩:=hrel
  cases gk with
  |zero=>exact absurd HA.out (by simp[leaf_Size.l0])
  |succ k1=>
   have H:=HA.out
   clear HA
   simp only[leaf_Size.l0] at H
   by_cases c2:x8_1<(l0.length:Int)
   ·
    rw[if_pos c2] at H
    have c2b0:decide (x8_1<(l0.length:Int))=true:=decide_eq_true c2
    clear c2
    by_cases c3:0≤x8_1
    ·
     rw[if_pos c3] at H
     have c3b0:decide (0≤x8_1)=true:=decide_eq_true c3
     clear c3
     by_cases c4:x8_1<(l0.length:Int)
     ·
      rw[if_pos c4] at H
      have c4b0:decide (x8_1<(l0.length:Int))=true:=decide_eq_true c4
      clear c4
      replace H:=Option.bind_eq_some_iff.mp H
      obtain⟨t148,A50,H⟩:=H
      try dsimp only at H
      have A5:=Aside0.mk A50
      clear A50
      have H':=Aside0.mk H
      clear H
      have p146:0≤(x8_1:Int):=of_decide_eq_true (by assumption)
      have q146:x8_1<(l0.length:Int):=of_decide_eq_true (by assumption)
      obtain⟨ad146,e146,hx146_0,hx146_1⟩:=at_T58 HR0.out x8_1 p146 q146
      cases e146
      replace hx146_0:=(HB.out.cell (World.block_lt_of_cell? w _ hx146_0)).trans hx146_0
      replace hx146_1:=(HB.out.cell (World.block_lt_of_cell? w _ hx146_1)).trans hx146_1
      replace p146:=eq_true p146
      replace q146:=eq_true q146
      go_wp2_with (first|((with_reducible refine gate_dst (N:=5) rfl ?_);refine box_event ?hg (N:=5) ?hd (cs:=#[.string (⟨#[]⟩:ByteArray),.string (⟨#[]⟩:ByteArray)]) (t:=58) ?hr ?_;(case hd=>rfl);(case hg=>rfl);(case hr=>first|(go_simp;done)|(go_simp;rfl));intro gb147 hg w6 hbox hb;have n0_:=Aside0.mk (below_step (upB HB.out) hb);have n1_:=Aside0.mk (hbox);have n2_:=Aside0.mk ((by rw[hg];exact (below_size (upB HB.out)):w.heap.size≤gb147));have n3_:=Aside0.mk ((by rw[hg];exact (below_size (upB HB.out)):w.heap.size≤gb147));clear HB;have HB:=n0_;have BK147:=n1_;have GW147:=n2_;have GE147:=n3_;clear n0_ n1_ n2_ n3_;clear hb hbox hg;have hcz7_0:w6.cell? ⟨gb147,0,none⟩=some (.string (⟨#[]⟩:ByteArray)):=(blk_cell BK147.out 0).trans rfl;have hcz7_1:w6.cell? ⟨gb147,1,none⟩=some (.string (⟨#[]⟩:ByteArray)):=(blk_cell BK147.out 1).trans rfl;have hfz7_0:=blk_frozen BK147.out 0;have hfz7_1:=blk_frozen BK147.out 1)|((with_reducible refine gate_callee (f:=33) rfl ?_);refine goesL_ (some 14) rfl rfl Tryd.func33 (by kernel_rfl) rfl #[.agg #[.string ((rd_T58 l0 x8_1).f0),.string ((rd_T58 l0 x8_1).f1)]] rfl (by (try simp only[ml_]);first|done|rfl|(simp only[List.length_drop,List.length_take];rfl)) ?_;(with_reducible refine (leaf_cost.calls ((rd_T58 l0 x8_1).f0) ((rd_T58 l0 x8_1).f1) t148 _ A5.out).mono ?_);rintro e w8 ⟨rfl,hb⟩;refine ⟨_,rfl,?_⟩;have n0_:=Aside0.mk (blk_below (g:=gb147) (o:=.cells #[.string ((rd_T58 l0 x8_1).f0),.string ((rd_T58 l0 x8_1).f1)] 58 (0,0)) (by (with_reducible repeat (first|refine blk_drewN ?_ _|refine blk_drew ?_|refine blk_alloc ?_ _));refine blk_put (cs:=#[.string ((rd_T58 l0 x8_1).f0),.string (⟨#[]⟩:ByteArray)]) ?_ 1 _ rfl;(with_reducible repeat (first|refine blk_drewN ?_ _|refine blk_drew ?_|refine blk_alloc ?_ _));refine blk_put (cs:=#[.string (⟨#[]⟩:ByteArray),.string (⟨#[]⟩:ByteArray)]) ?_ 0 _ rfl;(with_reducible repeat (first|refine blk_drewN ?_ _|refine blk_drew ?_|refine blk_alloc ?_ _));exact BK147.out) hb);have n1_:=Aside0.mk (below_step (by repeat (first|exact upB HB.out|refine below_set ?_ GE147.out)) hb);clear BK147;clear HB;have BK147:=n0_;have HB:=n1_;clear n0_ n1_;(try clear hb);(try clear hb2);(try clear hk);(try clear hi)))
      go_roundg k1
      case measure=>have:=HK1.out;omega
      case rel=>exact ⟨(wrap64 (x3_1+t148)),(wrap64 (x8_1+1)),(by first|rfl|(simp;done)|(simp[*];done)),(by first|rfl|(simp;done)|(simp[*];done)),H',⟨by have:=HK1.out;omega⟩,⟨by repeat (first|exact upB HB.out|refine below_set ?_ GE147.out|apply pw_below_drewN)⟩⟩
     ·
      rw[if_neg c4] at H
      exact absurd H (by simp)
    ·
     rw[if_neg c3] at H
     exact absurd H (by simp)
   ·
    rw[if_neg c2] at H
    have c2b0:decide (x8_1<(l0.length:Int))=false:=decide_eq_false c2
    clear c2
    obtain rfl:=Option.some.inj H
    go_wp2
    go_ret
    exact ⟨by first|rfl|(simp[errW_none,errW_some] <;> rfl)|(simp[*,errW_none,errW_some] <;> rfl),upB HB.out⟩

end Go.Proofs.YtdailhlghlledaaDoor.XLeafNew
