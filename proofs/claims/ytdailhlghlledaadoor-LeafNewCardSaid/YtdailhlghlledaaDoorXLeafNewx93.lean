-- Printed for this claim by a program (wip/printx/news.py) that builds on the kit's print. Not trusted: Lean checks it.
-- slim
import Derived.Test.YtdailhlghlledaaDoorXLeafNewx0
import Derived.Test.YtdailhlghlledaaDoorXLeafNewx1
import Derived.Test.YtdailhlghlledaaDoorXLeafNewx2
import Derived.Test.YtdailhlghlledaaDoorXLeafNewx3
import Derived.Test.YtdailhlghlledaaDoorXLeafNewx4
import Derived.Test.YtdailhlghlledaaDoorXLeafNewx5
import Derived.Test.YtdailhlghlledaaDoorXLeafNewx6
import Derived.Test.YtdailhlghlledaaDoorXLeafNewx7
import Derived.Test.YtdailhlghlledaaDoorXLeafNewx8
import Derived.Test.YtdailhlghlledaaDoorXLeafNewx9
import Derived.Test.YtdailhlghlledaaDoorXLeafNewx10
import Derived.Test.YtdailhlghlledaaDoorXLeafNewx11
import Derived.Test.YtdailhlghlledaaDoorXLeafNewx12
import Derived.Test.YtdailhlghlledaaDoorXLeafNewx13
import Derived.Test.YtdailhlghlledaaDoorXLeafNewx15
import Derived.Test.YtdailhlghlledaaDoorXLeafNewx91
import Derived.Test.YtdailhlghlledaaDoorXLeafNewx92
namespace Go.Proofs.YtdailhlghlledaaDoor.XLeafNew
open Go.RowKit Go.Proofs.YtdailhlghlledaaDoorW.PrintWords Go.Proofs.YtdailhlghlledaaDoorW.PrintLast Go.Proofs.YtdailhlghlledaaDoorW.PrintMore
attribute [local go_sem] max2_int min2_int max_two min_two max_three min_three max_four min_four   -- for this text's walks alone
set_option linter.unusedVariables false
set_option linter.unusedSimpArgs false

/-! ### copselaw7_LeafNew: function 10 -/
open Classical in
mutual
noncomputable def copselaw7_LeafNew.j0:Nat→Bool→List (S58)→ByteArray→ByteArray→Bool→Option (Bool)
 |0,_,_,_,_,_=>none
 |k+1,x58,x460000,x460001,x460002,x460003=>if x58=true then (none) else ((copselaw7_stale.f k x460000 x460001 x460002 x460003).bind fun t466=>(if t466=true then ((copselaw7_rising.f k x460000 4072).bind fun t467=>((leaf_Encode.f k t467).bind fun bt470=>((copselaw7_pairs.f k x460000).bind fun t472=>(if 0≤(x460000.length:Int) then (if (x460000.length:Int)≤(t472.length:Int) then ((leaf_Set.f (t472.take ((x460000.length:Int):Int).toNat) x460001 x460002).bind fun t479=>((leaf_Drop.f (t472.take ((x460000.length:Int):Int).toNat) x460001).bind fun bt486=>((leaf_Cut.f k (t472.take ((x460000.length:Int):Int).toNat)).bind fun bt494=>((leaf_Set.f (t472.take ((x460000.length:Int):Int).toNat) x460001 x460002).bind fun t505=>((leaf_Drop.f (t472.take ((x460000.length:Int):Int).toNat) x460001).bind fun bt512=>((leaf_Cut.f k (t472.take ((x460000.length:Int):Int).toNat)).bind fun bt520=>(if bt470.2.isNone=true then ((copselaw7_rising.f k x460000 4072).bind fun t527=>((leaf_Decode.f k (t527.length:Int) bt470.1).bind fun bt530=>((copselaw7_rising.f k x460000 4072).bind fun t534=>((leaf_Decode.f k (t534.length:Int) bt470.1).bind fun bt537=>(copselaw7_LeafNew.j1 k t472 t479 bt486.1 bt494.1 bt494.2.1 t505 bt512.1 bt520.1 bt520.2.1 bt530.1 bt537.1 x460000 x460001 x460002 x460003))))) else (copselaw7_LeafNew.j1 k t472 t479 bt486.1 bt494.1 bt494.2.1 t505 bt512.1 bt520.1 bt520.2.1 ([]:List (S58)) ([]:List (S58)) x460000 x460001 x460002 x460003)))))))) else (none)) else (none))))) else (none)))
noncomputable def copselaw7_LeafNew.j1:Nat→List (S58)→List (S58)→List (S58)→List (S58)→List (S58)→List (S58)→List (S58)→List (S58)→List (S58)→List (S58)→List (S58)→List (S58)→ByteArray→ByteArray→Bool→Option (Bool)
 |0,_,_,_,_,_,_,_,_,_,_,_,_,_,_,_=>none
 |k+1,x8,x10,x11,x13,x14,x16,x17,x19,x20,x22,x23,x460000,x460001,x460002,x460003=>if copselaw7_LeafNew.lensE x460000 x8 [x16,x17,x19,x20,x22,x23,x10,x11,x13,x14] then some true else none
end
noncomputable def copselaw7_LeafNew.f (k:Nat) (l0_0:List (S58)) (a0_1:ByteArray) (a0_2:ByteArray) (a0_3:Bool):Option (Bool):=(copselaw7_begun.f k).bind fun t460=>((leaf_Set.f ([]:List (S58)) (⟨#[97]⟩:ByteArray) (⟨#[49]⟩:ByteArray)).bind fun t461=>(if t460=true then (if (t461.length:Int)=1 then (if 0<(t461.length:Int) then (if ((rd_T58 t461 0).f0).toList=([97]:List UInt8) then (copselaw7_LeafNew.j0 k (((rd_T58 t461 0).f1).toList != ([49]:List UInt8)) l0_0 a0_1 a0_2 a0_3) else (copselaw7_LeafNew.j0 k true l0_0 a0_1 a0_2 a0_3)) else (none)) else (copselaw7_LeafNew.j0 k true l0_0 a0_1 a0_2 a0_3)) else (copselaw7_LeafNew.j0 k true l0_0 a0_1 a0_2 a0_3)))
theorem copselaw7_LeafNew.mono_l : ∀ k,(∀ y0 y1 y2 y3 y4,LeO (copselaw7_LeafNew.j0 k y0 y1 y2 y3 y4) (copselaw7_LeafNew.j0 (k+1) y0 y1 y2 y3 y4))∧(∀ y0 y1 y2 y3 y4 y5 y6 y7 y8 y9 y10 y11 y12 y13 y14,LeO (copselaw7_LeafNew.j1 k y0 y1 y2 y3 y4 y5 y6 y7 y8 y9 y10 y11 y12 y13 y14) (copselaw7_LeafNew.j1 (k+1) y0 y1 y2 y3 y4 y5 y6 y7 y8 y9 y10 y11 y12 y13 y14))
 |0=>⟨fun _ _ _ _ _ r h=>by simp[copselaw7_LeafNew.j0] at h,fun _ _ _ _ _ _ _ _ _ _ _ _ _ _ _ r h=>by simp[copselaw7_LeafNew.j1] at h⟩
 |k+1=>by
  obtain⟨ih0,ih1⟩:=copselaw7_LeafNew.mono_l k
  refine ⟨?_,?_⟩
  ·
   intro y0 y1 y2 y3 y4
   unfold copselaw7_LeafNew.j0
   repeat' first
   |(with_reducible exact ih0 _ _ _ _ _)
   |(with_reducible exact ih1 _ _ _ _ _ _ _ _ _ _ _ _ _ _ _)
   |(with_reducible exact copselaw7_begun.mono _)
   |(with_reducible exact copselaw7_pairs.mono _ _)
   |(with_reducible exact copselaw7_rising.mono _ _ _)
   |(with_reducible exact copselaw7_stale.mono _ _ _ _ _)
   |(with_reducible exact leaf_Cut.mono _ _)
   |(with_reducible exact leaf_Decode.mono _ _ _)
   |(with_reducible exact leaf_Encode.mono _ _)
   |(with_reducible exact leaf_Size.mono _ _)
   |(with_reducible exact LeO.refl _)
   |(with_reducible exact LeO.none _)
   |(with_reducible refine LeO.ite ?_ ?_)
   |(with_reducible refine LeO.bind ?_ (fun _=>?_))
   |exact ih0 _ _ _ _ _
   |exact ih1 _ _ _ _ _ _ _ _ _ _ _ _ _ _ _
   |exact copselaw7_begun.mono _
   |exact copselaw7_pairs.mono _ _
   |exact copselaw7_rising.mono _ _ _
   |exact copselaw7_stale.mono _ _ _ _ _
   |exact leaf_Cut.mono _ _
   |exact leaf_Decode.mono _ _ _
   |exact leaf_Encode.mono _ _
   |exact leaf_Size.mono _ _
   |exact LeO.none _
   |refine LeO.ite ?_ ?_
   |refine LeO.bind ?_ (fun _=>?_)
  ·
   intro y0 y1 y2 y3 y4 y5 y6 y7 y8 y9 y10 y11 y12 y13 y14
   unfold copselaw7_LeafNew.j1
   repeat' first
   |(with_reducible exact ih0 _ _ _ _ _)
   |(with_reducible exact ih1 _ _ _ _ _ _ _ _ _ _ _ _ _ _ _)
   |(with_reducible exact copselaw7_begun.mono _)
   |(with_reducible exact copselaw7_pairs.mono _ _)
   |(with_reducible exact copselaw7_rising.mono _ _ _)
   |(with_reducible exact copselaw7_stale.mono _ _ _ _ _)
   |(with_reducible exact leaf_Cut.mono _ _)
   |(with_reducible exact leaf_Decode.mono _ _ _)
   |(with_reducible exact leaf_Encode.mono _ _)
   |(with_reducible exact leaf_Size.mono _ _)
   |(with_reducible exact LeO.refl _)
   |(with_reducible exact LeO.none _)
   |(with_reducible refine LeO.ite ?_ ?_)
   |(with_reducible refine LeO.bind ?_ (fun _=>?_))
   |exact ih0 _ _ _ _ _
   |exact ih1 _ _ _ _ _ _ _ _ _ _ _ _ _ _ _
   |exact copselaw7_begun.mono _
   |exact copselaw7_pairs.mono _ _
   |exact copselaw7_rising.mono _ _ _
   |exact copselaw7_stale.mono _ _ _ _ _
   |exact leaf_Cut.mono _ _
   |exact leaf_Decode.mono _ _ _
   |exact leaf_Encode.mono _ _
   |exact leaf_Size.mono _ _
   |exact LeO.none _
   |refine LeO.ite ?_ ?_
   |refine LeO.bind ?_ (fun _=>?_)
theorem copselaw7_LeafNew.mono : ∀ a0 a1 a2 a3 k,LeO (copselaw7_LeafNew.f k a0 a1 a2 a3) (copselaw7_LeafNew.f (k+1) a0 a1 a2 a3):=by
 intro a0 a1 a2 a3 k
 obtain⟨ih0,ih1⟩:=copselaw7_LeafNew.mono_l k
 unfold copselaw7_LeafNew.f
 repeat' first
   |(with_reducible exact ih0 _ _ _ _ _)
   |(with_reducible exact ih1 _ _ _ _ _ _ _ _ _ _ _ _ _ _ _)
   |(with_reducible exact copselaw7_begun.mono _)
   |(with_reducible exact copselaw7_pairs.mono _ _)
   |(with_reducible exact copselaw7_rising.mono _ _ _)
   |(with_reducible exact copselaw7_stale.mono _ _ _ _ _)
   |(with_reducible exact leaf_Cut.mono _ _)
   |(with_reducible exact leaf_Decode.mono _ _ _)
   |(with_reducible exact leaf_Encode.mono _ _)
   |(with_reducible exact leaf_Size.mono _ _)
   |(with_reducible exact LeO.refl _)
   |(with_reducible exact LeO.none _)
   |(with_reducible refine LeO.ite ?_ ?_)
   |(with_reducible refine LeO.bind ?_ (fun _=>?_))
   |exact ih0 _ _ _ _ _
   |exact ih1 _ _ _ _ _ _ _ _ _ _ _ _ _ _ _
   |exact copselaw7_begun.mono _
   |exact copselaw7_pairs.mono _ _
   |exact copselaw7_rising.mono _ _ _
   |exact copselaw7_stale.mono _ _ _ _ _
   |exact leaf_Cut.mono _ _
   |exact leaf_Decode.mono _ _ _
   |exact leaf_Encode.mono _ _
   |exact leaf_Size.mono _ _
   |exact LeO.none _
   |refine LeO.ite ?_ ?_
   |refine LeO.bind ?_ (fun _=>?_)
def copselaw7_LeafNew.T11:Bool×List (List Nat×List Nat):=(true,[([],[]),([],[]),([0,1],[0,1]),([],[]),([3],[3]),([],[]),([5],[5]),([2,4,6],[2,4,6]),([7,7,0,1,2,3,4,5,6,7],[7])])
def copselaw7_LeafNew.B11:List Nat:=[0,0,3,0,8,0,32,127,255]
theorem copselaw7_LeafNew.tab11:rtab .any (opsOf Tryd.f10 11)=copselaw7_LeafNew.T11:=by kernel_rfl
theorem copselaw7_LeafNew.bits11:waitsOk copselaw7_LeafNew.T11.2 copselaw7_LeafNew.B11=true:=by kernel_rfl
def copselaw7_LeafNew.T12:Bool×List (List Nat×List Nat):=(true,[([],[]),([],[]),([0,1],[0,1]),([],[]),([3],[3]),([2,4],[2,4]),([5],[5]),([6],[6]),([6],[6]),([7,5,0,1,2,3,4,5,6,7],[7]),([8,9,0,1,2,3,4,5,6,7,8,9],[8])])
def copselaw7_LeafNew.B12:List Nat:=[0,0,3,0,8,31,63,127,127,255,1023]
theorem copselaw7_LeafNew.tab12:rtab .any (opsOf Tryd.f10 12)=copselaw7_LeafNew.T12:=by kernel_rfl
theorem copselaw7_LeafNew.bits12:waitsOk copselaw7_LeafNew.T12.2 copselaw7_LeafNew.B12=true:=by kernel_rfl
def copselaw7_LeafNew.T14:Bool×List (List Nat×List Nat):=(true,[([],[]),([],[]),([0,1],[0,1]),([],[]),([3],[3]),([],[]),([5],[5]),([2,4,6],[2,4,6]),([7,7,0,1,2,3,4,5,6,7],[7])])
def copselaw7_LeafNew.B14:List Nat:=[0,0,3,0,8,0,32,127,255]
theorem copselaw7_LeafNew.tab14:rtab .any (opsOf Tryd.f10 14)=copselaw7_LeafNew.T14:=by kernel_rfl
theorem copselaw7_LeafNew.bits14:waitsOk copselaw7_LeafNew.T14.2 copselaw7_LeafNew.B14=true:=by kernel_rfl
def copselaw7_LeafNew.T15:Bool×List (List Nat×List Nat):=(true,[([],[]),([],[]),([0,1],[0,1]),([],[]),([3],[3]),([2,4],[2,4]),([5],[5]),([6],[6]),([6],[6]),([7,5,0,1,2,3,4,5,6,7],[7]),([8,9,0,1,2,3,4,5,6,7,8,9],[8])])
def copselaw7_LeafNew.B15:List Nat:=[0,0,3,0,8,31,63,127,127,255,1023]
theorem copselaw7_LeafNew.tab15:rtab .any (opsOf Tryd.f10 15)=copselaw7_LeafNew.T15:=by kernel_rfl
theorem copselaw7_LeafNew.bits15:waitsOk copselaw7_LeafNew.T15.2 copselaw7_LeafNew.B15=true:=by kernel_rfl
set_option maxHeartbeats 8000000 in
set_option maxRecDepth 100000 in
theorem copselaw7_LeafNew.calls (k:Nat) (E:Int→Addr) (A0_0:Option Addr) (c0_0:Nat) (l0_0:List (S58)) (a0_1:ByteArray) (a0_2:ByteArray) (a0_3:Bool) (r:Bool) (w:World) (hG:Glob E w) (hr0_0:Kd.C k58 w A0_0 l0_0.length l0_0) (hc0_0:l0_0.length≤c0_0) (h:copselaw7_LeafNew.f k l0_0 a0_1 a0_2 a0_3=some r) :
  Calls Tryd.prog 10 #[.agg #[.slice A0_0 l0_0.length c0_0,.string a0_1,.string a0_2,.bool a0_3]] w fun e w'=>e=.returned (.bool r)∧Below w.heap.size w w':=by
 have hu24:=Tryd.underlying24
 have HR0_0:=Aside0.mk hr0_0
 have HC0_0:=Aside0.mk hc0_0
 clear hr0_0 hc0_0
 have HB:=Aside0.mk (Below.refl w.heap.size w)
 have HG:=Aside0.mk hG
 clear hG
 have H:((copselaw7_begun.f k).bind fun t460=>((leaf_Set.f ([]:List (S58)) (⟨#[97]⟩:ByteArray) (⟨#[49]⟩:ByteArray)).bind fun t461=>(if t460=true then (if (t461.length:Int)=1 then (if 0<(t461.length:Int) then (if ((rd_T58 t461 0).f0).toList=([97]:List UInt8) then (copselaw7_LeafNew.j0 k (((rd_T58 t461 0).f1).toList != ([49]:List UInt8)) l0_0 a0_1 a0_2 a0_3) else (copselaw7_LeafNew.j0 k true l0_0 a0_1 a0_2 a0_3)) else (none)) else (copselaw7_LeafNew.j0 k true l0_0 a0_1 a0_2 a0_3)) else (copselaw7_LeafNew.j0 k true l0_0 a0_1 a0_2 a0_3))))=some r:=h
 clear h
 replace H:=Option.bind_eq_some_iff.mp H
 obtain⟨t460,A20,H⟩:=H
 try dsimp only at H
 have A2:=Aside0.mk A20
 clear A20
 replace H:=Option.bind_eq_some_iff.mp H
 obtain⟨t461,A30,H⟩:=H
 try dsimp only at H
 have A3:=Aside0.mk A30
 clear A30
 have HC4:=Aside0.mk H
 clear H
 go_enter Tryd.func10,Tryd.ntmps10
 go_upto_region 3 with (first|((with_reducible refine gate_dst (N:=1) rfl ?_);(try (refine gate_guard (by rfl) ?_;dsimp only));refine box_event ?hg (N:=1) ?hd (cs:=#[.slice A0_0 l0_0.length c0_0,.string a0_1,.string a0_2,.bool a0_3]) (t:=24) ?hr ?_;(case hd=>rfl);(case hg=>rfl);(case hr=>first|(go_simp;done)|(go_simp;rfl));intro gb459 hg w5 hbox hb;have n0_:=Aside0.mk (below_step (upB HB.out) hb);have n1_:=Aside0.mk (hbox);have n2_:=Aside0.mk ((by rw[hg];exact (below_size (upB HB.out)):w.heap.size≤gb459));have n3_:=Aside0.mk ((by rw[hg];exact (below_size (upB HB.out)):w.heap.size≤gb459));clear HB;have HB:=n0_;have BK459:=n1_;have GW459:=n2_;have GE459:=n3_;clear n0_ n1_ n2_ n3_;clear hb hbox hg)|((with_reducible refine gate_callee (f:=25) rfl ?_);refine goesL_ (some 36) rfl rfl Tryd.func25 (by kernel_rfl) rfl #[] rfl (by (try simp only[ml_]);first|done|rfl|(simp only[List.length_drop,List.length_take];rfl)) ?_;(with_reducible refine (copselaw7_begun.calls k E  t460 _ ?side1 A2.out).mono ?_);(case side1=>exact (Glob.below HG.out (by repeat (first|exact upB HB.out|refine below_set ?_ GE459.out))));rintro e w6 ⟨rfl,hb⟩;refine ⟨_,rfl,?_⟩;have n0_:=Aside0.mk (blk_below (g:=gb459) (o:=.cells #[.slice A0_0 l0_0.length c0_0,.string a0_1,.string a0_2,.bool a0_3] 24 (0,0)) (upX BK459.out) hb);have n1_:=Aside0.mk (below_step (by repeat (first|exact upB HB.out|refine below_set ?_ GE459.out)) hb);clear BK459;clear HB;have BK459:=n0_;have HB:=n1_;clear n0_ n1_;(try clear hb);(try clear hb2);(try clear hk);(try clear hi))|((with_reducible refine gate_callee (f:=27) rfl ?_);refine goesL_ (some 37) rfl rfl Tryd.func27 (by kernel_rfl) rfl #[.slice none 0 0,.string (⟨#[97]⟩:ByteArray),.string (⟨#[49]⟩:ByteArray)] rfl (by (try simp only[ml_]);first|done|rfl|(simp only[List.length_drop,List.length_take];rfl)) ?_;(refine (leaf_Set.calls _ _ ([]:List (S58)) (⟨#[97]⟩:ByteArray) (⟨#[49]⟩:ByteArray) t461 _ ?side1 ?side2 A3.out).mono ?_);(case side1=>exact Kd.C_nil _ _);(case side2=>exact Nat.le_refl _);rintro e w7 ⟨v462,rfl,ho0,hb⟩;refine ⟨_,rfl,?_⟩;have n0_:=Aside0.mk (Kd.R_lower ho0 (below_size (by repeat (first|exact upB HB.out|refine below_set ?_ GE459.out))));have n1_:=Aside0.mk (blk_below (g:=gb459) (o:=.cells #[.slice A0_0 l0_0.length c0_0,.string a0_1,.string a0_2,.bool a0_3] 24 (0,0)) (upX BK459.out) hb);have n2_:=Aside0.mk (below_step (by repeat (first|exact upB HB.out|refine below_set ?_ GE459.out)) hb);clear BK459;clear HB;have HO463:=n0_;have BK459:=n1_;have HB:=n2_;clear n0_ n1_ n2_;(try clear hb);(try clear hb2);(try clear hk);(try clear hi);(try clear ho0)))
 (try simp only[Act.put,List.setIfInBounds_toArray,List.set_cons_zero,List.set_cons_succ])
 go_cut [58] (fun v58 wc=>∃ (kq:Nat) (x58_3:Bool),v58=.bool x58_3∧Aside0 (copselaw7_LeafNew.j0 kq x58_3 l0_0 a0_1 a0_2 a0_3=some r)∧Aside0 (kq≤k)∧Aside0 (wc.heap[gb459]?=some (.cells #[(.slice A0_0 l0_0.length c0_0),.string a0_1,.string a0_2,.bool a0_3] 24 (0,0)))∧Aside0 (Below w.heap.size w wc))
 case first=>
  have H:=HC4.out
  clear HC4
  by_cases c8:t460=true
  ·
   subst c8
   have H1:(if (t461.length:Int)=1 then (if 0<(t461.length:Int) then (if ((rd_T58 t461 0).f0).toList=([97]:List UInt8) then (copselaw7_LeafNew.j0 k (((rd_T58 t461 0).f1).toList != ([49]:List UInt8)) l0_0 a0_1 a0_2 a0_3) else (copselaw7_LeafNew.j0 k true l0_0 a0_1 a0_2 a0_3)) else (none)) else (copselaw7_LeafNew.j0 k true l0_0 a0_1 a0_2 a0_3))=some r:=by rw[if_pos rfl] at H;exact H
   clear H
   have H:=H1
   clear H1
   by_cases c9:(t461.length:Int)=1
   ·
    rw[if_pos c9] at H
    have c9b0:((t461.length:Int)==1)=true:=beq_iff_eq.mpr c9
    have c9b1:((t461.length:Int) != 1)=false:=bne_eq_false_iff_eq.mpr c9
    clear c9
    (first|rw[c9b0]|(simp only[i64_w,i32_w];rw[c9b0])|skip)
    by_cases c10:0<(t461.length:Int)
    ·
     rw[if_pos c10] at H
     have c10b0:decide (0<(t461.length:Int))=true:=decide_eq_true c10
     have c10b1:decide (0<t461.length)=true:=decide_eq_true (by omega)
     clear c10
     by_cases c11:((rd_T58 t461 0).f0).toList=([97]:List UInt8)
     ·
      rw[if_pos c11] at H
      have c11b0:(((rd_T58 t461 0).f0).toList==([97]:List UInt8))=true:=beq_iff_eq.mpr c11
      have c11b1:(((rd_T58 t461 0).f0).toList != ([97]:List UInt8))=false:=bne_eq_false_iff_eq.mpr c11
      clear c11
      have H':=Aside0.mk H
      clear H
      obtain⟨Ao12,co12,eo12⟩:=Kd.R_slice HO463.out
      subst eo12
      have p464:0≤(0:Int):=(by omega)
      have q464:0<(t461.length:Int):=of_decide_eq_true (by assumption)
      obtain⟨ad464,e464,hx464_0,hx464_1⟩:=at_T58 (Kd.R_reads' HO463.out).2.2 0 p464 q464
      cases e464
      have qi464:(0<t461.length)=True:=eq_true (by omega)
      (try rw[show ((0:Int)).toNat=0 from rfl] at hx464_0)
      (try rw[show 0*2=0 from rfl] at hx464_0)
      (try rw[Addr.add_zero'] at hx464_0)
      (try rw[show ((0:Int)).toNat=0 from rfl] at hx464_1)
      (try rw[show 0*2=0 from rfl] at hx464_1)
      (try rw[Addr.add_zero'] at hx464_1)
      replace p464:=eq_true p464
      replace q464:=eq_true q464
      have p465:0≤(0:Int):=(by omega)
      have q465:0<(t461.length:Int):=of_decide_eq_true (by assumption)
      obtain⟨ad465,e465,hx465_0,hx465_1⟩:=at_T58 (Kd.R_reads' HO463.out).2.2 0 p465 q465
      obtain rfl:ad464=ad465:=(by injection e465)
      have qi465:(0<t461.length)=True:=eq_true (by omega)
      (try rw[show ((0:Int)).toNat=0 from rfl] at hx465_0)
      (try rw[show 0*2=0 from rfl] at hx465_0)
      (try rw[Addr.add_zero'] at hx465_0)
      (try rw[show ((0:Int)).toNat=0 from rfl] at hx465_1)
      (try rw[show 0*2=0 from rfl] at hx465_1)
      (try rw[Addr.add_zero'] at hx465_1)
      replace p465:=eq_true p465
      replace q465:=eq_true q465
      go_wp2
      go_meet
      case rel=>exact ⟨_,((((rd_T58 t461 0).f1).toList != ([49]:List UInt8))),(by first|rfl|(simp;done)|(simp[*];done)),H',⟨by first|omega|exact Nat.le_refl _⟩,⟨by (with_reducible repeat (first|refine blk_drewN ?_ _|refine blk_drew ?_|refine blk_alloc ?_ _));exact BK459.out⟩,⟨by repeat (first|exact upB HB.out|refine below_set ?_ GE459.out|apply pw_below_drewN)⟩⟩
     ·
      rw[if_neg c11] at H
      have c11b0:(((rd_T58 t461 0).f0).toList==([97]:List UInt8))=false:=beq_eq_false_iff_ne.mpr c11
      have c11b1:(((rd_T58 t461 0).f0).toList != ([97]:List UInt8))=true:=bne_iff_ne.mpr c11
      have H':=Aside0.mk H
      clear H
      obtain⟨Ao13,co13,eo13⟩:=Kd.R_slice HO463.out
      subst eo13
      have p464:0≤(0:Int):=(by omega)
      have q464:0<(t461.length:Int):=of_decide_eq_true (by assumption)
      obtain⟨ad464,e464,hx464_0,hx464_1⟩:=at_T58 (Kd.R_reads' HO463.out).2.2 0 p464 q464
      cases e464
      have qi464:(0<t461.length)=True:=eq_true (by omega)
      (try rw[show ((0:Int)).toNat=0 from rfl] at hx464_0)
      (try rw[show 0*2=0 from rfl] at hx464_0)
      (try rw[Addr.add_zero'] at hx464_0)
      (try rw[show ((0:Int)).toNat=0 from rfl] at hx464_1)
      (try rw[show 0*2=0 from rfl] at hx464_1)
      (try rw[Addr.add_zero'] at hx464_1)
      replace p464:=eq_true p464
      replace q464:=eq_true q464
      go_wp2
      go_meet
      case rel=>exact ⟨_,(true),(by first|rfl|(simp;done)|(simp[*];done)),H',⟨by first|omega|exact Nat.le_refl _⟩,⟨by (with_reducible repeat (first|refine blk_drewN ?_ _|refine blk_drew ?_|refine blk_alloc ?_ _));exact BK459.out⟩,⟨by repeat (first|exact upB HB.out|refine below_set ?_ GE459.out|apply pw_below_drewN)⟩⟩
    ·
     rw[if_neg c10] at H
     exact absurd H (by simp)
   ·
    rw[if_neg c9] at H
    have c9b0:((t461.length:Int)==1)=false:=beq_eq_false_iff_ne.mpr c9
    have c9b1:((t461.length:Int) != 1)=true:=bne_iff_ne.mpr c9
    (first|rw[c9b0]|(simp only[i64_w,i32_w];rw[c9b0])|skip)
    have H':=Aside0.mk H
    clear H
    obtain⟨Ao14,co14,eo14⟩:=Kd.R_slice HO463.out
    subst eo14
    go_wp2
    go_meet
    case rel=>exact ⟨_,(true),(by first|rfl|(simp;done)|(simp[*];done)),H',⟨by first|omega|exact Nat.le_refl _⟩,⟨by (with_reducible repeat (first|refine blk_drewN ?_ _|refine blk_drew ?_|refine blk_alloc ?_ _));exact BK459.out⟩,⟨by repeat (first|exact upB HB.out|refine below_set ?_ GE459.out|apply pw_below_drewN)⟩⟩
  ·
   replace c8:=Bool.eq_false_iff.mpr c8
   subst c8
   have H1:(copselaw7_LeafNew.j0 k true l0_0 a0_1 a0_2 a0_3)=some r:=by rw[if_neg (show ¬ (false=true) by decide)] at H;exact H
   clear H
   have H:=H1
   clear H1
   have H':=Aside0.mk H
   clear H
   go_wp2
   go_meet
   case rel=>exact ⟨_,(true),(by first|rfl|(simp;done)|(simp[*];done)),H',⟨by first|omega|exact Nat.le_refl _⟩,⟨by (with_reducible repeat (first|refine blk_drewN ?_ _|refine blk_drew ?_|refine blk_alloc ?_ _));exact BK459.out⟩,⟨by repeat (first|exact upB HB.out|refine below_set ?_ GE459.out|apply pw_below_drewN)⟩⟩
 case rest=>
  clear HC4
  try clear c1
  try clear c2
  try clear p2
  try clear p4
  try clear q4
  try clear hx4
  try clear qi4
  try clear c8
  try clear c9
  try clear c9b0
  try clear c9b1
  try clear c10
  try clear c10b0
  try clear c10b1
  try clear c11
  try clear c11b0
  try clear c11b1
  try clear hx464_0
  try clear hx464_1
  try clear hx465_0
  try clear hx465_1
  try clear p464
  try clear p465
  try clear q464
  try clear q465
  obtain⟨kq,x58_3,rfl,HA,HJ3,BK459,HB⟩:=hcut
  cases kq with
  |zero=>exact absurd HA.out (by simp[copselaw7_LeafNew.j0])
  |succ kj3=>
   have H:=HA.out
   clear HA
   simp only[copselaw7_LeafNew.j0] at H
   by_cases c15:x58_3=true
   ·
    subst c15
    have H1:(none)=some r:=by rw[if_pos rfl] at H;exact H
    clear H
    have H:=H1
    clear H1
    exact absurd H (by simp)
   ·
    replace c15:=Bool.eq_false_iff.mpr c15
    subst c15
    have H1:((copselaw7_stale.f kj3 l0_0 a0_1 a0_2 a0_3).bind fun t466=>(if t466=true then ((copselaw7_rising.f kj3 l0_0 4072).bind fun t467=>((leaf_Encode.f kj3 t467).bind fun bt470=>((copselaw7_pairs.f kj3 l0_0).bind fun t472=>(if 0≤(l0_0.length:Int) then (if (l0_0.length:Int)≤(t472.length:Int) then ((leaf_Set.f (t472.take ((l0_0.length:Int):Int).toNat) a0_1 a0_2).bind fun t479=>((leaf_Drop.f (t472.take ((l0_0.length:Int):Int).toNat) a0_1).bind fun bt486=>((leaf_Cut.f kj3 (t472.take ((l0_0.length:Int):Int).toNat)).bind fun bt494=>((leaf_Set.f (t472.take ((l0_0.length:Int):Int).toNat) a0_1 a0_2).bind fun t505=>((leaf_Drop.f (t472.take ((l0_0.length:Int):Int).toNat) a0_1).bind fun bt512=>((leaf_Cut.f kj3 (t472.take ((l0_0.length:Int):Int).toNat)).bind fun bt520=>(if bt470.2.isNone=true then ((copselaw7_rising.f kj3 l0_0 4072).bind fun t527=>((leaf_Decode.f kj3 (t527.length:Int) bt470.1).bind fun bt530=>((copselaw7_rising.f kj3 l0_0 4072).bind fun t534=>((leaf_Decode.f kj3 (t534.length:Int) bt470.1).bind fun bt537=>(copselaw7_LeafNew.j1 kj3 t472 t479 bt486.1 bt494.1 bt494.2.1 t505 bt512.1 bt520.1 bt520.2.1 bt530.1 bt537.1 l0_0 a0_1 a0_2 a0_3))))) else (copselaw7_LeafNew.j1 kj3 t472 t479 bt486.1 bt494.1 bt494.2.1 t505 bt512.1 bt520.1 bt520.2.1 ([]:List (S58)) ([]:List (S58)) l0_0 a0_1 a0_2 a0_3)))))))) else (none)) else (none))))) else (none)))=some r:=by rw[if_neg (show ¬ (false=true) by decide)] at H;exact H
    clear H
    have H:=H1
    clear H1
    replace H:=Option.bind_eq_some_iff.mp H
    obtain⟨t466,A160,H⟩:=H
    try dsimp only at H
    have A16:=Aside0.mk A160
    clear A160
    by_cases c17:t466=true
    ·
     subst c17
     have H1:((copselaw7_rising.f kj3 l0_0 4072).bind fun t467=>((leaf_Encode.f kj3 t467).bind fun bt470=>((copselaw7_pairs.f kj3 l0_0).bind fun t472=>(if 0≤(l0_0.length:Int) then (if (l0_0.length:Int)≤(t472.length:Int) then ((leaf_Set.f (t472.take ((l0_0.length:Int):Int).toNat) a0_1 a0_2).bind fun t479=>((leaf_Drop.f (t472.take ((l0_0.length:Int):Int).toNat) a0_1).bind fun bt486=>((leaf_Cut.f kj3 (t472.take ((l0_0.length:Int):Int).toNat)).bind fun bt494=>((leaf_Set.f (t472.take ((l0_0.length:Int):Int).toNat) a0_1 a0_2).bind fun t505=>((leaf_Drop.f (t472.take ((l0_0.length:Int):Int).toNat) a0_1).bind fun bt512=>((leaf_Cut.f kj3 (t472.take ((l0_0.length:Int):Int).toNat)).bind fun bt520=>(if bt470.2.isNone=true then ((copselaw7_rising.f kj3 l0_0 4072).bind fun t527=>((leaf_Decode.f kj3 (t527.length:Int) bt470.1).bind fun bt530=>((copselaw7_rising.f kj3 l0_0 4072).bind fun t534=>((leaf_Decode.f kj3 (t534.length:Int) bt470.1).bind fun bt537=>(copselaw7_LeafNew.j1 kj3 t472 t479 bt486.1 bt494.1 bt494.2.1 t505 bt512.1 bt520.1 bt520.2.1 bt530.1 bt537.1 l0_0 a0_1 a0_2 a0_3))))) else (copselaw7_LeafNew.j1 kj3 t472 t479 bt486.1 bt494.1 bt494.2.1 t505 bt512.1 bt520.1 bt520.2.1 ([]:List (S58)) ([]:List (S58)) l0_0 a0_1 a0_2 a0_3)))))))) else (none)) else (none)))))=some r:=by rw[if_pos rfl] at H;exact H
     clear H
     have H:=H1
     clear H1
     replace H:=Option.bind_eq_some_iff.mp H
     obtain⟨t467,A180,H⟩:=H
     try dsimp only at H
     have A18:=Aside0.mk A180
     clear A180
     replace H:=Option.bind_eq_some_iff.mp H
     obtain⟨⟨t470,t471⟩,A190,H⟩:=H
     try dsimp only at H
     have A19:=Aside0.mk A190
     clear A190
     replace H:=Option.bind_eq_some_iff.mp H
     obtain⟨t472,A200,H⟩:=H
     try dsimp only at H
     have A20:=Aside0.mk A200
     clear A200
     by_cases c21:0≤(l0_0.length:Int)
     ·
      rw[if_pos c21] at H
      have c21b0:=eq_true c21
      have c21b1:decide (0≤(l0_0.length:Int))=true:=decide_eq_true c21
      clear c21
      by_cases c22:(l0_0.length:Int)≤(t472.length:Int)
      ·
       rw[if_pos c22] at H
       have c22b0:=eq_true c22
       have c22b1:decide ((l0_0.length:Int)≤(t472.length:Int))=true:=decide_eq_true c22
       clear c22
       obtain⟨y475,hy475⟩ : ∃ y_:List (S58),y_=(t472.take ((l0_0.length:Int):Int).toNat):=⟨_,rfl⟩
       replace H:((leaf_Set.f y475 a0_1 a0_2).bind fun t479=>((leaf_Drop.f (t472.take ((l0_0.length:Int):Int).toNat) a0_1).bind fun bt486=>((leaf_Cut.f kj3 (t472.take ((l0_0.length:Int):Int).toNat)).bind fun bt494=>((leaf_Set.f (t472.take ((l0_0.length:Int):Int).toNat) a0_1 a0_2).bind fun t505=>((leaf_Drop.f (t472.take ((l0_0.length:Int):Int).toNat) a0_1).bind fun bt512=>((leaf_Cut.f kj3 (t472.take ((l0_0.length:Int):Int).toNat)).bind fun bt520=>(if t471.isNone=true then ((copselaw7_rising.f kj3 l0_0 4072).bind fun t527=>((leaf_Decode.f kj3 (t527.length:Int) t470).bind fun bt530=>((copselaw7_rising.f kj3 l0_0 4072).bind fun t534=>((leaf_Decode.f kj3 (t534.length:Int) t470).bind fun bt537=>(copselaw7_LeafNew.j1 kj3 t472 t479 bt486.1 bt494.1 bt494.2.1 t505 bt512.1 bt520.1 bt520.2.1 bt530.1 bt537.1 l0_0 a0_1 a0_2 a0_3))))) else (copselaw7_LeafNew.j1 kj3 t472 t479 bt486.1 bt494.1 bt494.2.1 t505 bt512.1 bt520.1 bt520.2.1 ([]:List (S58)) ([]:List (S58)) l0_0 a0_1 a0_2 a0_3))))))))=some r:=by first|(rw[hy475];with_reducible exact H)|(have H2_:=(Option.bind_some _ _).symm.trans H;rw[hy475];with_reducible exact H2_)|(have H2_:=(Option.bind_some _ _).symm.trans H;with_reducible exact H2_)|with_reducible exact H|(rw[hy475];exact H)|exact H
       have Ny475:=Aside0.mk hy475
       clear hy475
       replace H:=Option.bind_eq_some_iff.mp H
       obtain⟨t479,A230,H⟩:=H
       try dsimp only at H
       have A23:=Aside0.mk A230
       clear A230
       have c24b0:=eq_true (of_decide_eq_true (by assumption):0≤(l0_0.length:Int))
       have c25b0:=eq_true (of_decide_eq_true (by assumption):(l0_0.length:Int)≤(t472.length:Int))
       obtain⟨y482,hy482⟩ : ∃ y_:List (S58),y_=(t472.take ((l0_0.length:Int):Int).toNat):=⟨_,rfl⟩
       replace H:((leaf_Drop.f y482 a0_1).bind fun bt486=>((leaf_Cut.f kj3 (t472.take ((l0_0.length:Int):Int).toNat)).bind fun bt494=>((leaf_Set.f (t472.take ((l0_0.length:Int):Int).toNat) a0_1 a0_2).bind fun t505=>((leaf_Drop.f (t472.take ((l0_0.length:Int):Int).toNat) a0_1).bind fun bt512=>((leaf_Cut.f kj3 (t472.take ((l0_0.length:Int):Int).toNat)).bind fun bt520=>(if t471.isNone=true then ((copselaw7_rising.f kj3 l0_0 4072).bind fun t527=>((leaf_Decode.f kj3 (t527.length:Int) t470).bind fun bt530=>((copselaw7_rising.f kj3 l0_0 4072).bind fun t534=>((leaf_Decode.f kj3 (t534.length:Int) t470).bind fun bt537=>(copselaw7_LeafNew.j1 kj3 t472 t479 bt486.1 bt494.1 bt494.2.1 t505 bt512.1 bt520.1 bt520.2.1 bt530.1 bt537.1 l0_0 a0_1 a0_2 a0_3))))) else (copselaw7_LeafNew.j1 kj3 t472 t479 bt486.1 bt494.1 bt494.2.1 t505 bt512.1 bt520.1 bt520.2.1 ([]:List (S58)) ([]:List (S58)) l0_0 a0_1 a0_2 a0_3)))))))=some r:=by first|(rw[hy482];with_reducible exact H)|(have H2_:=(Option.bind_some _ _).symm.trans H;rw[hy482];with_reducible exact H2_)|(have H2_:=(Option.bind_some _ _).symm.trans H;with_reducible exact H2_)|with_reducible exact H|(rw[hy482];exact H)|exact H
       have Ny482:=Aside0.mk hy482
       clear hy482
       first|(have YEy482:=Aside0.mk (Ny482.out.trans Ny475.out.symm))|skip
       replace H:=Option.bind_eq_some_iff.mp H
       obtain⟨⟨t486,t487⟩,A260,H⟩:=H
       try dsimp only at H
       have A26:=Aside0.mk A260
       clear A260
       have c27b0:=eq_true (of_decide_eq_true (by assumption):0≤(l0_0.length:Int))
       have c28b0:=eq_true (of_decide_eq_true (by assumption):(l0_0.length:Int)≤(t472.length:Int))
       obtain⟨y490,hy490⟩ : ∃ y_:List (S58),y_=(t472.take ((l0_0.length:Int):Int).toNat):=⟨_,rfl⟩
       replace H:((leaf_Cut.f kj3 y490).bind fun bt494=>((leaf_Set.f (t472.take ((l0_0.length:Int):Int).toNat) a0_1 a0_2).bind fun t505=>((leaf_Drop.f (t472.take ((l0_0.length:Int):Int).toNat) a0_1).bind fun bt512=>((leaf_Cut.f kj3 (t472.take ((l0_0.length:Int):Int).toNat)).bind fun bt520=>(if t471.isNone=true then ((copselaw7_rising.f kj3 l0_0 4072).bind fun t527=>((leaf_Decode.f kj3 (t527.length:Int) t470).bind fun bt530=>((copselaw7_rising.f kj3 l0_0 4072).bind fun t534=>((leaf_Decode.f kj3 (t534.length:Int) t470).bind fun bt537=>(copselaw7_LeafNew.j1 kj3 t472 t479 t486 bt494.1 bt494.2.1 t505 bt512.1 bt520.1 bt520.2.1 bt530.1 bt537.1 l0_0 a0_1 a0_2 a0_3))))) else (copselaw7_LeafNew.j1 kj3 t472 t479 t486 bt494.1 bt494.2.1 t505 bt512.1 bt520.1 bt520.2.1 ([]:List (S58)) ([]:List (S58)) l0_0 a0_1 a0_2 a0_3))))))=some r:=by first|(rw[hy490];with_reducible exact H)|(have H2_:=(Option.bind_some _ _).symm.trans H;rw[hy490];with_reducible exact H2_)|(have H2_:=(Option.bind_some _ _).symm.trans H;with_reducible exact H2_)|with_reducible exact H|(rw[hy490];exact H)|exact H
       have Ny490:=Aside0.mk hy490
       clear hy490
       first|(have YEy490:=Aside0.mk (Ny490.out.trans Ny475.out.symm))|skip
       replace H:=Option.bind_eq_some_iff.mp H
       obtain⟨⟨t494,t495,t496⟩,A290,H⟩:=H
       try dsimp only at H
       have A29:=Aside0.mk A290
       clear A290
       have c30b0:=eq_true (of_decide_eq_true (by assumption):0≤(l0_0.length:Int))
       have c31b0:=eq_true (of_decide_eq_true (by assumption):(l0_0.length:Int)≤(t472.length:Int))
       obtain⟨y501,hy501⟩ : ∃ y_:List (S58),y_=(t472.take ((l0_0.length:Int):Int).toNat):=⟨_,rfl⟩
       replace H:((leaf_Set.f y501 a0_1 a0_2).bind fun t505=>((leaf_Drop.f (t472.take ((l0_0.length:Int):Int).toNat) a0_1).bind fun bt512=>((leaf_Cut.f kj3 (t472.take ((l0_0.length:Int):Int).toNat)).bind fun bt520=>(if t471.isNone=true then ((copselaw7_rising.f kj3 l0_0 4072).bind fun t527=>((leaf_Decode.f kj3 (t527.length:Int) t470).bind fun bt530=>((copselaw7_rising.f kj3 l0_0 4072).bind fun t534=>((leaf_Decode.f kj3 (t534.length:Int) t470).bind fun bt537=>(copselaw7_LeafNew.j1 kj3 t472 t479 t486 t494 t495 t505 bt512.1 bt520.1 bt520.2.1 bt530.1 bt537.1 l0_0 a0_1 a0_2 a0_3))))) else (copselaw7_LeafNew.j1 kj3 t472 t479 t486 t494 t495 t505 bt512.1 bt520.1 bt520.2.1 ([]:List (S58)) ([]:List (S58)) l0_0 a0_1 a0_2 a0_3)))))=some r:=by first|(rw[hy501];with_reducible exact H)|(have H2_:=(Option.bind_some _ _).symm.trans H;rw[hy501];with_reducible exact H2_)|(have H2_:=(Option.bind_some _ _).symm.trans H;with_reducible exact H2_)|with_reducible exact H|(rw[hy501];exact H)|exact H
       have Ny501:=Aside0.mk hy501
       clear hy501
       first|(have YEy501:=Aside0.mk (Ny501.out.trans Ny475.out.symm))|skip
       replace H:=Option.bind_eq_some_iff.mp H
       obtain⟨t505,A320,H⟩:=H
       try dsimp only at H
       have A32:=Aside0.mk A320
       clear A320
       have c33b0:=eq_true (of_decide_eq_true (by assumption):0≤(l0_0.length:Int))
       have c34b0:=eq_true (of_decide_eq_true (by assumption):(l0_0.length:Int)≤(t472.length:Int))
       obtain⟨y508,hy508⟩ : ∃ y_:List (S58),y_=(t472.take ((l0_0.length:Int):Int).toNat):=⟨_,rfl⟩
       replace H:((leaf_Drop.f y508 a0_1).bind fun bt512=>((leaf_Cut.f kj3 (t472.take ((l0_0.length:Int):Int).toNat)).bind fun bt520=>(if t471.isNone=true then ((copselaw7_rising.f kj3 l0_0 4072).bind fun t527=>((leaf_Decode.f kj3 (t527.length:Int) t470).bind fun bt530=>((copselaw7_rising.f kj3 l0_0 4072).bind fun t534=>((leaf_Decode.f kj3 (t534.length:Int) t470).bind fun bt537=>(copselaw7_LeafNew.j1 kj3 t472 t479 t486 t494 t495 t505 bt512.1 bt520.1 bt520.2.1 bt530.1 bt537.1 l0_0 a0_1 a0_2 a0_3))))) else (copselaw7_LeafNew.j1 kj3 t472 t479 t486 t494 t495 t505 bt512.1 bt520.1 bt520.2.1 ([]:List (S58)) ([]:List (S58)) l0_0 a0_1 a0_2 a0_3))))=some r:=by first|(rw[hy508];with_reducible exact H)|(have H2_:=(Option.bind_some _ _).symm.trans H;rw[hy508];with_reducible exact H2_)|(have H2_:=(Option.bind_some _ _).symm.trans H;with_reducible exact H2_)|with_reducible exact H|(rw[hy508];exact H)|exact H
       have Ny508:=Aside0.mk hy508
       clear hy508
       first|(have YEy508:=Aside0.mk (Ny508.out.trans Ny475.out.symm))|skip
       replace H:=Option.bind_eq_some_iff.mp H
       obtain⟨⟨t512,t513⟩,A350,H⟩:=H
       try dsimp only at H
       have A35:=Aside0.mk A350
       clear A350
       have c36b0:=eq_true (of_decide_eq_true (by assumption):0≤(l0_0.length:Int))
       have c37b0:=eq_true (of_decide_eq_true (by assumption):(l0_0.length:Int)≤(t472.length:Int))
       obtain⟨y516,hy516⟩ : ∃ y_:List (S58),y_=(t472.take ((l0_0.length:Int):Int).toNat):=⟨_,rfl⟩
       replace H:((leaf_Cut.f kj3 y516).bind fun bt520=>(if t471.isNone=true then ((copselaw7_rising.f kj3 l0_0 4072).bind fun t527=>((leaf_Decode.f kj3 (t527.length:Int) t470).bind fun bt530=>((copselaw7_rising.f kj3 l0_0 4072).bind fun t534=>((leaf_Decode.f kj3 (t534.length:Int) t470).bind fun bt537=>(copselaw7_LeafNew.j1 kj3 t472 t479 t486 t494 t495 t505 t512 bt520.1 bt520.2.1 bt530.1 bt537.1 l0_0 a0_1 a0_2 a0_3))))) else (copselaw7_LeafNew.j1 kj3 t472 t479 t486 t494 t495 t505 t512 bt520.1 bt520.2.1 ([]:List (S58)) ([]:List (S58)) l0_0 a0_1 a0_2 a0_3)))=some r:=by first|(rw[hy516];with_reducible exact H)|(have H2_:=(Option.bind_some _ _).symm.trans H;rw[hy516];with_reducible exact H2_)|(have H2_:=(Option.bind_some _ _).symm.trans H;with_reducible exact H2_)|with_reducible exact H|(rw[hy516];exact H)|exact H
       have Ny516:=Aside0.mk hy516
       clear hy516
       first|(have YEy516:=Aside0.mk (Ny516.out.trans Ny475.out.symm))|skip
       replace H:=Option.bind_eq_some_iff.mp H
       obtain⟨⟨t520,t521,t522⟩,A380,H⟩:=H
       try dsimp only at H
       have A38:=Aside0.mk A380
       clear A380
       have HC39:=Aside0.mk H
       clear H
       have hcz40_0:wc.cell? ⟨gb459,0,none⟩=some (.slice A0_0 l0_0.length c0_0):=(blk_cell BK459.out 0).trans rfl
       have hcz40_1:wc.cell? ⟨gb459,1,none⟩=some (.string a0_1):=(blk_cell BK459.out 1).trans rfl
       have hcz40_2:wc.cell? ⟨gb459,2,none⟩=some (.string a0_2):=(blk_cell BK459.out 2).trans rfl
       have hcz40_3:wc.cell? ⟨gb459,3,none⟩=some (.bool a0_3):=(blk_cell BK459.out 3).trans rfl
       have hfz40_0:=blk_frozen BK459.out 0
       have hfz40_1:=blk_frozen BK459.out 1
       have hfz40_2:=blk_frozen BK459.out 2
       have hfz40_3:=blk_frozen BK459.out 3
       try go_wp2_with (first|((with_reducible refine gate_callee (f:=30) rfl ?_);refine goesL_ (some 60) rfl rfl Tryd.func30 (by kernel_rfl) rfl #[.agg #[.slice A0_0 l0_0.length c0_0,.string a0_1,.string a0_2,.bool a0_3]] rfl (by (try simp only[ml_]);first|done|rfl|(simp only[List.length_drop,List.length_take];rfl)) ?_;(with_reducible refine (copselaw7_stale.calls kj3 E _ _ l0_0 a0_1 a0_2 a0_3 true _ ?side1 ?side2 ?side3 A16.out).mono ?_);(case side1=>exact (Glob.below HG.out (by repeat (first|exact upB HB.out|refine below_set ?_ GE459.out))));(case side2=>exact upC (Kd.C_below HR0_0.out HB.out));(case side3=>exact HC0_0.out);rintro e w41 ⟨rfl,hb⟩;refine ⟨_,rfl,?_⟩;have n0_:=Aside0.mk (blk_below (g:=gb459) (o:=.cells #[.slice A0_0 l0_0.length c0_0,.string a0_1,.string a0_2,.bool a0_3] 24 (0,0)) (upX BK459.out) hb);have n1_:=Aside0.mk (below_step (by repeat (first|exact upB HB.out|refine below_set ?_ GE459.out)) hb);clear BK459;clear HB;have BK459:=n0_;have HB:=n1_;clear n0_ n1_;(try clear hb);(try clear hb2);(try clear hk);(try clear hi);have hcz42_0:w41.cell? ⟨gb459,0,none⟩=some (.slice A0_0 l0_0.length c0_0):=(blk_cell BK459.out 0).trans rfl;have hcz42_1:w41.cell? ⟨gb459,1,none⟩=some (.string a0_1):=(blk_cell BK459.out 1).trans rfl;have hcz42_2:w41.cell? ⟨gb459,2,none⟩=some (.string a0_2):=(blk_cell BK459.out 2).trans rfl;have hcz42_3:w41.cell? ⟨gb459,3,none⟩=some (.bool a0_3):=(blk_cell BK459.out 3).trans rfl;have hfz42_0:=blk_frozen BK459.out 0;have hfz42_1:=blk_frozen BK459.out 1;have hfz42_2:=blk_frozen BK459.out 2;have hfz42_3:=blk_frozen BK459.out 3)|((with_reducible refine gate_callee (f:=26) rfl ?_);refine goesL_ (some 66) rfl rfl Tryd.func26 (by kernel_rfl) rfl #[.slice A0_0 l0_0.length c0_0,.int .i64 4072] rfl (by (try simp only[ml_]);first|done|rfl|(simp only[List.length_drop,List.length_take];rfl)) ?_;(with_reducible refine (copselaw7_rising.calls kj3 _ _ l0_0 4072 t467 _ ?side1 ?side2 A18.out).mono ?_);(case side1=>exact upC (Kd.C_below HR0_0.out HB.out));(case side2=>exact HC0_0.out);rintro e w43 ⟨v468,rfl,ho0,hb⟩;refine ⟨_,rfl,?_⟩;have n0_:=Aside0.mk (Kd.R_lower ho0 (below_size (by repeat (first|exact upB HB.out|refine below_set ?_ GE459.out))));have n1_:=Aside0.mk (blk_below (g:=gb459) (o:=.cells #[.slice A0_0 l0_0.length c0_0,.string a0_1,.string a0_2,.bool a0_3] 24 (0,0)) (upX BK459.out) hb);have n2_:=Aside0.mk (below_step (by repeat (first|exact upB HB.out|refine below_set ?_ GE459.out)) hb);clear BK459;clear HB;have HO469:=n0_;have BK459:=n1_;have HB:=n2_;clear n0_ n1_ n2_;(try clear hb);(try clear hb2);(try clear hk);(try clear hi);(try clear ho0);obtain⟨Ao44,co44,eo44⟩:=Kd.R_slice HO469.out;subst eo44)|((with_reducible refine gate_callee (f:=21) rfl ?_);refine goesL_ (some 67) rfl rfl Tryd.func21 (by kernel_rfl) rfl #[.slice Ao44 t467.length co44] rfl (by (try simp only[ml_]);first|done|rfl|(simp only[List.length_drop,List.length_take];rfl)) ?_;(with_reducible refine (leaf_Encode.calls kj3 E _ _ t467 t470 t471 _ ?side1 ?side2 ?side3 A19.out).mono ?_);(case side1=>exact (Glob.below HG.out (by repeat (first|exact upB HB.out|refine below_set ?_ GE459.out))));(case side2=>exact upC (Kd.R_reads' HO469.out).2.2);(case side3=>exact (Kd.R_reads' HO469.out).2.1);rintro e w45 ⟨rfl,hb⟩;refine ⟨_,rfl,?_⟩;have n0_:=Aside0.mk (Kd.R_below (upK HO469.out) hb);have n1_:=Aside0.mk (blk_below (g:=gb459) (o:=.cells #[.slice A0_0 l0_0.length c0_0,.string a0_1,.string a0_2,.bool a0_3] 24 (0,0)) (upX BK459.out) hb);have n2_:=Aside0.mk (below_step (by repeat (first|exact upB HB.out|refine below_set ?_ GE459.out)) hb);clear HO469;clear BK459;clear HB;have HO469:=n0_;have BK459:=n1_;have HB:=n2_;clear n0_ n1_ n2_;(try clear hb);(try clear hb2);(try clear hk);(try clear hi);(try simp only[errW_none,errW_some]);have hcz46_0:w45.cell? ⟨gb459,0,none⟩=some (.slice A0_0 l0_0.length c0_0):=(blk_cell BK459.out 0).trans rfl;have hcz46_1:w45.cell? ⟨gb459,1,none⟩=some (.string a0_1):=(blk_cell BK459.out 1).trans rfl;have hcz46_2:w45.cell? ⟨gb459,2,none⟩=some (.string a0_2):=(blk_cell BK459.out 2).trans rfl;have hcz46_3:w45.cell? ⟨gb459,3,none⟩=some (.bool a0_3):=(blk_cell BK459.out 3).trans rfl;have hfz46_0:=blk_frozen BK459.out 0;have hfz46_1:=blk_frozen BK459.out 1;have hfz46_2:=blk_frozen BK459.out 2;have hfz46_3:=blk_frozen BK459.out 3)|((with_reducible refine gate_callee (f:=11) rfl ?_);refine goesL_ (some 72) rfl rfl Tryd.func11 (by kernel_rfl) rfl #[.slice A0_0 l0_0.length c0_0] rfl (by (try simp only[ml_]);first|done|rfl|(simp only[List.length_drop,List.length_take];rfl)) ?_;(with_reducible refine (copselaw7_pairs.calls kj3 _ _ l0_0 t472 _ ?side1 ?side2 A20.out).mono ?_);(case side1=>exact upC (Kd.C_below HR0_0.out HB.out));(case side2=>exact HC0_0.out);rintro e w47 ⟨v473,rfl,ho0,hb⟩;refine ⟨_,rfl,?_⟩;have n0_:=Aside0.mk (Kd.R_elder' (upK HO469.out) (Kd.R_base ho0) hb);have n1_:=Aside0.mk (Kd.R_lower (Kd.R_new' ho0 (Kd.R_lt (upK HO469.out))) (below_size (by repeat (first|exact upB HB.out|refine below_set ?_ GE459.out))));have n2_:=Aside0.mk (blk_below (g:=gb459) (o:=.cells #[.slice A0_0 l0_0.length c0_0,.string a0_1,.string a0_2,.bool a0_3] 24 (0,0)) (upX BK459.out) hb);have n3_:=Aside0.mk (below_step (by repeat (first|exact upB HB.out|refine below_set ?_ GE459.out)) hb);clear HO469;clear BK459;clear HB;have HO469:=n0_;have HO474:=n1_;have BK459:=n2_;have HB:=n3_;clear n0_ n1_ n2_ n3_;(try clear hb);(try clear hb2);(try clear hk);(try clear hi);(try clear ho0);have hcz48_0:w47.cell? ⟨gb459,0,none⟩=some (.slice A0_0 l0_0.length c0_0):=(blk_cell BK459.out 0).trans rfl;have hcz48_1:w47.cell? ⟨gb459,1,none⟩=some (.string a0_1):=(blk_cell BK459.out 1).trans rfl;have hcz48_2:w47.cell? ⟨gb459,2,none⟩=some (.string a0_2):=(blk_cell BK459.out 2).trans rfl;have hcz48_3:w47.cell? ⟨gb459,3,none⟩=some (.bool a0_3):=(blk_cell BK459.out 3).trans rfl;have hfz48_0:=blk_frozen BK459.out 0;have hfz48_1:=blk_frozen BK459.out 1;have hfz48_2:=blk_frozen BK459.out 2;have hfz48_3:=blk_frozen BK459.out 3))
       have n0_:=Aside0.mk (Kd.R_drew HO469.out)
       have n1_:=Aside0.mk (Kd.R_drew HO474.out)
       have n2_:=Aside0.mk (blk_drew BK459.out)
       have n3_:=Aside0.mk (below_drew1 HB.out)
       clear HO469
       clear HO474
       clear BK459
       clear HB
       have HO469:=n0_
       have HO474:=n1_
       have BK459:=n2_
       have HB:=n3_
       clear n0_ n1_ n2_ n3_
       obtain⟨Ao51,co51,eo51⟩:=Kd.R_slice HO474.out
       (first|subst eo51|(injection eo51 with f1_ f2_ f3_;have f4_:=f1_.symm;have f5_:=f3_.symm;clear f1_ f2_ f3_;subst f4_;subst f5_))
       have q50:((l0_0.length:Int):Int)≤((t472.length:Int):Int):=of_decide_eq_true (by assumption)
       obtain⟨i050,hi050,_,hsz50,_⟩:=info_parts info58
       have hroom50:t472.length≤co51:=(Kd.R_reads' HO474.out).2.1
       have hC50:Kd.C k58 _ Ao51 t472.length t472:=(Kd.R_reads' HO474.out).2.2
       have hcut50:=cut_to (P:=Tryd.prog) 22 58 .i64 Tryd.underlying22 hi050 Ao51 t472.length co51 (l0_0.length:Int) (of_decide_eq_true (by assumption)) q50 hroom50
       have hr50:=Kd.C_take (m:=((l0_0.length:Int):Int).toNat) hC50 (by omega)
       have hy50:y475.length=((l0_0.length:Int):Int).toNat:=(by rw[Ny475.out,List.length_take];omega)
       rw[←Ny475.out] at hr50
       rw[←hy50] at hcut50
       have HR478:=Aside0.mk hr50
       have HC478:=Aside0.mk (show y475.length≤co51 from by omega)
       clear hr50 hC50 hroom50 hi050 hsz50
       have KY50:=Aside0.mk hy50
       clear hy50
       have KL50:=Aside0.mk (show ((l0_0.length:Int):Int).toNat≤t472.length from by omega)
       replace q50:=eq_true q50
       refine start_ (n:=9) (S:=fun w'=>w'.cell? ⟨gb459,0,none⟩=some (.slice A0_0 l0_0.length c0_0)∧w'.cell? ⟨gb459,1,none⟩=some (.string a0_1)∧w'.cell? ⟨gb459,2,none⟩=some (.string a0_2)∧w'.cell? ⟨gb459,3,none⟩=some (.bool a0_3)) (ds:=[]) #[false,false,false,false,false,false,false,false,false] (by kernel_rfl) rfl rfl ⟨(blk_cell BK459.out 0).trans rfl,(blk_cell BK459.out 1).trans rfl,(blk_cell BK459.out 2).trans rfl,(blk_cell BK459.out 3).trans rfl⟩ (fun hHeld=>?_);refine with_tabW copselaw7_LeafNew.tab11 copselaw7_LeafNew.bits11 (fun HT_ HW_=>?_)
       generalize w47.drew=w49 at HO469 HO474 BK459 HB HR478 hHeld ⊢
       refine pure_ (i:=0) (N:=some 76) (v:=?_) (a':=?_) #[true,false,false,false,false,false,false,false,false] rfl rfl (any_of HT_.out (by kernel_rfl)) (fun _ _ _ h=>h) (Or.inl ⟨by rfl,?_⟩) ?_ ?_
       rotate_left
       ·
        intro w'
        go_simp
        with_reducible rfl
       rotate_left
       ·
        simp only[pt_]
        rfl
       refine pure_ (i:=1) (N:=some 77) (v:=?_) (a':=?_) #[true,true,false,false,false,false,false,false,false] rfl rfl (any_of HT_.out (by kernel_rfl)) (fun _ _ _ h=>h) (Or.inl ⟨by rfl,?_⟩) ?_ ?_
       rotate_left
       ·
        intro w'
        go_simp
        with_reducible rfl
       rotate_left
       ·
        simp only[pt_]
        rfl
       refine pure_ (i:=2) (N:=some 78) (v:=?_) (a':=?_) #[true,true,true,false,false,false,false,false,false] rfl rfl (any_of HT_.out (by kernel_rfl)) (fun _ _ _ h=>h) (Or.inl ⟨by rfl,?_⟩) ?_ ?_
       rotate_left
       ·
        intro w'
        go_simp
        with_reducible rfl
       rotate_left
       ·
        simp only[pt_]
        rfl
       refine pure_ (i:=3) (N:=some 79) (v:=?_) (a':=?_) #[true,true,true,true,false,false,false,false,false] rfl rfl (any_of HT_.out (by kernel_rfl)) (fun _ _ _ h=>h) (Or.inl ⟨by rfl,?_⟩) ?_ ?_
       rotate_left
       ·
        intro w'
        go_simp
        with_reducible rfl
       rotate_left
       ·
        simp only[pt_]
        rfl
       refine pure_ (i:=5) (N:=some 81) (v:=?_) (a':=?_) #[true,true,true,true,false,true,false,false,false] rfl rfl (any_of HT_.out (by kernel_rfl)) (fun _ _ _ h=>h) (Or.inl ⟨by rfl,?_⟩) ?_ ?_
       rotate_left
       ·
        intro w'
        go_simp
        with_reducible rfl
       rotate_left
       ·
        simp only[pt_]
        rfl
       refine take_ (i:=4) (N:=some 80) (v:=?_) (a':=?_) #[true,true,true,true,true,true,false,false,false] rfl rfl (take_ofW HT_.out HW_.out (by kernel_rfl)) (fun _ _ _ h=>h) (Or.inl ⟨by rfl,?_⟩) hHeld ?_ ?_
       rotate_left
       ·
        rintro w' ⟨s0,s1,s2,s3⟩
        go_simp
        with_reducible rfl
       rotate_left
       ·
        simp only[pt_]
        rfl
       refine take_ (i:=6) (N:=some 82) (v:=?_) (a':=?_) #[true,true,true,true,true,true,true,false,false] rfl rfl (take_ofW HT_.out HW_.out (by kernel_rfl)) (fun _ _ _ h=>h) (Or.inl ⟨by rfl,?_⟩) hHeld ?_ ?_
       rotate_left
       ·
        rintro w' ⟨s0,s1,s2,s3⟩
        go_simp
        with_reducible rfl
       rotate_left
       ·
        simp only[pt_]
        rfl
       refine one_ (i:=7) (N:=some 83) #[true,true,true,true,true,true,true,true,false] rfl rfl (one_of HT_.out (by kernel_rfl)) (by decide) (fun K hK=>?_)
       refine goes_ Tryd.func27 (by kernel_rfl) rfl #[.slice Ao51 y475.length co51,.string a0_1,.string a0_2] (by rfl) rfl rfl (by (try simp only[ml_]);first|done|rfl|(simp only[List.length_drop,List.length_take];rfl)) ?_
       with_reducible refine (leaf_Set.calls _ _ y475 a0_1 a0_2 t479 _ ?side1 ?side2 A23.out).mono ?_
       (case side1=>exact upC HR478.out)
       (case side2=>exact HC478.out)
       rintro e w52 ⟨v480,rfl,ho0,hb⟩
       refine ⟨_,rfl,?_⟩
       have n0_:=Aside0.mk (Kd.R_elder' (upK HO469.out) (Kd.R_base ho0) hb)
       have n1_:=Aside0.mk (Kd.R_elder' (upK HO474.out) (Kd.R_base ho0) hb)
       have n2_:=Aside0.mk (Kd.R_lower (Kd.R_new' (Kd.R_new' ho0 (Kd.R_lt (upK HO469.out))) (Kd.R_lt (upK HO474.out))) (below_size (by repeat (first|exact upB HB.out|refine below_set ?_ GE459.out))))
       have n3_:=Aside0.mk (blk_below (g:=gb459) (o:=.cells #[.slice A0_0 l0_0.length c0_0,.string a0_1,.string a0_2,.bool a0_3] 24 (0,0)) (upX BK459.out) hb)
       have n4_:=Aside0.mk (Kd.C_below (upC HR478.out) hb)
       have n5_:=Aside0.mk (below_step (by repeat (first|exact upB HB.out|refine below_set ?_ GE459.out)) hb)
       clear HO469
       clear HO474
       clear BK459
       clear HR478
       clear HB
       have HO469:=n0_
       have HO474:=n1_
       have HO481:=n2_
       have BK459:=n3_
       have HR478:=n4_
       have HB:=n5_
       clear n0_ n1_ n2_ n3_ n4_ n5_
       (try clear hb)
       (try clear hb2)
       (try clear hk)
       (try clear hi)
       (try clear ho0)
       refine hK.out _ _ ⟨(blk_cell BK459.out 0).trans rfl,(blk_cell BK459.out 1).trans rfl,(blk_cell BK459.out 2).trans rfl,(blk_cell BK459.out 3).trans rfl⟩ (fun hHeld=>?_)
       clear hK K
       refine norm_ (a':=?_) ?_ ?_
       rotate_left
       ·
        show Act.put _ (some 83) _=_
        simp only[pt_]
        rfl
       refine pure_ (i:=8) (N:=some 10) (v:=?_) (a':=?_) #[true,true,true,true,true,true,true,true,true] rfl rfl (any_of HT_.out (by kernel_rfl)) (fun _ _ _ h=>h) (Or.inl ⟨by rfl,?_⟩) ?_ ?_
       rotate_left
       ·
        intro w'
        go_simp
        with_reducible rfl
       rotate_left
       ·
        simp only[pt_]
        rfl
       refine done_ (done_of HT_.out (by kernel_rfl)) ?_
       try go_wp2
       have n0_:=Aside0.mk (Kd.R_drew HO469.out)
       have n1_:=Aside0.mk (Kd.R_drew HO474.out)
       have n2_:=Aside0.mk (Kd.R_drew HO481.out)
       have n3_:=Aside0.mk (blk_drew BK459.out)
       have n4_:=Aside0.mk (Kd.C_drew HR478.out)
       have n5_:=Aside0.mk (below_drew1 HB.out)
       clear HO469
       clear HO474
       clear HO481
       clear BK459
       clear HR478
       clear HB
       have HO469:=n0_
       have HO474:=n1_
       have HO481:=n2_
       have BK459:=n3_
       have HR478:=n4_
       have HB:=n5_
       clear n0_ n1_ n2_ n3_ n4_ n5_
       have q54:((l0_0.length:Int):Int)≤((t472.length:Int):Int):=of_decide_eq_true (by assumption)
       obtain⟨i054,hi054,_,hsz54,_⟩:=info_parts info58
       have hroom54:t472.length≤co51:=(Kd.R_reads' HO474.out).2.1
       have hC54:Kd.C k58 _ Ao51 t472.length t472:=(Kd.R_reads' HO474.out).2.2
       have hcut54:=cut_to (P:=Tryd.prog) 22 58 .i64 Tryd.underlying22 hi054 Ao51 t472.length co51 (l0_0.length:Int) (of_decide_eq_true (by assumption)) q54 hroom54
       have hr54:=Kd.C_take (m:=((l0_0.length:Int):Int).toNat) hC54 (by omega)
       have hy54:y482.length=((l0_0.length:Int):Int).toNat:=(by rw[Ny482.out,List.length_take];omega)
       rw[←Ny482.out] at hr54
       rw[←hy54] at hcut54
       have HR485:=Aside0.mk hr54
       have HC485:=Aside0.mk (show y482.length≤co51 from by omega)
       clear hr54 hC54 hroom54 hi054 hsz54
       have KY54:=Aside0.mk hy54
       clear hy54
       have KL54:=Aside0.mk (show ((l0_0.length:Int):Int).toNat≤t472.length from by omega)
       replace q54:=eq_true q54
       refine start_ (n:=11) (S:=fun w'=>w'.cell? ⟨gb459,0,none⟩=some (.slice A0_0 l0_0.length c0_0)∧w'.cell? ⟨gb459,1,none⟩=some (.string a0_1)∧w'.cell? ⟨gb459,2,none⟩=some (.string a0_2)∧w'.cell? ⟨gb459,3,none⟩=some (.bool a0_3)) (ds:=[]) #[false,false,false,false,false,false,false,false,false,false,false] (by kernel_rfl) rfl rfl ⟨(blk_cell BK459.out 0).trans rfl,(blk_cell BK459.out 1).trans rfl,(blk_cell BK459.out 2).trans rfl,(blk_cell BK459.out 3).trans rfl⟩ (fun hHeld=>?_);refine with_tabW copselaw7_LeafNew.tab12 copselaw7_LeafNew.bits12 (fun HT_ HW_=>?_)
       generalize w52.drew=w53 at HO469 HO474 HO481 BK459 HR478 HB HR485 hHeld ⊢
       refine pure_ (i:=0) (N:=some 85) (v:=?_) (a':=?_) #[true,false,false,false,false,false,false,false,false,false,false] rfl rfl (any_of HT_.out (by kernel_rfl)) (fun _ _ _ h=>h) (Or.inl ⟨by rfl,?_⟩) ?_ ?_
       rotate_left
       ·
        intro w'
        go_simp
        with_reducible rfl
       rotate_left
       ·
        simp only[pt_]
        rfl
       refine pure_ (i:=1) (N:=some 86) (v:=?_) (a':=?_) #[true,true,false,false,false,false,false,false,false,false,false] rfl rfl (any_of HT_.out (by kernel_rfl)) (fun _ _ _ h=>h) (Or.inl ⟨by rfl,?_⟩) ?_ ?_
       rotate_left
       ·
        intro w'
        go_simp
        with_reducible rfl
       rotate_left
       ·
        simp only[pt_]
        rfl
       refine pure_ (i:=2) (N:=some 87) (v:=?_) (a':=?_) #[true,true,true,false,false,false,false,false,false,false,false] rfl rfl (any_of HT_.out (by kernel_rfl)) (fun _ _ _ h=>h) (Or.inl ⟨by rfl,?_⟩) ?_ ?_
       rotate_left
       ·
        intro w'
        go_simp
        with_reducible rfl
       rotate_left
       ·
        simp only[pt_]
        rfl
       refine pure_ (i:=3) (N:=some 88) (v:=?_) (a':=?_) #[true,true,true,true,false,false,false,false,false,false,false] rfl rfl (any_of HT_.out (by kernel_rfl)) (fun _ _ _ h=>h) (Or.inl ⟨by rfl,?_⟩) ?_ ?_
       rotate_left
       ·
        intro w'
        go_simp
        with_reducible rfl
       rotate_left
       ·
        simp only[pt_]
        rfl
       refine take_ (i:=4) (N:=some 89) (v:=?_) (a':=?_) #[true,true,true,true,true,false,false,false,false,false,false] rfl rfl (take_ofW HT_.out HW_.out (by kernel_rfl)) (fun _ _ _ h=>h) (Or.inl ⟨by rfl,?_⟩) hHeld ?_ ?_
       rotate_left
       ·
        rintro w' ⟨s0,s1,s2,s3⟩
        go_simp
        with_reducible rfl
       rotate_left
       ·
        simp only[pt_]
        rfl
       refine one_ (i:=5) (N:=some 90) #[true,true,true,true,true,true,false,false,false,false,false] rfl rfl (one_of HT_.out (by kernel_rfl)) (by decide) (fun K hK=>?_)
       refine goes_ Tryd.func29 (by kernel_rfl) rfl #[.slice Ao51 y482.length co51,.string a0_1] (by rfl) rfl rfl (by (try simp only[List.map_toArray,List.map_cons,List.map_nil]);first|done|rfl|(simp only[List.length_drop,List.length_take];rfl)|(simp only[YEy482.out];rfl)) ?_
       with_reducible refine (leaf_Drop.calls _ _ y482 a0_1 t486 t487 _ ?side1 ?side2 A26.out).mono ?_
       (case side1=>exact upC HR485.out)
       (case side2=>exact HC485.out)
       rintro e w55 ⟨v488,rfl,ho0,hb⟩
       refine ⟨_,rfl,?_⟩
       have n0_:=Aside0.mk (Kd.R_elder' (upK HO469.out) (Kd.R_base ho0) hb)
       have n1_:=Aside0.mk (Kd.R_elder' (upK HO474.out) (Kd.R_base ho0) hb)
       have n2_:=Aside0.mk (Kd.R_elder' (upK HO481.out) (Kd.R_base ho0) hb)
       have n3_:=Aside0.mk (Kd.R_lower (Kd.R_new' (Kd.R_new' (Kd.R_new' ho0 (Kd.R_lt (upK HO469.out))) (Kd.R_lt (upK HO474.out))) (Kd.R_lt (upK HO481.out))) (below_size (by repeat (first|exact upB HB.out|refine below_set ?_ GE459.out))))
       have n4_:=Aside0.mk (blk_below (g:=gb459) (o:=.cells #[.slice A0_0 l0_0.length c0_0,.string a0_1,.string a0_2,.bool a0_3] 24 (0,0)) (upX BK459.out) hb)
       have n5_:=Aside0.mk (Kd.C_below (upC HR478.out) hb)
       have n6_:=Aside0.mk (Kd.C_below (upC HR485.out) hb)
       have n7_:=Aside0.mk (below_step (by repeat (first|exact upB HB.out|refine below_set ?_ GE459.out)) hb)
       clear HO469
       clear HO474
       clear HO481
       clear BK459
       clear HR478
       clear HR485
       clear HB
       have HO469:=n0_
       have HO474:=n1_
       have HO481:=n2_
       have HO489:=n3_
       have BK459:=n4_
       have HR478:=n5_
       have HR485:=n6_
       have HB:=n7_
       clear n0_ n1_ n2_ n3_ n4_ n5_ n6_ n7_
       (try clear hb)
       (try clear hb2)
       (try clear hk)
       (try clear hi)
       (try clear ho0)
       refine hK.out _ _ ⟨(blk_cell BK459.out 0).trans rfl,(blk_cell BK459.out 1).trans rfl,(blk_cell BK459.out 2).trans rfl,(blk_cell BK459.out 3).trans rfl⟩ (fun hHeld=>?_)
       clear hK K
       refine norm_ (a':=?_) ?_ ?_
       rotate_left
       ·
        show Act.put _ (some 90) _=_
        simp only[pt_]
        rfl
       refine pure_ (i:=6) (N:=some 84) (v:=?_) (a':=?_) #[true,true,true,true,true,true,true,false,false,false,false] rfl rfl (any_of HT_.out (by kernel_rfl)) (fun _ _ _ h=>h) (Or.inl ⟨by rfl,?_⟩) ?_ ?_
       rotate_left
       ·
        intro w'
        go_simp
        with_reducible rfl
       rotate_left
       ·
        simp only[pt_]
        rfl
       refine pure_ (i:=7) (N:=some 91) (v:=?_) (a':=?_) #[true,true,true,true,true,true,true,true,false,false,false] rfl rfl (any_of HT_.out (by kernel_rfl)) (fun _ _ _ h=>h) (Or.inl ⟨by rfl,?_⟩) ?_ ?_
       rotate_left
       ·
        intro w'
        go_simp
        with_reducible rfl
       rotate_left
       ·
        simp only[pt_]
        rfl
       refine pure_ (i:=8) (N:=some 92) (v:=?_) (a':=?_) #[true,true,true,true,true,true,true,true,true,false,false] rfl rfl (any_of HT_.out (by kernel_rfl)) (fun _ _ _ h=>h) (Or.inl ⟨by rfl,?_⟩) ?_ ?_
       rotate_left
       ·
        intro w'
        go_simp
        with_reducible rfl
       rotate_left
       ·
        simp only[pt_]
        rfl
       refine pure_ (i:=9) (N:=some 11) (v:=?_) (a':=?_) #[true,true,true,true,true,true,true,true,true,true,false] rfl rfl (any_of HT_.out (by kernel_rfl)) (fun _ _ _ h=>h) (Or.inl ⟨by rfl,?_⟩) ?_ ?_
       rotate_left
       ·
        intro w'
        go_simp
        with_reducible rfl
       rotate_left
       ·
        simp only[pt_]
        rfl
       refine pure_ (i:=10) (N:=some 12) (v:=?_) (a':=?_) #[true,true,true,true,true,true,true,true,true,true,true] rfl rfl (any_of HT_.out (by kernel_rfl)) (fun _ _ _ h=>h) (Or.inl ⟨by rfl,?_⟩) ?_ ?_
       rotate_left
       ·
        intro w'
        go_simp
        with_reducible rfl
       rotate_left
       ·
        simp only[pt_]
        rfl
       refine done_ (done_of HT_.out (by kernel_rfl)) ?_
       have q56:((l0_0.length:Int):Int)≤((t472.length:Int):Int):=of_decide_eq_true (by assumption)
       obtain⟨i056,hi056,_,hsz56,_⟩:=info_parts info58
       have hroom56:t472.length≤co51:=(Kd.R_reads' HO474.out).2.1
       have hC56:Kd.C k58 _ Ao51 t472.length t472:=(Kd.R_reads' HO474.out).2.2
       have hcut56:=cut_to (P:=Tryd.prog) 22 58 .i64 Tryd.underlying22 hi056 Ao51 t472.length co51 (l0_0.length:Int) (of_decide_eq_true (by assumption)) q56 hroom56
       have hr56:=Kd.C_take (m:=((l0_0.length:Int):Int).toNat) hC56 (by omega)
       have hy56:y490.length=((l0_0.length:Int):Int).toNat:=(by rw[Ny490.out,List.length_take];omega)
       rw[←Ny490.out] at hr56
       rw[←hy56] at hcut56
       have HR493:=Aside0.mk hr56
       have HC493:=Aside0.mk (show y490.length≤co51 from by omega)
       clear hr56 hC56 hroom56 hi056 hsz56
       have KY56:=Aside0.mk hy56
       clear hy56
       have KL56:=Aside0.mk (show ((l0_0.length:Int):Int).toNat≤t472.length from by omega)
       replace q56:=eq_true q56
       try go_wp2_with (first|((with_reducible refine gate_callee (f:=18) rfl ?_);refine goesL_ (some 97) rfl rfl Tryd.func18 (by kernel_rfl) rfl #[.slice Ao51 y490.length co51] rfl (by (try simp only[List.map_toArray,List.map_cons,List.map_nil]);first|done|rfl|(simp only[List.length_drop,List.length_take];rfl)|(simp only[YEy490.out];rfl)) ?_;(with_reducible refine (leaf_Cut.calls kj3 E _ _ y490 t494 t495 t496 _ ?side1 ?side2 ?side3 A29.out).mono ?_);(case side1=>exact (Glob.below HG.out (by repeat (first|exact upB HB.out|refine below_set ?_ GE459.out))));(case side2=>exact upC HR493.out);(case side3=>exact HC493.out);rintro e w57 ⟨v497,v499,rfl,ho0,ho1,hb⟩;refine ⟨_,rfl,?_⟩;have n0_:=Aside0.mk (Kd.R_mono (Kd.R_told (Kd.R_told (Kd.R_old (upK HO469.out) hb) (Kd.R_base ho0)) (Kd.R_base ho1)) (fun _ h_=>h_.1));have n1_:=Aside0.mk (Kd.R_mono (Kd.R_told (Kd.R_told (Kd.R_old (upK HO474.out) hb) (Kd.R_base ho0)) (Kd.R_base ho1)) (fun _ h_=>h_.1));have n2_:=Aside0.mk (Kd.R_mono (Kd.R_told (Kd.R_told (Kd.R_old (upK HO481.out) hb) (Kd.R_base ho0)) (Kd.R_base ho1)) (fun _ h_=>h_.1));have n3_:=Aside0.mk (Kd.R_mono (Kd.R_told (Kd.R_told (Kd.R_old (upK HO489.out) hb) (Kd.R_base ho0)) (Kd.R_base ho1)) (fun _ h_=>h_.1));have n4_:=Aside0.mk (Kd.R_lower (Kd.R_new' (Kd.R_new' (Kd.R_new' (Kd.R_new' ho0 (Kd.R_lt (upK HO469.out))) (Kd.R_lt (upK HO474.out))) (Kd.R_lt (upK HO481.out))) (Kd.R_lt (upK HO489.out))) (below_size (by repeat (first|exact upB HB.out|refine below_set ?_ GE459.out))));have n5_:=Aside0.mk (Kd.R_lower (Kd.R_new' (Kd.R_new' (Kd.R_new' (Kd.R_new' ho1 (Kd.R_lt (upK HO469.out))) (Kd.R_lt (upK HO474.out))) (Kd.R_lt (upK HO481.out))) (Kd.R_lt (upK HO489.out))) (below_size (by repeat (first|exact upB HB.out|refine below_set ?_ GE459.out))));have n6_:=Aside0.mk (blk_below (g:=gb459) (o:=.cells #[.slice A0_0 l0_0.length c0_0,.string a0_1,.string a0_2,.bool a0_3] 24 (0,0)) (upX BK459.out) hb);have n7_:=Aside0.mk (Kd.C_below (upC HR478.out) hb);have n8_:=Aside0.mk (Kd.C_below (upC HR485.out) hb);have n9_:=Aside0.mk (Kd.C_below (upC HR493.out) hb);have n10_:=Aside0.mk (below_step (by repeat (first|exact upB HB.out|refine below_set ?_ GE459.out)) hb);clear HO469;clear HO474;clear HO481;clear HO489;clear BK459;clear HR478;clear HR485;clear HR493;clear HB;have HO469:=n0_;have HO474:=n1_;have HO481:=n2_;have HO489:=n3_;have HO498:=n4_;have HO500:=n5_;have BK459:=n6_;have HR478:=n7_;have HR485:=n8_;have HR493:=n9_;have HB:=n10_;clear n0_ n1_ n2_ n3_ n4_ n5_ n6_ n7_ n8_ n9_ n10_;(try clear hb);(try clear hb2);(try clear hk);(try clear hi);(try clear ho0);(try clear ho1);(try simp only[errW_none,errW_some])))
       have n0_:=Aside0.mk (Kd.R_drew HO469.out)
       have n1_:=Aside0.mk (Kd.R_drew HO474.out)
       have n2_:=Aside0.mk (Kd.R_drew HO481.out)
       have n3_:=Aside0.mk (Kd.R_drew HO489.out)
       have n4_:=Aside0.mk (Kd.R_drew HO498.out)
       have n5_:=Aside0.mk (Kd.R_drew HO500.out)
       have n6_:=Aside0.mk (blk_drew BK459.out)
       have n7_:=Aside0.mk (Kd.C_drew HR478.out)
       have n8_:=Aside0.mk (Kd.C_drew HR485.out)
       have n9_:=Aside0.mk (Kd.C_drew HR493.out)
       have n10_:=Aside0.mk (below_drew1 HB.out)
       clear HO469
       clear HO474
       clear HO481
       clear HO489
       clear HO498
       clear HO500
       clear BK459
       clear HR478
       clear HR485
       clear HR493
       clear HB
       have HO469:=n0_
       have HO474:=n1_
       have HO481:=n2_
       have HO489:=n3_
       have HO498:=n4_
       have HO500:=n5_
       have BK459:=n6_
       have HR478:=n7_
       have HR485:=n8_
       have HR493:=n9_
       have HB:=n10_
       clear n0_ n1_ n2_ n3_ n4_ n5_ n6_ n7_ n8_ n9_ n10_
       have q59:((l0_0.length:Int):Int)≤((t472.length:Int):Int):=of_decide_eq_true (by assumption)
       obtain⟨i059,hi059,_,hsz59,_⟩:=info_parts info58
       have hroom59:t472.length≤co51:=(Kd.R_reads' HO474.out).2.1
       have hC59:Kd.C k58 _ Ao51 t472.length t472:=(Kd.R_reads' HO474.out).2.2
       have hcut59:=cut_to (P:=Tryd.prog) 22 58 .i64 Tryd.underlying22 hi059 Ao51 t472.length co51 (l0_0.length:Int) (of_decide_eq_true (by assumption)) q59 hroom59
       have hr59:=Kd.C_take (m:=((l0_0.length:Int):Int).toNat) hC59 (by omega)
       have hy59:y501.length=((l0_0.length:Int):Int).toNat:=(by rw[Ny501.out,List.length_take];omega)
       rw[←Ny501.out] at hr59
       rw[←hy59] at hcut59
       have HR504:=Aside0.mk hr59
       have HC504:=Aside0.mk (show y501.length≤co51 from by omega)
       clear hr59 hC59 hroom59 hi059 hsz59
       have KY59:=Aside0.mk hy59
       clear hy59
       have KL59:=Aside0.mk (show ((l0_0.length:Int):Int).toNat≤t472.length from by omega)
       replace q59:=eq_true q59
       refine start_ (n:=9) (S:=fun w'=>w'.cell? ⟨gb459,0,none⟩=some (.slice A0_0 l0_0.length c0_0)∧w'.cell? ⟨gb459,1,none⟩=some (.string a0_1)∧w'.cell? ⟨gb459,2,none⟩=some (.string a0_2)∧w'.cell? ⟨gb459,3,none⟩=some (.bool a0_3)) (ds:=[]) #[false,false,false,false,false,false,false,false,false] (by kernel_rfl) rfl rfl ⟨(blk_cell BK459.out 0).trans rfl,(blk_cell BK459.out 1).trans rfl,(blk_cell BK459.out 2).trans rfl,(blk_cell BK459.out 3).trans rfl⟩ (fun hHeld=>?_);refine with_tabW copselaw7_LeafNew.tab14 copselaw7_LeafNew.bits14 (fun HT_ HW_=>?_)
       generalize w57.drew=w58 at HO469 HO474 HO481 HO489 HO498 HO500 BK459 HR478 HR485 HR493 HB HR504 hHeld ⊢
       refine pure_ (i:=0) (N:=some 101) (v:=?_) (a':=?_) #[true,false,false,false,false,false,false,false,false] rfl rfl (any_of HT_.out (by kernel_rfl)) (fun _ _ _ h=>h) (Or.inl ⟨by rfl,?_⟩) ?_ ?_
       rotate_left
       ·
        intro w'
        go_simp
        with_reducible rfl
       rotate_left
       ·
        simp only[pt_]
        rfl
       refine pure_ (i:=1) (N:=some 102) (v:=?_) (a':=?_) #[true,true,false,false,false,false,false,false,false] rfl rfl (any_of HT_.out (by kernel_rfl)) (fun _ _ _ h=>h) (Or.inl ⟨by rfl,?_⟩) ?_ ?_
       rotate_left
       ·
        intro w'
        go_simp
        with_reducible rfl
       rotate_left
       ·
        simp only[pt_]
        rfl
       refine pure_ (i:=2) (N:=some 103) (v:=?_) (a':=?_) #[true,true,true,false,false,false,false,false,false] rfl rfl (any_of HT_.out (by kernel_rfl)) (fun _ _ _ h=>h) (Or.inl ⟨by rfl,?_⟩) ?_ ?_
       rotate_left
       ·
        intro w'
        go_simp
        with_reducible rfl
       rotate_left
       ·
        simp only[pt_]
        rfl
       refine pure_ (i:=3) (N:=some 104) (v:=?_) (a':=?_) #[true,true,true,true,false,false,false,false,false] rfl rfl (any_of HT_.out (by kernel_rfl)) (fun _ _ _ h=>h) (Or.inl ⟨by rfl,?_⟩) ?_ ?_
       rotate_left
       ·
        intro w'
        go_simp
        with_reducible rfl
       rotate_left
       ·
        simp only[pt_]
        rfl
       refine pure_ (i:=5) (N:=some 106) (v:=?_) (a':=?_) #[true,true,true,true,false,true,false,false,false] rfl rfl (any_of HT_.out (by kernel_rfl)) (fun _ _ _ h=>h) (Or.inl ⟨by rfl,?_⟩) ?_ ?_
       rotate_left
       ·
        intro w'
        go_simp
        with_reducible rfl
       rotate_left
       ·
        simp only[pt_]
        rfl
       refine take_ (i:=4) (N:=some 105) (v:=?_) (a':=?_) #[true,true,true,true,true,true,false,false,false] rfl rfl (take_ofW HT_.out HW_.out (by kernel_rfl)) (fun _ _ _ h=>h) (Or.inl ⟨by rfl,?_⟩) hHeld ?_ ?_
       rotate_left
       ·
        rintro w' ⟨s0,s1,s2,s3⟩
        go_simp
        with_reducible rfl
       rotate_left
       ·
        simp only[pt_]
        rfl
       refine take_ (i:=6) (N:=some 107) (v:=?_) (a':=?_) #[true,true,true,true,true,true,true,false,false] rfl rfl (take_ofW HT_.out HW_.out (by kernel_rfl)) (fun _ _ _ h=>h) (Or.inl ⟨by rfl,?_⟩) hHeld ?_ ?_
       rotate_left
       ·
        rintro w' ⟨s0,s1,s2,s3⟩
        go_simp
        with_reducible rfl
       rotate_left
       ·
        simp only[pt_]
        rfl
       refine one_ (i:=7) (N:=some 108) #[true,true,true,true,true,true,true,true,false] rfl rfl (one_of HT_.out (by kernel_rfl)) (by decide) (fun K hK=>?_)
       refine goes_ Tryd.func27 (by kernel_rfl) rfl #[.slice Ao51 y501.length co51,.string a0_1,.string a0_2] (by rfl) rfl rfl (by (try simp only[List.map_toArray,List.map_cons,List.map_nil]);first|done|rfl|(simp only[List.length_drop,List.length_take];rfl)|(simp only[YEy501.out];rfl)) ?_
       with_reducible refine (leaf_Set.calls _ _ y501 a0_1 a0_2 t505 _ ?side1 ?side2 A32.out).mono ?_
       (case side1=>exact upC HR504.out)
       (case side2=>exact HC504.out)
       rintro e w60 ⟨v506,rfl,ho0,hb⟩
       refine ⟨_,rfl,?_⟩
       have n0_:=Aside0.mk (Kd.R_elder' (upK HO469.out) (Kd.R_base ho0) hb)
       have n1_:=Aside0.mk (Kd.R_elder' (upK HO474.out) (Kd.R_base ho0) hb)
       have n2_:=Aside0.mk (Kd.R_elder' (upK HO481.out) (Kd.R_base ho0) hb)
       have n3_:=Aside0.mk (Kd.R_elder' (upK HO489.out) (Kd.R_base ho0) hb)
       have n4_:=Aside0.mk (Kd.R_elder' (upK HO498.out) (Kd.R_base ho0) hb)
       have n5_:=Aside0.mk (Kd.R_elder' (upK HO500.out) (Kd.R_base ho0) hb)
       have n6_:=Aside0.mk (Kd.R_lower (Kd.R_new' (Kd.R_new' (Kd.R_new' (Kd.R_new' (Kd.R_new' (Kd.R_new' ho0 (Kd.R_lt (upK HO469.out))) (Kd.R_lt (upK HO474.out))) (Kd.R_lt (upK HO481.out))) (Kd.R_lt (upK HO489.out))) (Kd.R_lt (upK HO498.out))) (Kd.R_lt (upK HO500.out))) (below_size (by repeat (first|exact upB HB.out|refine below_set ?_ GE459.out))))
       have n7_:=Aside0.mk (blk_below (g:=gb459) (o:=.cells #[.slice A0_0 l0_0.length c0_0,.string a0_1,.string a0_2,.bool a0_3] 24 (0,0)) (upX BK459.out) hb)
       have n8_:=Aside0.mk (Kd.C_below (upC HR478.out) hb)
       have n9_:=Aside0.mk (Kd.C_below (upC HR485.out) hb)
       have n10_:=Aside0.mk (Kd.C_below (upC HR493.out) hb)
       have n11_:=Aside0.mk (Kd.C_below (upC HR504.out) hb)
       have n12_:=Aside0.mk (below_step (by repeat (first|exact upB HB.out|refine below_set ?_ GE459.out)) hb)
       clear HO469
       clear HO474
       clear HO481
       clear HO489
       clear HO498
       clear HO500
       clear BK459
       clear HR478
       clear HR485
       clear HR493
       clear HR504
       clear HB
       have HO469:=n0_
       have HO474:=n1_
       have HO481:=n2_
       have HO489:=n3_
       have HO498:=n4_
       have HO500:=n5_
       have HO507:=n6_
       have BK459:=n7_
       have HR478:=n8_
       have HR485:=n9_
       have HR493:=n10_
       have HR504:=n11_
       have HB:=n12_
       clear n0_ n1_ n2_ n3_ n4_ n5_ n6_ n7_ n8_ n9_ n10_ n11_ n12_
       (try clear hb)
       (try clear hb2)
       (try clear hk)
       (try clear hi)
       (try clear ho0)
       refine hK.out _ _ ⟨(blk_cell BK459.out 0).trans rfl,(blk_cell BK459.out 1).trans rfl,(blk_cell BK459.out 2).trans rfl,(blk_cell BK459.out 3).trans rfl⟩ (fun hHeld=>?_)
       clear hK K
       refine norm_ (a':=?_) ?_ ?_
       rotate_left
       ·
        show Act.put _ (some 108) _=_
        simp only[pt_]
        rfl
       refine pure_ (i:=8) (N:=some 16) (v:=?_) (a':=?_) #[true,true,true,true,true,true,true,true,true] rfl rfl (any_of HT_.out (by kernel_rfl)) (fun _ _ _ h=>h) (Or.inl ⟨by rfl,?_⟩) ?_ ?_
       rotate_left
       ·
        intro w'
        go_simp
        with_reducible rfl
       rotate_left
       ·
        simp only[pt_]
        rfl
       refine done_ (done_of HT_.out (by kernel_rfl)) ?_
       try go_wp2
       have n0_:=Aside0.mk (Kd.R_drew HO469.out)
       have n1_:=Aside0.mk (Kd.R_drew HO474.out)
       have n2_:=Aside0.mk (Kd.R_drew HO481.out)
       have n3_:=Aside0.mk (Kd.R_drew HO489.out)
       have n4_:=Aside0.mk (Kd.R_drew HO498.out)
       have n5_:=Aside0.mk (Kd.R_drew HO500.out)
       have n6_:=Aside0.mk (Kd.R_drew HO507.out)
       have n7_:=Aside0.mk (blk_drew BK459.out)
       have n8_:=Aside0.mk (Kd.C_drew HR478.out)
       have n9_:=Aside0.mk (Kd.C_drew HR485.out)
       have n10_:=Aside0.mk (Kd.C_drew HR493.out)
       have n11_:=Aside0.mk (Kd.C_drew HR504.out)
       have n12_:=Aside0.mk (below_drew1 HB.out)
       clear HO469
       clear HO474
       clear HO481
       clear HO489
       clear HO498
       clear HO500
       clear HO507
       clear BK459
       clear HR478
       clear HR485
       clear HR493
       clear HR504
       clear HB
       have HO469:=n0_
       have HO474:=n1_
       have HO481:=n2_
       have HO489:=n3_
       have HO498:=n4_
       have HO500:=n5_
       have HO507:=n6_
       have BK459:=n7_
       have HR478:=n8_
       have HR485:=n9_
       have HR493:=n10_
       have HR504:=n11_
       have HB:=n12_
       clear n0_ n1_ n2_ n3_ n4_ n5_ n6_ n7_ n8_ n9_ n10_ n11_ n12_
       have q62:((l0_0.length:Int):Int)≤((t472.length:Int):Int):=of_decide_eq_true (by assumption)
       obtain⟨i062,hi062,_,hsz62,_⟩:=info_parts info58
       have hroom62:t472.length≤co51:=(Kd.R_reads' HO474.out).2.1
       have hC62:Kd.C k58 _ Ao51 t472.length t472:=(Kd.R_reads' HO474.out).2.2
       have hcut62:=cut_to (P:=Tryd.prog) 22 58 .i64 Tryd.underlying22 hi062 Ao51 t472.length co51 (l0_0.length:Int) (of_decide_eq_true (by assumption)) q62 hroom62
       have hr62:=Kd.C_take (m:=((l0_0.length:Int):Int).toNat) hC62 (by omega)
       have hy62:y508.length=((l0_0.length:Int):Int).toNat:=(by rw[Ny508.out,List.length_take];omega)
       rw[←Ny508.out] at hr62
       rw[←hy62] at hcut62
       have HR511:=Aside0.mk hr62
       have HC511:=Aside0.mk (show y508.length≤co51 from by omega)
       clear hr62 hC62 hroom62 hi062 hsz62
       have KY62:=Aside0.mk hy62
       clear hy62
       have KL62:=Aside0.mk (show ((l0_0.length:Int):Int).toNat≤t472.length from by omega)
       replace q62:=eq_true q62
       refine start_ (n:=11) (S:=fun w'=>w'.cell? ⟨gb459,0,none⟩=some (.slice A0_0 l0_0.length c0_0)∧w'.cell? ⟨gb459,1,none⟩=some (.string a0_1)∧w'.cell? ⟨gb459,2,none⟩=some (.string a0_2)∧w'.cell? ⟨gb459,3,none⟩=some (.bool a0_3)) (ds:=[]) #[false,false,false,false,false,false,false,false,false,false,false] (by kernel_rfl) rfl rfl ⟨(blk_cell BK459.out 0).trans rfl,(blk_cell BK459.out 1).trans rfl,(blk_cell BK459.out 2).trans rfl,(blk_cell BK459.out 3).trans rfl⟩ (fun hHeld=>?_);refine with_tabW copselaw7_LeafNew.tab15 copselaw7_LeafNew.bits15 (fun HT_ HW_=>?_)
       generalize w60.drew=w61 at HO469 HO474 HO481 HO489 HO498 HO500 HO507 BK459 HR478 HR485 HR493 HR504 HB HR511 hHeld ⊢
       refine pure_ (i:=0) (N:=some 110) (v:=?_) (a':=?_) #[true,false,false,false,false,false,false,false,false,false,false] rfl rfl (any_of HT_.out (by kernel_rfl)) (fun _ _ _ h=>h) (Or.inl ⟨by rfl,?_⟩) ?_ ?_
       rotate_left
       ·
        intro w'
        go_simp
        with_reducible rfl
       rotate_left
       ·
        simp only[pt_]
        rfl
       refine pure_ (i:=1) (N:=some 111) (v:=?_) (a':=?_) #[true,true,false,false,false,false,false,false,false,false,false] rfl rfl (any_of HT_.out (by kernel_rfl)) (fun _ _ _ h=>h) (Or.inl ⟨by rfl,?_⟩) ?_ ?_
       rotate_left
       ·
        intro w'
        go_simp
        with_reducible rfl
       rotate_left
       ·
        simp only[pt_]
        rfl
       refine pure_ (i:=2) (N:=some 112) (v:=?_) (a':=?_) #[true,true,true,false,false,false,false,false,false,false,false] rfl rfl (any_of HT_.out (by kernel_rfl)) (fun _ _ _ h=>h) (Or.inl ⟨by rfl,?_⟩) ?_ ?_
       rotate_left
       ·
        intro w'
        go_simp
        with_reducible rfl
       rotate_left
       ·
        simp only[pt_]
        rfl
       refine pure_ (i:=3) (N:=some 113) (v:=?_) (a':=?_) #[true,true,true,true,false,false,false,false,false,false,false] rfl rfl (any_of HT_.out (by kernel_rfl)) (fun _ _ _ h=>h) (Or.inl ⟨by rfl,?_⟩) ?_ ?_
       rotate_left
       ·
        intro w'
        go_simp
        with_reducible rfl
       rotate_left
       ·
        simp only[pt_]
        rfl
       refine take_ (i:=4) (N:=some 114) (v:=?_) (a':=?_) #[true,true,true,true,true,false,false,false,false,false,false] rfl rfl (take_ofW HT_.out HW_.out (by kernel_rfl)) (fun _ _ _ h=>h) (Or.inl ⟨by rfl,?_⟩) hHeld ?_ ?_
       rotate_left
       ·
        rintro w' ⟨s0,s1,s2,s3⟩
        go_simp
        with_reducible rfl
       rotate_left
       ·
        simp only[pt_]
        rfl
       refine one_ (i:=5) (N:=some 115) #[true,true,true,true,true,true,false,false,false,false,false] rfl rfl (one_of HT_.out (by kernel_rfl)) (by decide) (fun K hK=>?_)
       refine goes_ Tryd.func29 (by kernel_rfl) rfl #[.slice Ao51 y508.length co51,.string a0_1] (by rfl) rfl rfl (by (try simp only[List.map_toArray,List.map_cons,List.map_nil]);first|done|rfl|(simp only[List.length_drop,List.length_take];rfl)|(simp only[YEy508.out];rfl)) ?_
       with_reducible refine (leaf_Drop.calls _ _ y508 a0_1 t512 t513 _ ?side1 ?side2 A35.out).mono ?_
       (case side1=>exact upC HR511.out)
       (case side2=>exact HC511.out)
       rintro e w63 ⟨v514,rfl,ho0,hb⟩
       refine ⟨_,rfl,?_⟩
       have n0_:=Aside0.mk (Kd.R_elder' (upK HO469.out) (Kd.R_base ho0) hb)
       have n1_:=Aside0.mk (Kd.R_elder' (upK HO474.out) (Kd.R_base ho0) hb)
       have n2_:=Aside0.mk (Kd.R_elder' (upK HO481.out) (Kd.R_base ho0) hb)
       have n3_:=Aside0.mk (Kd.R_elder' (upK HO489.out) (Kd.R_base ho0) hb)
       have n4_:=Aside0.mk (Kd.R_elder' (upK HO498.out) (Kd.R_base ho0) hb)
       have n5_:=Aside0.mk (Kd.R_elder' (upK HO500.out) (Kd.R_base ho0) hb)
       have n6_:=Aside0.mk (Kd.R_elder' (upK HO507.out) (Kd.R_base ho0) hb)
       have n7_:=Aside0.mk (Kd.R_lower (Kd.R_new' (Kd.R_new' (Kd.R_new' (Kd.R_new' (Kd.R_new' (Kd.R_new' (Kd.R_new' ho0 (Kd.R_lt (upK HO469.out))) (Kd.R_lt (upK HO474.out))) (Kd.R_lt (upK HO481.out))) (Kd.R_lt (upK HO489.out))) (Kd.R_lt (upK HO498.out))) (Kd.R_lt (upK HO500.out))) (Kd.R_lt (upK HO507.out))) (below_size (by repeat (first|exact upB HB.out|refine below_set ?_ GE459.out))))
       have n8_:=Aside0.mk (blk_below (g:=gb459) (o:=.cells #[.slice A0_0 l0_0.length c0_0,.string a0_1,.string a0_2,.bool a0_3] 24 (0,0)) (upX BK459.out) hb)
       have n9_:=Aside0.mk (Kd.C_below (upC HR478.out) hb)
       have n10_:=Aside0.mk (Kd.C_below (upC HR485.out) hb)
       have n11_:=Aside0.mk (Kd.C_below (upC HR493.out) hb)
       have n12_:=Aside0.mk (Kd.C_below (upC HR504.out) hb)
       have n13_:=Aside0.mk (Kd.C_below (upC HR511.out) hb)
       have n14_:=Aside0.mk (below_step (by repeat (first|exact upB HB.out|refine below_set ?_ GE459.out)) hb)
       clear HO469
       clear HO474
       clear HO481
       clear HO489
       clear HO498
       clear HO500
       clear HO507
       clear BK459
       clear HR478
       clear HR485
       clear HR493
       clear HR504
       clear HR511
       clear HB
       have HO469:=n0_
       have HO474:=n1_
       have HO481:=n2_
       have HO489:=n3_
       have HO498:=n4_
       have HO500:=n5_
       have HO507:=n6_
       have HO515:=n7_
       have BK459:=n8_
       have HR478:=n9_
       have HR485:=n10_
       have HR493:=n11_
       have HR504:=n12_
       have HR511:=n13_
       have HB:=n14_
       clear n0_ n1_ n2_ n3_ n4_ n5_ n6_ n7_ n8_ n9_ n10_ n11_ n12_ n13_ n14_
       (try clear hb)
       (try clear hb2)
       (try clear hk)
       (try clear hi)
       (try clear ho0)
       refine hK.out _ _ ⟨(blk_cell BK459.out 0).trans rfl,(blk_cell BK459.out 1).trans rfl,(blk_cell BK459.out 2).trans rfl,(blk_cell BK459.out 3).trans rfl⟩ (fun hHeld=>?_)
       clear hK K
       refine norm_ (a':=?_) ?_ ?_
       rotate_left
       ·
        show Act.put _ (some 115) _=_
        simp only[pt_]
        rfl
       refine pure_ (i:=6) (N:=some 109) (v:=?_) (a':=?_) #[true,true,true,true,true,true,true,false,false,false,false] rfl rfl (any_of HT_.out (by kernel_rfl)) (fun _ _ _ h=>h) (Or.inl ⟨by rfl,?_⟩) ?_ ?_
       rotate_left
       ·
        intro w'
        go_simp
        with_reducible rfl
       rotate_left
       ·
        simp only[pt_]
        rfl
       refine pure_ (i:=7) (N:=some 116) (v:=?_) (a':=?_) #[true,true,true,true,true,true,true,true,false,false,false] rfl rfl (any_of HT_.out (by kernel_rfl)) (fun _ _ _ h=>h) (Or.inl ⟨by rfl,?_⟩) ?_ ?_
       rotate_left
       ·
        intro w'
        go_simp
        with_reducible rfl
       rotate_left
       ·
        simp only[pt_]
        rfl
       refine pure_ (i:=8) (N:=some 117) (v:=?_) (a':=?_) #[true,true,true,true,true,true,true,true,true,false,false] rfl rfl (any_of HT_.out (by kernel_rfl)) (fun _ _ _ h=>h) (Or.inl ⟨by rfl,?_⟩) ?_ ?_
       rotate_left
       ·
        intro w'
        go_simp
        with_reducible rfl
       rotate_left
       ·
        simp only[pt_]
        rfl
       refine pure_ (i:=9) (N:=some 17) (v:=?_) (a':=?_) #[true,true,true,true,true,true,true,true,true,true,false] rfl rfl (any_of HT_.out (by kernel_rfl)) (fun _ _ _ h=>h) (Or.inl ⟨by rfl,?_⟩) ?_ ?_
       rotate_left
       ·
        intro w'
        go_simp
        with_reducible rfl
       rotate_left
       ·
        simp only[pt_]
        rfl
       refine pure_ (i:=10) (N:=some 18) (v:=?_) (a':=?_) #[true,true,true,true,true,true,true,true,true,true,true] rfl rfl (any_of HT_.out (by kernel_rfl)) (fun _ _ _ h=>h) (Or.inl ⟨by rfl,?_⟩) ?_ ?_
       rotate_left
       ·
        intro w'
        go_simp
        with_reducible rfl
       rotate_left
       ·
        simp only[pt_]
        rfl
       refine done_ (done_of HT_.out (by kernel_rfl)) ?_
       have q64:((l0_0.length:Int):Int)≤((t472.length:Int):Int):=of_decide_eq_true (by assumption)
       obtain⟨i064,hi064,_,hsz64,_⟩:=info_parts info58
       have hroom64:t472.length≤co51:=(Kd.R_reads' HO474.out).2.1
       have hC64:Kd.C k58 _ Ao51 t472.length t472:=(Kd.R_reads' HO474.out).2.2
       have hcut64:=cut_to (P:=Tryd.prog) 22 58 .i64 Tryd.underlying22 hi064 Ao51 t472.length co51 (l0_0.length:Int) (of_decide_eq_true (by assumption)) q64 hroom64
       have hr64:=Kd.C_take (m:=((l0_0.length:Int):Int).toNat) hC64 (by omega)
       have hy64:y516.length=((l0_0.length:Int):Int).toNat:=(by rw[Ny516.out,List.length_take];omega)
       rw[←Ny516.out] at hr64
       rw[←hy64] at hcut64
       have HR519:=Aside0.mk hr64
       have HC519:=Aside0.mk (show y516.length≤co51 from by omega)
       clear hr64 hC64 hroom64 hi064 hsz64
       have KY64:=Aside0.mk hy64
       clear hy64
       have KL64:=Aside0.mk (show ((l0_0.length:Int):Int).toNat≤t472.length from by omega)
       replace q64:=eq_true q64
       have hx127:=errW_isNil E t471
       have hx128:=errW_guard E t471
       go_upto_if 127 with (first|((with_reducible refine gate_callee (f:=18) rfl ?_);refine goesL_ (some 122) rfl rfl Tryd.func18 (by kernel_rfl) rfl #[.slice Ao51 y516.length co51] rfl (by (try simp only[List.map_toArray,List.map_cons,List.map_nil]);first|done|rfl|(simp only[List.length_drop,List.length_take];rfl)|(simp only[YEy516.out];rfl)) ?_;(with_reducible refine (leaf_Cut.calls kj3 E _ _ y516 t520 t521 t522 _ ?side1 ?side2 ?side3 A38.out).mono ?_);(case side1=>exact (Glob.below HG.out (by repeat (first|exact upB HB.out|refine below_set ?_ GE459.out))));(case side2=>exact upC HR519.out);(case side3=>exact HC519.out);rintro e w65 ⟨v523,v525,rfl,ho0,ho1,hb⟩;refine ⟨_,rfl,?_⟩;have n0_:=Aside0.mk (Kd.R_mono (Kd.R_told (Kd.R_told (Kd.R_old (upK HO469.out) hb) (Kd.R_base ho0)) (Kd.R_base ho1)) (fun _ h_=>h_.1));have n1_:=Aside0.mk (Kd.R_mono (Kd.R_told (Kd.R_told (Kd.R_old (upK HO474.out) hb) (Kd.R_base ho0)) (Kd.R_base ho1)) (fun _ h_=>h_.1));have n2_:=Aside0.mk (Kd.R_mono (Kd.R_told (Kd.R_told (Kd.R_old (upK HO481.out) hb) (Kd.R_base ho0)) (Kd.R_base ho1)) (fun _ h_=>h_.1));have n3_:=Aside0.mk (Kd.R_mono (Kd.R_told (Kd.R_told (Kd.R_old (upK HO489.out) hb) (Kd.R_base ho0)) (Kd.R_base ho1)) (fun _ h_=>h_.1));have n4_:=Aside0.mk (Kd.R_mono (Kd.R_told (Kd.R_told (Kd.R_old (upK HO498.out) hb) (Kd.R_base ho0)) (Kd.R_base ho1)) (fun _ h_=>h_.1));have n5_:=Aside0.mk (Kd.R_mono (Kd.R_told (Kd.R_told (Kd.R_old (upK HO500.out) hb) (Kd.R_base ho0)) (Kd.R_base ho1)) (fun _ h_=>h_.1));have n6_:=Aside0.mk (Kd.R_mono (Kd.R_told (Kd.R_told (Kd.R_old (upK HO507.out) hb) (Kd.R_base ho0)) (Kd.R_base ho1)) (fun _ h_=>h_.1));have n7_:=Aside0.mk (Kd.R_mono (Kd.R_told (Kd.R_told (Kd.R_old (upK HO515.out) hb) (Kd.R_base ho0)) (Kd.R_base ho1)) (fun _ h_=>h_.1));have n8_:=Aside0.mk (Kd.R_lower (Kd.R_new' (Kd.R_new' (Kd.R_new' (Kd.R_new' (Kd.R_new' (Kd.R_new' (Kd.R_new' (Kd.R_new' ho0 (Kd.R_lt (upK HO469.out))) (Kd.R_lt (upK HO474.out))) (Kd.R_lt (upK HO481.out))) (Kd.R_lt (upK HO489.out))) (Kd.R_lt (upK HO498.out))) (Kd.R_lt (upK HO500.out))) (Kd.R_lt (upK HO507.out))) (Kd.R_lt (upK HO515.out))) (below_size (by repeat (first|exact upB HB.out|refine below_set ?_ GE459.out))));have n9_:=Aside0.mk (Kd.R_lower (Kd.R_new' (Kd.R_new' (Kd.R_new' (Kd.R_new' (Kd.R_new' (Kd.R_new' (Kd.R_new' (Kd.R_new' ho1 (Kd.R_lt (upK HO469.out))) (Kd.R_lt (upK HO474.out))) (Kd.R_lt (upK HO481.out))) (Kd.R_lt (upK HO489.out))) (Kd.R_lt (upK HO498.out))) (Kd.R_lt (upK HO500.out))) (Kd.R_lt (upK HO507.out))) (Kd.R_lt (upK HO515.out))) (below_size (by repeat (first|exact upB HB.out|refine below_set ?_ GE459.out))));have n10_:=Aside0.mk (blk_below (g:=gb459) (o:=.cells #[.slice A0_0 l0_0.length c0_0,.string a0_1,.string a0_2,.bool a0_3] 24 (0,0)) (upX BK459.out) hb);have n11_:=Aside0.mk (Kd.C_below (upC HR478.out) hb);have n12_:=Aside0.mk (Kd.C_below (upC HR485.out) hb);have n13_:=Aside0.mk (Kd.C_below (upC HR493.out) hb);have n14_:=Aside0.mk (Kd.C_below (upC HR504.out) hb);have n15_:=Aside0.mk (Kd.C_below (upC HR511.out) hb);have n16_:=Aside0.mk (Kd.C_below (upC HR519.out) hb);have n17_:=Aside0.mk (below_step (by repeat (first|exact upB HB.out|refine below_set ?_ GE459.out)) hb);clear HO469;clear HO474;clear HO481;clear HO489;clear HO498;clear HO500;clear HO507;clear HO515;clear BK459;clear HR478;clear HR485;clear HR493;clear HR504;clear HR511;clear HR519;clear HB;have HO469:=n0_;have HO474:=n1_;have HO481:=n2_;have HO489:=n3_;have HO498:=n4_;have HO500:=n5_;have HO507:=n6_;have HO515:=n7_;have HO524:=n8_;have HO526:=n9_;have BK459:=n10_;have HR478:=n11_;have HR485:=n12_;have HR493:=n13_;have HR504:=n14_;have HR511:=n15_;have HR519:=n16_;have HB:=n17_;clear n0_ n1_ n2_ n3_ n4_ n5_ n6_ n7_ n8_ n9_ n10_ n11_ n12_ n13_ n14_ n15_ n16_ n17_;(try clear hb);(try clear hb2);(try clear hk);(try clear hi);(try clear ho0);(try clear ho1);(try simp only[errW_none,errW_some])))
       (try simp only[Act.put,List.setIfInBounds_toArray,List.set_cons_zero,List.set_cons_succ])
       go_cut [22,23] (fun v22 v23 wc=>∃ (kq:Nat) (x22_38:List (S58)) (x23_38:List (S58)),Aside0 (copselaw7_LeafNew.j1 kq t472 t479 t486 t494 t495 t505 t512 t520 t521 x22_38 x23_38 l0_0 a0_1 a0_2 a0_3=some r)∧Aside0 (kq≤kj3)∧Aside0 (Kd.R k58 58 wc w.heap.size (fun k_=>some k_≠(v480:Value).ownBlock∧some k_≠(v488:Value).ownBlock∧some k_≠(v497:Value).ownBlock∧some k_≠(v499:Value).ownBlock∧some k_≠(v506:Value).ownBlock∧some k_≠(v514:Value).ownBlock∧some k_≠(v523:Value).ownBlock∧some k_≠(v525:Value).ownBlock∧some k_≠(v22:Value).ownBlock∧some k_≠(v23:Value).ownBlock) (.slice Ao51 t472.length co51) t472)∧Aside0 (Kd.R k58 58 wc w.heap.size (fun k_=>some k_≠((.slice Ao51 t472.length co51):Value).ownBlock∧some k_≠(v488:Value).ownBlock∧some k_≠(v497:Value).ownBlock∧some k_≠(v499:Value).ownBlock∧some k_≠(v506:Value).ownBlock∧some k_≠(v514:Value).ownBlock∧some k_≠(v523:Value).ownBlock∧some k_≠(v525:Value).ownBlock∧some k_≠(v22:Value).ownBlock∧some k_≠(v23:Value).ownBlock) v480 t479)∧Aside0 (Kd.R k58 58 wc w.heap.size (fun k_=>some k_≠((.slice Ao51 t472.length co51):Value).ownBlock∧some k_≠(v480:Value).ownBlock∧some k_≠(v497:Value).ownBlock∧some k_≠(v499:Value).ownBlock∧some k_≠(v506:Value).ownBlock∧some k_≠(v514:Value).ownBlock∧some k_≠(v523:Value).ownBlock∧some k_≠(v525:Value).ownBlock∧some k_≠(v22:Value).ownBlock∧some k_≠(v23:Value).ownBlock) v488 t486)∧Aside0 (Kd.R k58 58 wc w.heap.size (fun k_=>some k_≠((.slice Ao51 t472.length co51):Value).ownBlock∧some k_≠(v480:Value).ownBlock∧some k_≠(v488:Value).ownBlock∧some k_≠(v499:Value).ownBlock∧some k_≠(v506:Value).ownBlock∧some k_≠(v514:Value).ownBlock∧some k_≠(v523:Value).ownBlock∧some k_≠(v525:Value).ownBlock∧some k_≠(v22:Value).ownBlock∧some k_≠(v23:Value).ownBlock) v497 t494)∧Aside0 (Kd.R k58 58 wc w.heap.size (fun k_=>some k_≠((.slice Ao51 t472.length co51):Value).ownBlock∧some k_≠(v480:Value).ownBlock∧some k_≠(v488:Value).ownBlock∧some k_≠(v497:Value).ownBlock∧some k_≠(v506:Value).ownBlock∧some k_≠(v514:Value).ownBlock∧some k_≠(v523:Value).ownBlock∧some k_≠(v525:Value).ownBlock∧some k_≠(v22:Value).ownBlock∧some k_≠(v23:Value).ownBlock) v499 t495)∧Aside0 (Kd.R k58 58 wc w.heap.size (fun k_=>some k_≠((.slice Ao51 t472.length co51):Value).ownBlock∧some k_≠(v480:Value).ownBlock∧some k_≠(v488:Value).ownBlock∧some k_≠(v497:Value).ownBlock∧some k_≠(v499:Value).ownBlock∧some k_≠(v514:Value).ownBlock∧some k_≠(v523:Value).ownBlock∧some k_≠(v525:Value).ownBlock∧some k_≠(v22:Value).ownBlock∧some k_≠(v23:Value).ownBlock) v506 t505)∧Aside0 (Kd.R k58 58 wc w.heap.size (fun k_=>some k_≠((.slice Ao51 t472.length co51):Value).ownBlock∧some k_≠(v480:Value).ownBlock∧some k_≠(v488:Value).ownBlock∧some k_≠(v497:Value).ownBlock∧some k_≠(v499:Value).ownBlock∧some k_≠(v506:Value).ownBlock∧some k_≠(v523:Value).ownBlock∧some k_≠(v525:Value).ownBlock∧some k_≠(v22:Value).ownBlock∧some k_≠(v23:Value).ownBlock) v514 t512)∧Aside0 (Kd.R k58 58 wc w.heap.size (fun k_=>some k_≠((.slice Ao51 t472.length co51):Value).ownBlock∧some k_≠(v480:Value).ownBlock∧some k_≠(v488:Value).ownBlock∧some k_≠(v497:Value).ownBlock∧some k_≠(v499:Value).ownBlock∧some k_≠(v506:Value).ownBlock∧some k_≠(v514:Value).ownBlock∧some k_≠(v525:Value).ownBlock∧some k_≠(v22:Value).ownBlock∧some k_≠(v23:Value).ownBlock) v523 t520)∧Aside0 (Kd.R k58 58 wc w.heap.size (fun k_=>some k_≠((.slice Ao51 t472.length co51):Value).ownBlock∧some k_≠(v480:Value).ownBlock∧some k_≠(v488:Value).ownBlock∧some k_≠(v497:Value).ownBlock∧some k_≠(v499:Value).ownBlock∧some k_≠(v506:Value).ownBlock∧some k_≠(v514:Value).ownBlock∧some k_≠(v523:Value).ownBlock∧some k_≠(v22:Value).ownBlock∧some k_≠(v23:Value).ownBlock) v525 t521)∧Aside0 (Kd.R k58 58 wc w.heap.size (fun k_=>some k_≠((.slice Ao51 t472.length co51):Value).ownBlock∧some k_≠(v480:Value).ownBlock∧some k_≠(v488:Value).ownBlock∧some k_≠(v497:Value).ownBlock∧some k_≠(v499:Value).ownBlock∧some k_≠(v506:Value).ownBlock∧some k_≠(v514:Value).ownBlock∧some k_≠(v523:Value).ownBlock∧some k_≠(v525:Value).ownBlock∧some k_≠(v23:Value).ownBlock) v22 x22_38)∧Aside0 (Kd.R k58 58 wc w.heap.size (fun k_=>some k_≠((.slice Ao51 t472.length co51):Value).ownBlock∧some k_≠(v480:Value).ownBlock∧some k_≠(v488:Value).ownBlock∧some k_≠(v497:Value).ownBlock∧some k_≠(v499:Value).ownBlock∧some k_≠(v506:Value).ownBlock∧some k_≠(v514:Value).ownBlock∧some k_≠(v523:Value).ownBlock∧some k_≠(v525:Value).ownBlock∧some k_≠(v22:Value).ownBlock) v23 x23_38)∧Aside0 (wc.heap[gb459]?=some (.cells #[(.slice A0_0 l0_0.length c0_0),.string a0_1,.string a0_2,.bool a0_3] 24 (0,0)))∧Aside0 (Below w.heap.size w wc))
       case first=>
        have H:=HC39.out
        clear HC39
        by_cases c66:t471.isNone=true
        ·
         rw[if_pos c66] at H
         have c66b0:t471.isNone=true:=c66
         clear c66
         (first|rw[c66b0]|(simp only[i64_w,i32_w];rw[c66b0])|skip)
         replace H:=Option.bind_eq_some_iff.mp H
         obtain⟨t527,A670,H⟩:=H
         try dsimp only at H
         have A67:=Aside0.mk A670
         clear A670
         replace H:=Option.bind_eq_some_iff.mp H
         obtain⟨⟨t530,t531⟩,A680,H⟩:=H
         try dsimp only at H
         have A68:=Aside0.mk A680
         clear A680
         replace H:=Option.bind_eq_some_iff.mp H
         obtain⟨t534,A690,H⟩:=H
         try dsimp only at H
         have A69:=Aside0.mk A690
         clear A690
         replace H:=Option.bind_eq_some_iff.mp H
         obtain⟨⟨t537,t538⟩,A700,H⟩:=H
         try dsimp only at H
         have A70:=Aside0.mk A700
         clear A700
         have H':=Aside0.mk H
         clear H
         have hcz71_0:w65.cell? ⟨gb459,0,none⟩=some (.slice A0_0 l0_0.length c0_0):=(blk_cell BK459.out 0).trans rfl
         have hcz71_1:w65.cell? ⟨gb459,1,none⟩=some (.string a0_1):=(blk_cell BK459.out 1).trans rfl
         have hcz71_2:w65.cell? ⟨gb459,2,none⟩=some (.string a0_2):=(blk_cell BK459.out 2).trans rfl
         have hcz71_3:w65.cell? ⟨gb459,3,none⟩=some (.bool a0_3):=(blk_cell BK459.out 3).trans rfl
         have hfz71_0:=blk_frozen BK459.out 0
         have hfz71_1:=blk_frozen BK459.out 1
         have hfz71_2:=blk_frozen BK459.out 2
         have hfz71_3:=blk_frozen BK459.out 3
         go_wp2_with (first|((with_reducible refine gate_callee (f:=26) rfl ?_);refine goesL_ (some 131) rfl rfl Tryd.func26 (by kernel_rfl) rfl #[.slice A0_0 l0_0.length c0_0,.int .i64 4072] rfl (by (try simp only[ml_]);first|done|rfl|(simp only[List.length_drop,List.length_take];rfl)) ?_;(with_reducible refine (copselaw7_rising.calls kj3 _ _ l0_0 4072 t527 _ ?side1 ?side2 A67.out).mono ?_);(case side1=>exact upC (Kd.C_below HR0_0.out HB.out));(case side2=>exact HC0_0.out);rintro e w72 ⟨v528,rfl,ho0,hb⟩;refine ⟨_,rfl,?_⟩;have n0_:=Aside0.mk (Kd.R_elder' (upK HO469.out) (Kd.R_base ho0) hb);have n1_:=Aside0.mk (Kd.R_elder' (upK HO474.out) (Kd.R_base ho0) hb);have n2_:=Aside0.mk (Kd.R_elder' (upK HO481.out) (Kd.R_base ho0) hb);have n3_:=Aside0.mk (Kd.R_elder' (upK HO489.out) (Kd.R_base ho0) hb);have n4_:=Aside0.mk (Kd.R_elder' (upK HO498.out) (Kd.R_base ho0) hb);have n5_:=Aside0.mk (Kd.R_elder' (upK HO500.out) (Kd.R_base ho0) hb);have n6_:=Aside0.mk (Kd.R_elder' (upK HO507.out) (Kd.R_base ho0) hb);have n7_:=Aside0.mk (Kd.R_elder' (upK HO515.out) (Kd.R_base ho0) hb);have n8_:=Aside0.mk (Kd.R_elder' (upK HO524.out) (Kd.R_base ho0) hb);have n9_:=Aside0.mk (Kd.R_elder' (upK HO526.out) (Kd.R_base ho0) hb);have n10_:=Aside0.mk (Kd.R_lower (Kd.R_new' (Kd.R_new' (Kd.R_new' (Kd.R_new' (Kd.R_new' (Kd.R_new' (Kd.R_new' (Kd.R_new' (Kd.R_new' (Kd.R_new' ho0 (Kd.R_lt (upK HO469.out))) (Kd.R_lt (upK HO474.out))) (Kd.R_lt (upK HO481.out))) (Kd.R_lt (upK HO489.out))) (Kd.R_lt (upK HO498.out))) (Kd.R_lt (upK HO500.out))) (Kd.R_lt (upK HO507.out))) (Kd.R_lt (upK HO515.out))) (Kd.R_lt (upK HO524.out))) (Kd.R_lt (upK HO526.out))) (below_size (by repeat (first|exact upB HB.out|refine below_set ?_ GE459.out))));have n11_:=Aside0.mk (blk_below (g:=gb459) (o:=.cells #[.slice A0_0 l0_0.length c0_0,.string a0_1,.string a0_2,.bool a0_3] 24 (0,0)) (upX BK459.out) hb);have n12_:=Aside0.mk (Kd.C_below (upC HR478.out) hb);have n13_:=Aside0.mk (Kd.C_below (upC HR485.out) hb);have n14_:=Aside0.mk (Kd.C_below (upC HR493.out) hb);have n15_:=Aside0.mk (Kd.C_below (upC HR504.out) hb);have n16_:=Aside0.mk (Kd.C_below (upC HR511.out) hb);have n17_:=Aside0.mk (Kd.C_below (upC HR519.out) hb);have n18_:=Aside0.mk (below_step (by repeat (first|exact upB HB.out|refine below_set ?_ GE459.out)) hb);clear HO469;clear HO474;clear HO481;clear HO489;clear HO498;clear HO500;clear HO507;clear HO515;clear HO524;clear HO526;clear BK459;clear HR478;clear HR485;clear HR493;clear HR504;clear HR511;clear HR519;clear HB;have HO469:=n0_;have HO474:=n1_;have HO481:=n2_;have HO489:=n3_;have HO498:=n4_;have HO500:=n5_;have HO507:=n6_;have HO515:=n7_;have HO524:=n8_;have HO526:=n9_;have HO529:=n10_;have BK459:=n11_;have HR478:=n12_;have HR485:=n13_;have HR493:=n14_;have HR504:=n15_;have HR511:=n16_;have HR519:=n17_;have HB:=n18_;clear n0_ n1_ n2_ n3_ n4_ n5_ n6_ n7_ n8_ n9_ n10_ n11_ n12_ n13_ n14_ n15_ n16_ n17_ n18_;(try clear hb);(try clear hb2);(try clear hk);(try clear hi);(try clear ho0);obtain⟨Ao73,co73,eo73⟩:=Kd.R_slice HO529.out;subst eo73)|((with_reducible refine gate_callee (f:=23) rfl ?_);refine goesL_ (some 134) rfl rfl Tryd.func23 (by kernel_rfl) rfl #[.int .i64 (t527.length:Int),.string t470] rfl (by (try simp only[ml_]);first|done|rfl|(simp only[List.length_drop,List.length_take];rfl)) ?_;(with_reducible refine (leaf_Decode.calls kj3 E (t527.length:Int) t470 t530 t531 _ ?side1 A68.out).mono ?_);(case side1=>exact (Glob.below HG.out (by repeat (first|exact upB HB.out|refine below_set ?_ GE459.out))));rintro e w74 ⟨v532,rfl,ho0,hb⟩;refine ⟨_,rfl,?_⟩;have n0_:=Aside0.mk (Kd.R_elder' (upK HO469.out) (Kd.R_base ho0) hb);have n1_:=Aside0.mk (Kd.R_elder' (upK HO474.out) (Kd.R_base ho0) hb);have n2_:=Aside0.mk (Kd.R_elder' (upK HO481.out) (Kd.R_base ho0) hb);have n3_:=Aside0.mk (Kd.R_elder' (upK HO489.out) (Kd.R_base ho0) hb);have n4_:=Aside0.mk (Kd.R_elder' (upK HO498.out) (Kd.R_base ho0) hb);have n5_:=Aside0.mk (Kd.R_elder' (upK HO500.out) (Kd.R_base ho0) hb);have n6_:=Aside0.mk (Kd.R_elder' (upK HO507.out) (Kd.R_base ho0) hb);have n7_:=Aside0.mk (Kd.R_elder' (upK HO515.out) (Kd.R_base ho0) hb);have n8_:=Aside0.mk (Kd.R_elder' (upK HO524.out) (Kd.R_base ho0) hb);have n9_:=Aside0.mk (Kd.R_elder' (upK HO526.out) (Kd.R_base ho0) hb);have n10_:=Aside0.mk (Kd.R_elder' (upK HO529.out) (Kd.R_base ho0) hb);have n11_:=Aside0.mk (Kd.R_lower (Kd.R_new' (Kd.R_new' (Kd.R_new' (Kd.R_new' (Kd.R_new' (Kd.R_new' (Kd.R_new' (Kd.R_new' (Kd.R_new' (Kd.R_new' (Kd.R_new' ho0 (Kd.R_lt (upK HO469.out))) (Kd.R_lt (upK HO474.out))) (Kd.R_lt (upK HO481.out))) (Kd.R_lt (upK HO489.out))) (Kd.R_lt (upK HO498.out))) (Kd.R_lt (upK HO500.out))) (Kd.R_lt (upK HO507.out))) (Kd.R_lt (upK HO515.out))) (Kd.R_lt (upK HO524.out))) (Kd.R_lt (upK HO526.out))) (Kd.R_lt (upK HO529.out))) (below_size (by repeat (first|exact upB HB.out|refine below_set ?_ GE459.out))));have n12_:=Aside0.mk (blk_below (g:=gb459) (o:=.cells #[.slice A0_0 l0_0.length c0_0,.string a0_1,.string a0_2,.bool a0_3] 24 (0,0)) (upX BK459.out) hb);have n13_:=Aside0.mk (Kd.C_below (upC HR478.out) hb);have n14_:=Aside0.mk (Kd.C_below (upC HR485.out) hb);have n15_:=Aside0.mk (Kd.C_below (upC HR493.out) hb);have n16_:=Aside0.mk (Kd.C_below (upC HR504.out) hb);have n17_:=Aside0.mk (Kd.C_below (upC HR511.out) hb);have n18_:=Aside0.mk (Kd.C_below (upC HR519.out) hb);have n19_:=Aside0.mk (below_step (by repeat (first|exact upB HB.out|refine below_set ?_ GE459.out)) hb);clear HO469;clear HO474;clear HO481;clear HO489;clear HO498;clear HO500;clear HO507;clear HO515;clear HO524;clear HO526;clear HO529;clear BK459;clear HR478;clear HR485;clear HR493;clear HR504;clear HR511;clear HR519;clear HB;have HO469:=n0_;have HO474:=n1_;have HO481:=n2_;have HO489:=n3_;have HO498:=n4_;have HO500:=n5_;have HO507:=n6_;have HO515:=n7_;have HO524:=n8_;have HO526:=n9_;have HO529:=n10_;have HO533:=n11_;have BK459:=n12_;have HR478:=n13_;have HR485:=n14_;have HR493:=n15_;have HR504:=n16_;have HR511:=n17_;have HR519:=n18_;have HB:=n19_;clear n0_ n1_ n2_ n3_ n4_ n5_ n6_ n7_ n8_ n9_ n10_ n11_ n12_ n13_ n14_ n15_ n16_ n17_ n18_ n19_;(try clear hb);(try clear hb2);(try clear hk);(try clear hi);(try clear ho0);(try simp only[errW_none,errW_some]);have hcz75_0:w74.cell? ⟨gb459,0,none⟩=some (.slice A0_0 l0_0.length c0_0):=(blk_cell BK459.out 0).trans rfl;have hcz75_1:w74.cell? ⟨gb459,1,none⟩=some (.string a0_1):=(blk_cell BK459.out 1).trans rfl;have hcz75_2:w74.cell? ⟨gb459,2,none⟩=some (.string a0_2):=(blk_cell BK459.out 2).trans rfl;have hcz75_3:w74.cell? ⟨gb459,3,none⟩=some (.bool a0_3):=(blk_cell BK459.out 3).trans rfl;have hfz75_0:=blk_frozen BK459.out 0;have hfz75_1:=blk_frozen BK459.out 1;have hfz75_2:=blk_frozen BK459.out 2;have hfz75_3:=blk_frozen BK459.out 3)|((with_reducible refine gate_callee (f:=26) rfl ?_);refine goesL_ (some 140) rfl rfl Tryd.func26 (by kernel_rfl) rfl #[.slice A0_0 l0_0.length c0_0,.int .i64 4072] rfl (by (try simp only[ml_]);first|done|rfl|(simp only[List.length_drop,List.length_take];rfl)) ?_;(with_reducible refine (copselaw7_rising.calls kj3 _ _ l0_0 4072 t534 _ ?side1 ?side2 A69.out).mono ?_);(case side1=>exact upC (Kd.C_below HR0_0.out HB.out));(case side2=>exact HC0_0.out);rintro e w76 ⟨v535,rfl,ho0,hb⟩;refine ⟨_,rfl,?_⟩;have n0_:=Aside0.mk (Kd.R_elder' (upK HO469.out) (Kd.R_base ho0) hb);have n1_:=Aside0.mk (Kd.R_elder' (upK HO474.out) (Kd.R_base ho0) hb);have n2_:=Aside0.mk (Kd.R_elder' (upK HO481.out) (Kd.R_base ho0) hb);have n3_:=Aside0.mk (Kd.R_elder' (upK HO489.out) (Kd.R_base ho0) hb);have n4_:=Aside0.mk (Kd.R_elder' (upK HO498.out) (Kd.R_base ho0) hb);have n5_:=Aside0.mk (Kd.R_elder' (upK HO500.out) (Kd.R_base ho0) hb);have n6_:=Aside0.mk (Kd.R_elder' (upK HO507.out) (Kd.R_base ho0) hb);have n7_:=Aside0.mk (Kd.R_elder' (upK HO515.out) (Kd.R_base ho0) hb);have n8_:=Aside0.mk (Kd.R_elder' (upK HO524.out) (Kd.R_base ho0) hb);have n9_:=Aside0.mk (Kd.R_elder' (upK HO526.out) (Kd.R_base ho0) hb);have n10_:=Aside0.mk (Kd.R_elder' (upK HO529.out) (Kd.R_base ho0) hb);have n11_:=Aside0.mk (Kd.R_elder' (upK HO533.out) (Kd.R_base ho0) hb);have n12_:=Aside0.mk (Kd.R_lower (Kd.R_new' (Kd.R_new' (Kd.R_new' (Kd.R_new' (Kd.R_new' (Kd.R_new' (Kd.R_new' (Kd.R_new' (Kd.R_new' (Kd.R_new' (Kd.R_new' (Kd.R_new' ho0 (Kd.R_lt (upK HO469.out))) (Kd.R_lt (upK HO474.out))) (Kd.R_lt (upK HO481.out))) (Kd.R_lt (upK HO489.out))) (Kd.R_lt (upK HO498.out))) (Kd.R_lt (upK HO500.out))) (Kd.R_lt (upK HO507.out))) (Kd.R_lt (upK HO515.out))) (Kd.R_lt (upK HO524.out))) (Kd.R_lt (upK HO526.out))) (Kd.R_lt (upK HO529.out))) (Kd.R_lt (upK HO533.out))) (below_size (by repeat (first|exact upB HB.out|refine below_set ?_ GE459.out))));have n13_:=Aside0.mk (blk_below (g:=gb459) (o:=.cells #[.slice A0_0 l0_0.length c0_0,.string a0_1,.string a0_2,.bool a0_3] 24 (0,0)) (upX BK459.out) hb);have n14_:=Aside0.mk (Kd.C_below (upC HR478.out) hb);have n15_:=Aside0.mk (Kd.C_below (upC HR485.out) hb);have n16_:=Aside0.mk (Kd.C_below (upC HR493.out) hb);have n17_:=Aside0.mk (Kd.C_below (upC HR504.out) hb);have n18_:=Aside0.mk (Kd.C_below (upC HR511.out) hb);have n19_:=Aside0.mk (Kd.C_below (upC HR519.out) hb);have n20_:=Aside0.mk (below_step (by repeat (first|exact upB HB.out|refine below_set ?_ GE459.out)) hb);clear HO469;clear HO474;clear HO481;clear HO489;clear HO498;clear HO500;clear HO507;clear HO515;clear HO524;clear HO526;clear HO529;clear HO533;clear BK459;clear HR478;clear HR485;clear HR493;clear HR504;clear HR511;clear HR519;clear HB;have HO469:=n0_;have HO474:=n1_;have HO481:=n2_;have HO489:=n3_;have HO498:=n4_;have HO500:=n5_;have HO507:=n6_;have HO515:=n7_;have HO524:=n8_;have HO526:=n9_;have HO529:=n10_;have HO533:=n11_;have HO536:=n12_;have BK459:=n13_;have HR478:=n14_;have HR485:=n15_;have HR493:=n16_;have HR504:=n17_;have HR511:=n18_;have HR519:=n19_;have HB:=n20_;clear n0_ n1_ n2_ n3_ n4_ n5_ n6_ n7_ n8_ n9_ n10_ n11_ n12_ n13_ n14_ n15_ n16_ n17_ n18_ n19_ n20_;(try clear hb);(try clear hb2);(try clear hk);(try clear hi);(try clear ho0);obtain⟨Ao77,co77,eo77⟩:=Kd.R_slice HO536.out;subst eo77)|((with_reducible refine gate_callee (f:=23) rfl ?_);refine goesL_ (some 143) rfl rfl Tryd.func23 (by kernel_rfl) rfl #[.int .i64 (t534.length:Int),.string t470] rfl (by (try simp only[ml_]);first|done|rfl|(simp only[List.length_drop,List.length_take];rfl)) ?_;(with_reducible refine (leaf_Decode.calls kj3 E (t534.length:Int) t470 t537 t538 _ ?side1 A70.out).mono ?_);(case side1=>exact (Glob.below HG.out (by repeat (first|exact upB HB.out|refine below_set ?_ GE459.out))));rintro e w78 ⟨v539,rfl,ho0,hb⟩;refine ⟨_,rfl,?_⟩;have n0_:=Aside0.mk (Kd.R_elder' (upK HO469.out) (Kd.R_base ho0) hb);have n1_:=Aside0.mk (Kd.R_elder' (upK HO474.out) (Kd.R_base ho0) hb);have n2_:=Aside0.mk (Kd.R_elder' (upK HO481.out) (Kd.R_base ho0) hb);have n3_:=Aside0.mk (Kd.R_elder' (upK HO489.out) (Kd.R_base ho0) hb);have n4_:=Aside0.mk (Kd.R_elder' (upK HO498.out) (Kd.R_base ho0) hb);have n5_:=Aside0.mk (Kd.R_elder' (upK HO500.out) (Kd.R_base ho0) hb);have n6_:=Aside0.mk (Kd.R_elder' (upK HO507.out) (Kd.R_base ho0) hb);have n7_:=Aside0.mk (Kd.R_elder' (upK HO515.out) (Kd.R_base ho0) hb);have n8_:=Aside0.mk (Kd.R_elder' (upK HO524.out) (Kd.R_base ho0) hb);have n9_:=Aside0.mk (Kd.R_elder' (upK HO526.out) (Kd.R_base ho0) hb);have n10_:=Aside0.mk (Kd.R_elder' (upK HO529.out) (Kd.R_base ho0) hb);have n11_:=Aside0.mk (Kd.R_elder' (upK HO533.out) (Kd.R_base ho0) hb);have n12_:=Aside0.mk (Kd.R_elder' (upK HO536.out) (Kd.R_base ho0) hb);have n13_:=Aside0.mk (Kd.R_lower (Kd.R_new' (Kd.R_new' (Kd.R_new' (Kd.R_new' (Kd.R_new' (Kd.R_new' (Kd.R_new' (Kd.R_new' (Kd.R_new' (Kd.R_new' (Kd.R_new' (Kd.R_new' (Kd.R_new' ho0 (Kd.R_lt (upK HO469.out))) (Kd.R_lt (upK HO474.out))) (Kd.R_lt (upK HO481.out))) (Kd.R_lt (upK HO489.out))) (Kd.R_lt (upK HO498.out))) (Kd.R_lt (upK HO500.out))) (Kd.R_lt (upK HO507.out))) (Kd.R_lt (upK HO515.out))) (Kd.R_lt (upK HO524.out))) (Kd.R_lt (upK HO526.out))) (Kd.R_lt (upK HO529.out))) (Kd.R_lt (upK HO533.out))) (Kd.R_lt (upK HO536.out))) (below_size (by repeat (first|exact upB HB.out|refine below_set ?_ GE459.out))));have n14_:=Aside0.mk (blk_below (g:=gb459) (o:=.cells #[.slice A0_0 l0_0.length c0_0,.string a0_1,.string a0_2,.bool a0_3] 24 (0,0)) (upX BK459.out) hb);have n15_:=Aside0.mk (Kd.C_below (upC HR478.out) hb);have n16_:=Aside0.mk (Kd.C_below (upC HR485.out) hb);have n17_:=Aside0.mk (Kd.C_below (upC HR493.out) hb);have n18_:=Aside0.mk (Kd.C_below (upC HR504.out) hb);have n19_:=Aside0.mk (Kd.C_below (upC HR511.out) hb);have n20_:=Aside0.mk (Kd.C_below (upC HR519.out) hb);have n21_:=Aside0.mk (below_step (by repeat (first|exact upB HB.out|refine below_set ?_ GE459.out)) hb);clear HO469;clear HO474;clear HO481;clear HO489;clear HO498;clear HO500;clear HO507;clear HO515;clear HO524;clear HO526;clear HO529;clear HO533;clear HO536;clear BK459;clear HR478;clear HR485;clear HR493;clear HR504;clear HR511;clear HR519;clear HB;have HO469:=n0_;have HO474:=n1_;have HO481:=n2_;have HO489:=n3_;have HO498:=n4_;have HO500:=n5_;have HO507:=n6_;have HO515:=n7_;have HO524:=n8_;have HO526:=n9_;have HO529:=n10_;have HO533:=n11_;have HO536:=n12_;have HO540:=n13_;have BK459:=n14_;have HR478:=n15_;have HR485:=n16_;have HR493:=n17_;have HR504:=n18_;have HR511:=n19_;have HR519:=n20_;have HB:=n21_;clear n0_ n1_ n2_ n3_ n4_ n5_ n6_ n7_ n8_ n9_ n10_ n11_ n12_ n13_ n14_ n15_ n16_ n17_ n18_ n19_ n20_ n21_;(try clear hb);(try clear hb2);(try clear hk);(try clear hi);(try clear ho0);(try simp only[errW_none,errW_some])))
         go_meet
         case rel=>exact ⟨_,(t530),(t537),H',⟨by have:=HJ3.out;first|omega|exact Nat.le_refl _⟩,⟨by exact Kd.R_mono (upK HO474.out) (fun _ hk=>⟨hk.1.1.1.1.1.1.1.1.1.1.1.2,⟨hk.1.1.1.1.1.1.1.1.1.1.2,⟨hk.1.1.1.1.1.1.1.1.1.2,⟨hk.1.1.1.1.1.1.1.1.2,⟨hk.1.1.1.1.1.1.1.2,⟨hk.1.1.1.1.1.1.2,⟨hk.1.1.1.1.1.2,⟨hk.1.1.1.1.2,⟨hk.1.1.2,hk.2⟩⟩⟩⟩⟩⟩⟩⟩⟩)⟩,⟨by exact Kd.R_mono (upK HO481.out) (fun _ hk=>⟨hk.1.1.1.1.1.1.1.1.1.1.1.2,⟨hk.1.1.1.1.1.1.1.1.1.1.2,⟨hk.1.1.1.1.1.1.1.1.1.2,⟨hk.1.1.1.1.1.1.1.1.2,⟨hk.1.1.1.1.1.1.1.2,⟨hk.1.1.1.1.1.1.2,⟨hk.1.1.1.1.1.2,⟨hk.1.1.1.1.2,⟨hk.1.1.2,hk.2⟩⟩⟩⟩⟩⟩⟩⟩⟩)⟩,⟨by exact Kd.R_mono (upK HO489.out) (fun _ hk=>⟨hk.1.1.1.1.1.1.1.1.1.1.1.2,⟨hk.1.1.1.1.1.1.1.1.1.1.2,⟨hk.1.1.1.1.1.1.1.1.1.2,⟨hk.1.1.1.1.1.1.1.1.2,⟨hk.1.1.1.1.1.1.1.2,⟨hk.1.1.1.1.1.1.2,⟨hk.1.1.1.1.1.2,⟨hk.1.1.1.1.2,⟨hk.1.1.2,hk.2⟩⟩⟩⟩⟩⟩⟩⟩⟩)⟩,⟨by exact Kd.R_mono (upK HO498.out) (fun _ hk=>⟨hk.1.1.1.1.1.1.1.1.1.1.2,⟨hk.1.1.1.1.1.1.1.1.1.2,⟨hk.1.1.1.1.1.1.1.1.2,⟨hk.1.1.1.1.1.1.1.1.1.1.1.1,⟨hk.1.1.1.1.1.1.1.2,⟨hk.1.1.1.1.1.1.2,⟨hk.1.1.1.1.1.2,⟨hk.1.1.1.1.2,⟨hk.1.1.2,hk.2⟩⟩⟩⟩⟩⟩⟩⟩⟩)⟩,⟨by exact Kd.R_mono (upK HO500.out) (fun _ hk=>⟨hk.1.1.1.1.1.1.1.1.1.1.2,⟨hk.1.1.1.1.1.1.1.1.1.2,⟨hk.1.1.1.1.1.1.1.1.2,⟨hk.1.1.1.1.1.1.1.1.1.1.1.1,⟨hk.1.1.1.1.1.1.1.2,⟨hk.1.1.1.1.1.1.2,⟨hk.1.1.1.1.1.2,⟨hk.1.1.1.1.2,⟨hk.1.1.2,hk.2⟩⟩⟩⟩⟩⟩⟩⟩⟩)⟩,⟨by exact Kd.R_mono (upK HO507.out) (fun _ hk=>⟨hk.1.1.1.1.1.1.1.1.1.1.1.2,⟨hk.1.1.1.1.1.1.1.1.1.1.2,⟨hk.1.1.1.1.1.1.1.1.1.2,⟨hk.1.1.1.1.1.1.1.1.2,⟨hk.1.1.1.1.1.1.1.2,⟨hk.1.1.1.1.1.1.2,⟨hk.1.1.1.1.1.2,⟨hk.1.1.1.1.2,⟨hk.1.1.2,hk.2⟩⟩⟩⟩⟩⟩⟩⟩⟩)⟩,⟨by exact Kd.R_mono (upK HO515.out) (fun _ hk=>⟨hk.1.1.1.1.1.1.1.1.1.1.1.2,⟨hk.1.1.1.1.1.1.1.1.1.1.2,⟨hk.1.1.1.1.1.1.1.1.1.2,⟨hk.1.1.1.1.1.1.1.1.2,⟨hk.1.1.1.1.1.1.1.2,⟨hk.1.1.1.1.1.1.2,⟨hk.1.1.1.1.1.2,⟨hk.1.1.1.1.2,⟨hk.1.1.2,hk.2⟩⟩⟩⟩⟩⟩⟩⟩⟩)⟩,⟨by exact Kd.R_mono (upK HO524.out) (fun _ hk=>⟨hk.1.1.1.1.1.1.1.1.1.1.2,⟨hk.1.1.1.1.1.1.1.1.1.2,⟨hk.1.1.1.1.1.1.1.1.2,⟨hk.1.1.1.1.1.1.1.2,⟨hk.1.1.1.1.1.1.2,⟨hk.1.1.1.1.1.2,⟨hk.1.1.1.1.2,⟨hk.1.1.1.1.1.1.1.1.1.1.1.1,⟨hk.1.1.2,hk.2⟩⟩⟩⟩⟩⟩⟩⟩⟩)⟩,⟨by exact Kd.R_mono (upK HO526.out) (fun _ hk=>⟨hk.1.1.1.1.1.1.1.1.1.1.2,⟨hk.1.1.1.1.1.1.1.1.1.2,⟨hk.1.1.1.1.1.1.1.1.2,⟨hk.1.1.1.1.1.1.1.2,⟨hk.1.1.1.1.1.1.2,⟨hk.1.1.1.1.1.2,⟨hk.1.1.1.1.2,⟨hk.1.1.1.1.1.1.1.1.1.1.1.1,⟨hk.1.1.2,hk.2⟩⟩⟩⟩⟩⟩⟩⟩⟩)⟩,⟨by exact Kd.R_mono (upK HO533.out) (fun _ hk=>⟨hk.1.1.1.1.1.1.1.1.1.1.1.2,⟨hk.1.1.1.1.1.1.1.1.1.1.2,⟨hk.1.1.1.1.1.1.1.1.1.2,⟨hk.1.1.1.1.1.1.1.1.2,⟨hk.1.1.1.1.1.1.1.2,⟨hk.1.1.1.1.1.1.2,⟨hk.1.1.1.1.1.2,⟨hk.1.1.1.1.2,⟨hk.1.1.1.2,hk.2⟩⟩⟩⟩⟩⟩⟩⟩⟩)⟩,⟨by exact Kd.R_mono (upK HO540.out) (fun _ hk=>⟨hk.1.1.1.1.1.1.1.1.1.1.1.2,⟨hk.1.1.1.1.1.1.1.1.1.1.2,⟨hk.1.1.1.1.1.1.1.1.1.2,⟨hk.1.1.1.1.1.1.1.1.2,⟨hk.1.1.1.1.1.1.1.2,⟨hk.1.1.1.1.1.1.2,⟨hk.1.1.1.1.1.2,⟨hk.1.1.1.1.2,⟨hk.1.1.1.2,hk.1.2⟩⟩⟩⟩⟩⟩⟩⟩⟩)⟩,⟨by (with_reducible repeat (first|refine blk_drewN ?_ _|refine blk_drew ?_|refine blk_alloc ?_ _));exact BK459.out⟩,⟨by repeat (first|exact upB HB.out|refine below_set ?_ GE459.out|apply pw_below_drewN)⟩⟩
        ·
         rw[if_neg c66] at H
         have c66b0:t471.isNone=false:=Bool.eq_false_iff.2 c66
         (first|rw[c66b0]|(simp only[i64_w,i32_w];rw[c66b0])|skip)
         have H':=Aside0.mk H
         clear H
         go_wp2
         go_meet
         case rel=>exact ⟨_,(([]:List (S58))),(([]:List (S58))),H',⟨by have:=HJ3.out;first|omega|exact Nat.le_refl _⟩,⟨by exact Kd.R_mono (upK HO474.out) (fun _ hk=>⟨hk.1.1.1.1.1.1.1.2,⟨hk.1.1.1.1.1.1.2,⟨hk.1.1.1.1.1.2,⟨hk.1.1.1.1.2,⟨hk.1.1.1.2,⟨hk.1.1.2,⟨hk.1.2,⟨hk.2,⟨(by simp[Value.ownBlock]),(by simp[Value.ownBlock])⟩⟩⟩⟩⟩⟩⟩⟩⟩)⟩,⟨by exact Kd.R_mono (upK HO481.out) (fun _ hk=>⟨hk.1.1.1.1.1.1.1.2,⟨hk.1.1.1.1.1.1.2,⟨hk.1.1.1.1.1.2,⟨hk.1.1.1.1.2,⟨hk.1.1.1.2,⟨hk.1.1.2,⟨hk.1.2,⟨hk.2,⟨(by simp[Value.ownBlock]),(by simp[Value.ownBlock])⟩⟩⟩⟩⟩⟩⟩⟩⟩)⟩,⟨by exact Kd.R_mono (upK HO489.out) (fun _ hk=>⟨hk.1.1.1.1.1.1.1.2,⟨hk.1.1.1.1.1.1.2,⟨hk.1.1.1.1.1.2,⟨hk.1.1.1.1.2,⟨hk.1.1.1.2,⟨hk.1.1.2,⟨hk.1.2,⟨hk.2,⟨(by simp[Value.ownBlock]),(by simp[Value.ownBlock])⟩⟩⟩⟩⟩⟩⟩⟩⟩)⟩,⟨by exact Kd.R_mono (upK HO498.out) (fun _ hk=>⟨hk.1.1.1.1.1.1.2,⟨hk.1.1.1.1.1.2,⟨hk.1.1.1.1.2,⟨hk.1.1.1.1.1.1.1.1,⟨hk.1.1.1.2,⟨hk.1.1.2,⟨hk.1.2,⟨hk.2,⟨(by simp[Value.ownBlock]),(by simp[Value.ownBlock])⟩⟩⟩⟩⟩⟩⟩⟩⟩)⟩,⟨by exact Kd.R_mono (upK HO500.out) (fun _ hk=>⟨hk.1.1.1.1.1.1.2,⟨hk.1.1.1.1.1.2,⟨hk.1.1.1.1.2,⟨hk.1.1.1.1.1.1.1.1,⟨hk.1.1.1.2,⟨hk.1.1.2,⟨hk.1.2,⟨hk.2,⟨(by simp[Value.ownBlock]),(by simp[Value.ownBlock])⟩⟩⟩⟩⟩⟩⟩⟩⟩)⟩,⟨by exact Kd.R_mono (upK HO507.out) (fun _ hk=>⟨hk.1.1.1.1.1.1.1.2,⟨hk.1.1.1.1.1.1.2,⟨hk.1.1.1.1.1.2,⟨hk.1.1.1.1.2,⟨hk.1.1.1.2,⟨hk.1.1.2,⟨hk.1.2,⟨hk.2,⟨(by simp[Value.ownBlock]),(by simp[Value.ownBlock])⟩⟩⟩⟩⟩⟩⟩⟩⟩)⟩,⟨by exact Kd.R_mono (upK HO515.out) (fun _ hk=>⟨hk.1.1.1.1.1.1.1.2,⟨hk.1.1.1.1.1.1.2,⟨hk.1.1.1.1.1.2,⟨hk.1.1.1.1.2,⟨hk.1.1.1.2,⟨hk.1.1.2,⟨hk.1.2,⟨hk.2,⟨(by simp[Value.ownBlock]),(by simp[Value.ownBlock])⟩⟩⟩⟩⟩⟩⟩⟩⟩)⟩,⟨by exact Kd.R_mono (upK HO524.out) (fun _ hk=>⟨hk.1.1.1.1.1.1.2,⟨hk.1.1.1.1.1.2,⟨hk.1.1.1.1.2,⟨hk.1.1.1.2,⟨hk.1.1.2,⟨hk.1.2,⟨hk.2,⟨hk.1.1.1.1.1.1.1.1,⟨(by simp[Value.ownBlock]),(by simp[Value.ownBlock])⟩⟩⟩⟩⟩⟩⟩⟩⟩)⟩,⟨by exact Kd.R_mono (upK HO526.out) (fun _ hk=>⟨hk.1.1.1.1.1.1.2,⟨hk.1.1.1.1.1.2,⟨hk.1.1.1.1.2,⟨hk.1.1.1.2,⟨hk.1.1.2,⟨hk.1.2,⟨hk.2,⟨hk.1.1.1.1.1.1.1.1,⟨(by simp[Value.ownBlock]),(by simp[Value.ownBlock])⟩⟩⟩⟩⟩⟩⟩⟩⟩)⟩,⟨by first|exact Kd.R_nil _ _ _ _ _|exact Kd.N_nil _ _ _ _ _|exact Kd.V_nil _ _ _ _ _|exact Kd.Q_nil _ _ _ _ _|exact Kd.S_nil _ _ _ _ _⟩,⟨by first|exact Kd.R_nil _ _ _ _ _|exact Kd.N_nil _ _ _ _ _|exact Kd.V_nil _ _ _ _ _|exact Kd.Q_nil _ _ _ _ _|exact Kd.S_nil _ _ _ _ _⟩,⟨by (with_reducible repeat (first|refine blk_drewN ?_ _|refine blk_drew ?_|refine blk_alloc ?_ _));exact BK459.out⟩,⟨by repeat (first|exact upB HB.out|refine below_set ?_ GE459.out|apply pw_below_drewN)⟩⟩
       case rest=>
        clear HC39
        try clear c1
        try clear c2
        try clear p2
        try clear q5
        try clear c6
        try clear q6
        try clear c18
        try clear c23
        try clear c26
        try clear c27
        try clear c29
        try clear q54
        try clear q56
        try clear q59
        try clear q62
        try clear q64
        try clear c66
        try clear c66b0
        try clear c66b1
        try clear hcz71_0
        try clear hcz71_1
        try clear hcz71_2
        try clear hcz71_3
        try clear hcz75_0
        try clear hcz75_1
        try clear hcz75_2
        try clear hcz75_3
        try clear hfz71_0
        try clear hfz71_1
        try clear hfz71_2
        try clear hfz71_3
        try clear hfz75_0
        try clear hfz75_1
        try clear hfz75_2
        try clear hfz75_3
        try clear q54
        try clear q56
        try clear q59
        try clear q62
        try clear q64
        obtain⟨kq,x22_38,x23_38,HA,HJ38,HO_8,HO_10,HO_11,HO_13,HO_14,HO_16,HO_17,HO_19,HO_20,HO_22,HO_23,BK459,HB⟩:=hcut
        cases kq with
        |zero=>exact absurd HA.out (by simp[copselaw7_LeafNew.j1])
        |succ kj38=>
         have H:=HA.out
         clear HA
         simp only[copselaw7_LeafNew.j1] at H
         by_cases c_:copselaw7_LeafNew.lensE l0_0 t472 [t505,t512,t520,t521,x22_38,x23_38,t479,t486,t494,t495]
         ·
          rw[if_pos c_] at H
          obtain rfl:=Option.some.inj H
          obtain⟨k9_,hl9_⟩:=c_
          go_step
          exact copselaw7_LeafNew.rest k9_ l0_0 w wc gb459 Ao51 co51 v480 v488 v497 v499 v506 v514 v523 v525 _ _ t472 t479 t486 t494 t495 t505 t512 t520 t521 x22_38 x23_38 HO_8.out HO_16.out HO_17.out HO_19.out HO_20.out HO_22.out HO_23.out HO_10.out HO_11.out HO_13.out HO_14.out HB.out hl9_
         ·
          rw[if_neg c_] at H
          cases H
      ·
       rw[if_neg c22] at H
       exact absurd H (by simp)
     ·
      rw[if_neg c21] at H
      exact absurd H (by simp)
    ·
     replace c17:=Bool.eq_false_iff.mpr c17
     subst c17
     have H1:(none)=some r:=by rw[if_neg (show ¬ (false=true) by decide)] at H;exact H
     clear H
     have H:=H1
     clear H1
     exact absurd H (by simp)


end Go.Proofs.YtdailhlghlledaaDoor.XLeafNew
