-- Printed for this claim by a program (wip/printx/news.py) that builds on the kit's print. Not trusted: Lean checks it.
-- slim
import Derived.Test.YtdailhlghlledaaDoorXLeafNewx0
import Derived.Test.YtdailhlghlledaaDoorXLeafNewx1
import Derived.Test.YtdailhlghlledaaDoorXLeafNewx2
import Derived.Test.YtdailhlghlledaaDoorXLeafNewx3
import Derived.Test.YtdailhlghlledaaDoorXLeafNewx4
import Derived.Test.YtdailhlghlledaaDoorXLeafNewx5
import Derived.Test.YtdailhlghlledaaDoorXLeafNewx6
import Derived.Test.YtdailhlghlledaaDoorXLeafNewx7
import Derived.Test.YtdailhlghlledaaDoorXLeafNewx8
import Derived.Test.YtdailhlghlledaaDoorXLeafNewx9
import Derived.Test.YtdailhlghlledaaDoorXLeafNewx10
import Derived.Test.YtdailhlghlledaaDoorXLeafNewx11
import Derived.Test.YtdailhlghlledaaDoorXLeafNewx12
import Derived.Test.YtdailhlghlledaaDoorXLeafNewx13
import Derived.Test.YtdailhlghlledaaDoorXLeafNewx15
namespace Go.Proofs.YtdailhlghlledaaDoor.XLeafNew
open Go.RowKit Go.Proofs.YtdailhlghlledaaDoorW.PrintWords Go.Proofs.YtdailhlghlledaaDoorW.PrintLast Go.Proofs.YtdailhlghlledaaDoorW.PrintMore
attribute [local go_sem] max2_int min2_int max_two min_two max_three min_three max_four min_four   -- for this text's walks alone
set_option linter.unusedVariables false
set_option linter.unusedSimpArgs false

theorem copselaw7_pairs.ge1 : ∀ (k:Nat) (x3:List S58) (x5:Int) (r:List S58),copselaw7_pairs.l1 k x3 x5=some r→x3.length≤r.length
 |0,_,_,_,h=>by simp[copselaw7_pairs.l1] at h
 |k+1,x3,x5,r,h=>by
  simp only[copselaw7_pairs.l1] at h
  split at h
  ·
   obtain⟨b,_,h⟩:=Option.bind_eq_some_iff.1 h
   split at h
   ·
    have:=copselaw7_pairs.ge1 k _ _ _ h
    rw[List.length_append] at this
    omega
   ·
    cases h
  ·
   obtain rfl:=Option.some.inj h
   exact Nat.le_refl _
theorem copselaw7_pairs.ge0 : ∀ (k:Nat) (x0 x3:List S58) (r:List S58),copselaw7_pairs.l0 k x0 x3 (x3.length:Int)=some r→x0.length≤r.length
 |0,_,_,_,h=>by simp[copselaw7_pairs.l0] at h
 |k+1,x0,x3,r,h=>by
  simp only[copselaw7_pairs.l0] at h
  split at h
  ·
   split at h
   ·
    split at h
    ·
     rename_i hl
     have e : ∀ a:S58,wrap64 ((x3.length:Int)+1)=((x3++[a]).length:Int):=fun a=>by
      rw[List.length_append,List.length_singleton]
      unfold wrap64
      omega
     rw[e (⟨(rd_T58 x0 (x3.length:Int)).f0,(rd_T58 x0 (x3.length:Int)).f1⟩:S58)] at h
     exact copselaw7_pairs.ge0 k _ _ _ h
    ·
     cases h
   ·
    cases h
  ·
   have:=copselaw7_pairs.ge1 k _ _ _ h
   omega
theorem copselaw7_pairs.ge (k:Nat) (l r:List S58) (h:copselaw7_pairs.f k l=some r):l.length≤r.length:=copselaw7_pairs.ge0 k l [] r h
theorem errW_isNil (E:Int→Addr) (t:Option Int) (w:World):(binOp .eql 28 (errW E t) .nilIface).run Tryd.prog w=.ok (.bool t.isNone) w:=by
 cases t <;> (simp only[errW_none,errW_some];first|(go_simp;done)|(go_simp;rfl))
theorem errW_guard (E:Int→Addr) (t:Option Int) (p:Operand) (w:World):(eqGuard .eql 28 p (.const .nilIface) (errW E t) .nilIface).run Tryd.prog w=.ok () w:=by
 cases t <;> (simp only[errW_none,errW_some];first|(go_simp;done)|(go_simp;rfl))
/-! ### copselaw7_stale: function 30 -/
def copselaw7_stale.l0:Nat→List (S58)→List (S58)→Int→List (S58)→ByteArray→ByteArray→Bool→Option (Bool)
 |0,_,_,_,_,_,_,_=>none
 |k+1,x4,x5,x6,x372000,x372001,x372002,x372003=>if x6<(x4.length:Int) then (if 0≤x6 then (if x6<(x372000.length:Int) then (if x5.length<4398046511104 then (copselaw7_stale.l0 k (x4.set (x6:Int).toNat (⟨(rd_T58 x372000 x6).f1,(rd_T58 x372000 x6).f0⟩:S58)) (x5++[(⟨(rd_T58 x372000 x6).f1,(rd_T58 x372000 x6).f0⟩:S58)]) (wrap64 (x6+1)) x372000 x372001 x372002 x372003) else (none)) else (none)) else (none)) else ((leaf_Encode.f k x4).bind fun bt402=>((copseref7_Encode.f k x5).bind fun bt404=>((leaf_Find.f x4 x372001).bind fun bt406=>((copseref7_Find.f k x5 x372001).bind fun bt408=>((leaf_Drop.f x4 x372001).bind fun bt410=>((copseref7_Drop.f k x5 x372001).bind fun bt414=>((leaf_Cut.f k x4).bind fun bt418=>((copseref7_Cut.f k x5).bind fun bt425=>((leaf_Set.f x4 x372001 x372002).bind fun t432=>((copseref7_Set.f k x5 x372001 x372002).bind fun t435=>((copseref0_SamePairs.f k t432 t435).bind fun t438=>((copseref0_SamePairs.f k bt410.1 bt414.1).bind fun t439=>((copseref0_SamePairs.f k bt418.1 bt425.1).bind fun t440=>((copseref0_SamePairs.f k bt418.2.1 bt425.2.1).bind fun t441=>((leaf_Size.f k x4).bind fun t442=>((copseref7_Size.f k x5).bind fun t443=>(if t442=t443 then ((leaf_Check.f k x4 x372003).bind fun t444=>((copsekit_Num.f t444).bind fun t445=>((copseref7_Check.f k x5 x372003).bind fun t446=>(if bt402.1.toList=bt404.1.toList then ((copsekit_Num.f bt402.2).bind fun t447=>(if t447=bt404.2 then (if bt406.1=bt408.1 then (if (bt406.2==bt408.2)=true then (if (bt410.2==bt414.2)=true then ((copsekit_Num.f bt418.2.2).bind fun t448=>(if t438=true then (if t439=true then (if t440=true then (if t441=true then (if t445=t446 then (some (t448==bt425.2.2)) else (none)) else (none)) else (none)) else (none)) else (none))) else (none)) else (none)) else (none)) else (none))) else (none))))) else (none))))))))))))))))))
def copselaw7_stale.f (k:Nat) (l0_0:List (S58)) (a0_1:ByteArray) (a0_2:ByteArray) (a0_3:Bool):Option (Bool):=(copselaw7_pairs.f k l0_0).bind fun t372=>((leaf_Size.f k (t372.take l0_0.length)).bind fun t375=>((leaf_Check.f k (t372.take l0_0.length) a0_3).bind fun t376=>((leaf_Encode.f k (t372.take l0_0.length)).bind fun bt377=>((leaf_Find.f (t372.take l0_0.length) a0_1).bind fun bt379=>((leaf_Set.f (t372.take l0_0.length) a0_1 a0_2).bind fun t381=>((leaf_Drop.f (t372.take l0_0.length) a0_1).bind fun bt384=>((leaf_Cut.f k (t372.take l0_0.length)).bind fun bt388=>(copselaw7_stale.l0 k (t372.take l0_0.length) ([]:List (S58)) 0 l0_0 a0_1 a0_2 a0_3))))))))
theorem copselaw7_stale.mono_l : ∀ k,(∀ y0 y1 y2 y3 y4 y5 y6,LeO (copselaw7_stale.l0 k y0 y1 y2 y3 y4 y5 y6) (copselaw7_stale.l0 (k+1) y0 y1 y2 y3 y4 y5 y6))
 |0=>fun _ _ _ _ _ _ _ r h=>by simp[copselaw7_stale.l0] at h
 |k+1=>by
  have ih0:=copselaw7_stale.mono_l k
  ·
   intro y0 y1 y2 y3 y4 y5 y6
   unfold copselaw7_stale.l0
   repeat' first
   |(with_reducible exact ih0 _ _ _ _ _ _ _)
   |(with_reducible exact copselaw7_pairs.mono _ _)
   |(with_reducible exact copseref0_SamePairs.mono _ _ _)
   |(with_reducible exact copseref7_Check.mono _ _ _)
   |(with_reducible exact copseref7_Cut.mono _ _)
   |(with_reducible exact copseref7_Drop.mono _ _ _)
   |(with_reducible exact copseref7_Encode.mono _ _)
   |(with_reducible exact copseref7_Find.mono _ _ _)
   |(with_reducible exact copseref7_Set.mono _ _ _ _)
   |(with_reducible exact copseref7_Size.mono _ _)
   |(with_reducible exact leaf_Check.mono _ _ _)
   |(with_reducible exact leaf_Cut.mono _ _)
   |(with_reducible exact leaf_Encode.mono _ _)
   |(with_reducible exact leaf_Size.mono _ _)
   |(with_reducible exact LeO.refl _)
   |(with_reducible exact LeO.none _)
   |(with_reducible refine LeO.ite ?_ ?_)
   |(with_reducible refine LeO.bind ?_ (fun _=>?_))
   |exact ih0 _ _ _ _ _ _ _
   |exact copselaw7_pairs.mono _ _
   |exact copseref0_SamePairs.mono _ _ _
   |exact copseref7_Check.mono _ _ _
   |exact copseref7_Cut.mono _ _
   |exact copseref7_Drop.mono _ _ _
   |exact copseref7_Encode.mono _ _
   |exact copseref7_Find.mono _ _ _
   |exact copseref7_Set.mono _ _ _ _
   |exact copseref7_Size.mono _ _
   |exact leaf_Check.mono _ _ _
   |exact leaf_Cut.mono _ _
   |exact leaf_Encode.mono _ _
   |exact leaf_Size.mono _ _
   |exact LeO.none _
   |refine LeO.ite ?_ ?_
   |refine LeO.bind ?_ (fun _=>?_)
theorem copselaw7_stale.mono : ∀ a0 a1 a2 a3 k,LeO (copselaw7_stale.f k a0 a1 a2 a3) (copselaw7_stale.f (k+1) a0 a1 a2 a3):=by
 intro a0 a1 a2 a3 k
 have ih0:=copselaw7_stale.mono_l k
 unfold copselaw7_stale.f
 repeat' first
   |(with_reducible exact ih0 _ _ _ _ _ _ _)
   |(with_reducible exact copselaw7_pairs.mono _ _)
   |(with_reducible exact copseref0_SamePairs.mono _ _ _)
   |(with_reducible exact copseref7_Check.mono _ _ _)
   |(with_reducible exact copseref7_Cut.mono _ _)
   |(with_reducible exact copseref7_Drop.mono _ _ _)
   |(with_reducible exact copseref7_Encode.mono _ _)
   |(with_reducible exact copseref7_Find.mono _ _ _)
   |(with_reducible exact copseref7_Set.mono _ _ _ _)
   |(with_reducible exact copseref7_Size.mono _ _)
   |(with_reducible exact leaf_Check.mono _ _ _)
   |(with_reducible exact leaf_Cut.mono _ _)
   |(with_reducible exact leaf_Encode.mono _ _)
   |(with_reducible exact leaf_Size.mono _ _)
   |(with_reducible exact LeO.refl _)
   |(with_reducible exact LeO.none _)
   |(with_reducible refine LeO.ite ?_ ?_)
   |(with_reducible refine LeO.bind ?_ (fun _=>?_))
   |exact ih0 _ _ _ _ _ _ _
   |exact copselaw7_pairs.mono _ _
   |exact copseref0_SamePairs.mono _ _ _
   |exact copseref7_Check.mono _ _ _
   |exact copseref7_Cut.mono _ _
   |exact copseref7_Drop.mono _ _ _
   |exact copseref7_Encode.mono _ _
   |exact copseref7_Find.mono _ _ _
   |exact copseref7_Set.mono _ _ _ _
   |exact copseref7_Size.mono _ _
   |exact leaf_Check.mono _ _ _
   |exact leaf_Cut.mono _ _
   |exact leaf_Encode.mono _ _
   |exact leaf_Size.mono _ _
   |exact LeO.none _
   |refine LeO.ite ?_ ?_
   |refine LeO.bind ?_ (fun _=>?_)
def copselaw7_stale.T14:Bool×List (List Nat×List Nat):=(true,[([],[]),([0],[0]),([],[]),([1,2],[1,2]),([3],[3]),([4],[4]),([],[]),([6],[6]),([],[]),([7,8],[7,8]),([9],[9]),([10],[10]),([5,11],[5,11]),([],[]),([13,12,0,1,2,3,4,5,6,7,8,9,10,11,12,13],[12,13])])
def copselaw7_stale.B14:List Nat:=[0,1,0,7,15,31,0,64,0,448,960,1984,4095,0,16383]
theorem copselaw7_stale.tab14:rtab .any (opsOf Tryd.f30 14)=copselaw7_stale.T14:=by kernel_rfl
theorem copselaw7_stale.bits14:waitsOk copselaw7_stale.T14.2 copselaw7_stale.B14=true:=by kernel_rfl
def copselaw7_stale.T25:Bool×List (List Nat×List Nat):=(true,[([],[]),([],[]),([1],[1]),([],[]),([3],[3]),([0,2,4],[0,2,4]),([],[]),([],[]),([7],[7]),([],[]),([9],[9]),([6,8,10,5],[6,8,10]),([5,11,11],[5,11]),([12,12,0,1,2,3,4,5,6,7,8,9,10,11,12],[12])])
def copselaw7_stale.B25:List Nat:=[0,0,2,0,8,31,0,0,128,0,512,2047,4095,8191]
theorem copselaw7_stale.tab25:rtab .any (opsOf Tryd.f30 25)=copselaw7_stale.T25:=by kernel_rfl
theorem copselaw7_stale.bits25:waitsOk copselaw7_stale.T25.2 copselaw7_stale.B25=true:=by kernel_rfl
def copselaw7_stale.T29:Bool×List (List Nat×List Nat):=(true,[([],[]),([0],[0]),([],[]),([2,1],[2]),([1,3],[1,3]),([4,3],[4]),([5],[5]),([5],[5]),([7,5],[5,7]),([6,8,5,5],[5,6,8]),([9,9,5],[5,9]),([5],[5]),([5],[5]),([12,5],[5,12]),([11,13,10,5],[5,11,13]),([10,14,5],[5,10,14]),([5,15],[5,15]),([16,14,0,1,2,3,4,5,6,7,8,9,10,11,12,13,14,15,16],[16])])
def copselaw7_stale.B29:List Nat:=[0,1,0,7,15,31,63,63,191,511,1023,63,63,4159,16383,32767,65535,131071]
theorem copselaw7_stale.tab29:rtab .any (opsOf Tryd.f30 29)=copselaw7_stale.T29:=by kernel_rfl
theorem copselaw7_stale.bits29:waitsOk copselaw7_stale.T29.2 copselaw7_stale.B29=true:=by kernel_rfl
set_option maxHeartbeats 8000000 in
set_option maxRecDepth 100000 in
theorem copselaw7_stale.calls (k:Nat) (E:Int→Addr) (A0_0:Option Addr) (c0_0:Nat) (l0_0:List (S58)) (a0_1:ByteArray) (a0_2:ByteArray) (a0_3:Bool) (r:Bool) (w:World) (hG:Glob E w) (hr0_0:Kd.C k58 w A0_0 l0_0.length l0_0) (hc0_0:l0_0.length≤c0_0) (h:copselaw7_stale.f k l0_0 a0_1 a0_2 a0_3=some r) :
  Calls Tryd.prog 30 #[.agg #[.slice A0_0 l0_0.length c0_0,.string a0_1,.string a0_2,.bool a0_3]] w fun e w'=>e=.returned (.bool r)∧Below w.heap.size w w':=by
 have hu24:=Tryd.underlying24
 have hu58:=Tryd.underlying58
 have HR0_0:=Aside0.mk hr0_0
 have HC0_0:=Aside0.mk hc0_0
 clear hr0_0 hc0_0
 have HB:=Aside0.mk (Below.refl w.heap.size w)
 have HG:=Aside0.mk hG
 clear hG
 have H:((copselaw7_pairs.f k l0_0).bind fun t372=>((leaf_Size.f k (t372.take l0_0.length)).bind fun t375=>((leaf_Check.f k (t372.take l0_0.length) a0_3).bind fun t376=>((leaf_Encode.f k (t372.take l0_0.length)).bind fun bt377=>((leaf_Find.f (t372.take l0_0.length) a0_1).bind fun bt379=>((leaf_Set.f (t372.take l0_0.length) a0_1 a0_2).bind fun t381=>((leaf_Drop.f (t372.take l0_0.length) a0_1).bind fun bt384=>((leaf_Cut.f k (t372.take l0_0.length)).bind fun bt388=>(copselaw7_stale.l0 k (t372.take l0_0.length) ([]:List (S58)) 0 l0_0 a0_1 a0_2 a0_3)))))))))=some r:=h
 clear h
 replace H:=Option.bind_eq_some_iff.mp H
 obtain⟨t900,A20,H⟩:=H
 obtain⟨t372,ht900⟩ : ∃ y_:List S58,y_=t900.take l0_0.length:=⟨_,rfl⟩
 rw[←ht900] at H
 have HT900:=Aside0.mk ht900
 clear ht900
 try dsimp only at H
 have A2:=Aside0.mk A20
 clear A20
 replace H:=Option.bind_eq_some_iff.mp H
 obtain⟨t375,A30,H⟩:=H
 try dsimp only at H
 have A3:=Aside0.mk A30
 clear A30
 replace H:=Option.bind_eq_some_iff.mp H
 obtain⟨t376,A40,H⟩:=H
 try dsimp only at H
 have A4:=Aside0.mk A40
 clear A40
 replace H:=Option.bind_eq_some_iff.mp H
 obtain⟨⟨t377,t378⟩,A50,H⟩:=H
 try dsimp only at H
 have A5:=Aside0.mk A50
 clear A50
 replace H:=Option.bind_eq_some_iff.mp H
 obtain⟨⟨t379,t380⟩,A60,H⟩:=H
 try dsimp only at H
 have A6:=Aside0.mk A60
 clear A60
 replace H:=Option.bind_eq_some_iff.mp H
 obtain⟨t381,A70,H⟩:=H
 try dsimp only at H
 have A7:=Aside0.mk A70
 clear A70
 replace H:=Option.bind_eq_some_iff.mp H
 obtain⟨⟨t384,t385⟩,A80,H⟩:=H
 try dsimp only at H
 have A8:=Aside0.mk A80
 clear A80
 replace H:=Option.bind_eq_some_iff.mp H
 obtain⟨⟨t388,t389,t390⟩,A90,H⟩:=H
 try dsimp only at H
 have A9:=Aside0.mk A90
 clear A90
 have H':=Aside0.mk H
 clear H
 go_enter Tryd.func30,Tryd.ntmps30
 go_wp2_with (first|((with_reducible refine gate_dst (N:=1) rfl ?_);refine box_event ?hg (N:=1) ?hd (cs:=#[.slice A0_0 l0_0.length c0_0,.string a0_1,.string a0_2,.bool a0_3]) (t:=24) ?hr ?_;(case hd=>rfl);(case hg=>rfl);(case hr=>first|(go_simp;done)|(go_simp;rfl));intro gb371 hg w10 hbox hb;have n0_:=Aside0.mk (below_step (upB HB.out) hb);have n1_:=Aside0.mk (hbox);have n2_:=Aside0.mk ((by rw[hg];exact (below_size (upB HB.out)):w.heap.size≤gb371));have n3_:=Aside0.mk ((by rw[hg];exact (below_size (upB HB.out)):w.heap.size≤gb371));clear HB;have HB:=n0_;have BK371:=n1_;have GW371:=n2_;have GE371:=n3_;clear n0_ n1_ n2_ n3_;clear hb hbox hg;have hcz11_0:w10.cell? ⟨gb371,0,none⟩=some (.slice A0_0 l0_0.length c0_0):=(blk_cell BK371.out 0).trans rfl;have hcz11_1:w10.cell? ⟨gb371,1,none⟩=some (.string a0_1):=(blk_cell BK371.out 1).trans rfl;have hcz11_2:w10.cell? ⟨gb371,2,none⟩=some (.string a0_2):=(blk_cell BK371.out 2).trans rfl;have hcz11_3:w10.cell? ⟨gb371,3,none⟩=some (.bool a0_3):=(blk_cell BK371.out 3).trans rfl;have hfz11_0:=blk_frozen BK371.out 0;have hfz11_1:=blk_frozen BK371.out 1;have hfz11_2:=blk_frozen BK371.out 2;have hfz11_3:=blk_frozen BK371.out 3)|((with_reducible refine gate_callee (f:=11) rfl ?_);refine goesL_ (some 34) rfl rfl Tryd.func11 (by kernel_rfl) rfl #[.slice A0_0 l0_0.length c0_0] rfl (by (try simp only[ml_]);first|done|rfl|(simp only[List.length_drop,List.length_take];rfl)) ?_;(with_reducible refine (copselaw7_pairs.calls k _ _ l0_0 t900 _ ?side1 ?side2 A2.out).mono ?_);(case side1=>exact upC (Kd.C_below HR0_0.out HB.out));(case side2=>exact HC0_0.out);rintro e w12 ⟨v373,rfl,ho0,hb⟩;refine ⟨_,rfl,?_⟩;have n0_:=Aside0.mk (Kd.R_lower ho0 (below_size (by repeat (first|exact upB HB.out|refine below_set ?_ GE371.out))));have n1_:=Aside0.mk (blk_below (g:=gb371) (o:=.cells #[.slice A0_0 l0_0.length c0_0,.string a0_1,.string a0_2,.bool a0_3] 24 (0,0)) (upX BK371.out) hb);have n2_:=Aside0.mk (below_step (by repeat (first|exact upB HB.out|refine below_set ?_ GE371.out)) hb);clear BK371;clear HB;have HO374:=n0_;have BK371:=n1_;have HB:=n2_;clear n0_ n1_ n2_;(try clear hb);(try clear hb2);(try clear hk);(try clear hi);(try clear ho0);have hcz13_0:w12.cell? ⟨gb371,0,none⟩=some (.slice A0_0 l0_0.length c0_0):=(blk_cell BK371.out 0).trans rfl;have hcz13_1:w12.cell? ⟨gb371,1,none⟩=some (.string a0_1):=(blk_cell BK371.out 1).trans rfl;have hcz13_2:w12.cell? ⟨gb371,2,none⟩=some (.string a0_2):=(blk_cell BK371.out 2).trans rfl;have hcz13_3:w12.cell? ⟨gb371,3,none⟩=some (.bool a0_3):=(blk_cell BK371.out 3).trans rfl;have hfz13_0:=blk_frozen BK371.out 0;have hfz13_1:=blk_frozen BK371.out 1;have hfz13_2:=blk_frozen BK371.out 2;have hfz13_3:=blk_frozen BK371.out 3;obtain⟨Ao14,co14,eo14⟩:=Kd.R_slice HO374.out;subst eo14;have hle900:=copselaw7_pairs.ge _ _ _ A2.out;have q60:((l0_0.length:Int):Int)≤((t900.length:Int):Int):=Int.ofNat_le.2 hle900;have c60b0:=eq_true (Int.natCast_nonneg l0_0.length:0≤(l0_0.length:Int));have c61b0:=eq_true q60;obtain⟨i060,hi060,_,hsz60,_⟩:=info_parts info58;have hroom60:t900.length≤co14:=(Kd.R_reads' HO374.out).2.1;have hcut60:=cut_to (P:=Tryd.prog) 22 58 .i64 Tryd.underlying22 hi060 Ao14 t900.length co14 (l0_0.length:Int) (Int.natCast_nonneg _) q60 hroom60;have hlen60:t372.length=l0_0.length:=(by rw[HT900.out,List.length_take];omega);have hy60:t372.length=((l0_0.length:Int):Int).toNat:=(by rw[hlen60];rfl);rw[←hy60] at hcut60;clear hy60;have HT60:=Aside0.mk (Kd.R_take (m:=l0_0.length) HO374.out hle900);rw[←HT900.out,←hlen60] at HT60;clear HO374;have HO374:=HT60;clear HT60 hsz60 hi060 hroom60 hle900 hlen60;replace q60:=eq_true q60)|((with_reducible refine gate_callee (f:=12) rfl ?_);refine goesL_ (some 41) rfl rfl Tryd.func12 (by kernel_rfl) rfl #[.slice Ao14 t372.length co14] rfl (by (try simp only[ml_]);first|done|rfl|(simp only[List.length_drop,List.length_take];rfl)) ?_;(with_reducible refine (leaf_Size.calls k _ _ t372 t375 _ ?side1 ?side2 A3.out).mono ?_);(case side1=>exact upC (Kd.R_reads' HO374.out).2.2);(case side2=>exact (Kd.R_reads' HO374.out).2.1);rintro e w15 ⟨rfl,hb⟩;refine ⟨_,rfl,?_⟩;have n0_:=Aside0.mk (Kd.R_below (upK HO374.out) hb);have n1_:=Aside0.mk (blk_below (g:=gb371) (o:=.cells #[.slice A0_0 l0_0.length c0_0,.string a0_1,.string a0_2,.bool a0_3] 24 (0,0)) (upX BK371.out) hb);have n2_:=Aside0.mk (below_step (by repeat (first|exact upB HB.out|refine below_set ?_ GE371.out)) hb);clear HO374;clear BK371;clear HB;have HO374:=n0_;have BK371:=n1_;have HB:=n2_;clear n0_ n1_ n2_;(try clear hb);(try clear hb2);(try clear hk);(try clear hi);have hcz16_0:w15.cell? ⟨gb371,0,none⟩=some (.slice A0_0 l0_0.length c0_0):=(blk_cell BK371.out 0).trans rfl;have hcz16_1:w15.cell? ⟨gb371,1,none⟩=some (.string a0_1):=(blk_cell BK371.out 1).trans rfl;have hcz16_2:w15.cell? ⟨gb371,2,none⟩=some (.string a0_2):=(blk_cell BK371.out 2).trans rfl;have hcz16_3:w15.cell? ⟨gb371,3,none⟩=some (.bool a0_3):=(blk_cell BK371.out 3).trans rfl;have hfz16_0:=blk_frozen BK371.out 0;have hfz16_1:=blk_frozen BK371.out 1;have hfz16_2:=blk_frozen BK371.out 2;have hfz16_3:=blk_frozen BK371.out 3)|((with_reducible refine gate_callee (f:=13) rfl ?_);refine goesL_ (some 45) rfl rfl Tryd.func13 (by kernel_rfl) rfl #[.slice Ao14 t372.length co14,.bool a0_3] rfl (by (try simp only[ml_]);first|done|rfl|(simp only[List.length_drop,List.length_take];rfl)) ?_;(with_reducible refine (leaf_Check.calls k E _ _ t372 a0_3 t376 _ ?side1 ?side2 ?side3 A4.out).mono ?_);(case side1=>exact (Glob.below HG.out (by repeat (first|exact upB HB.out|refine below_set ?_ GE371.out))));(case side2=>exact upC (Kd.R_reads' HO374.out).2.2);(case side3=>exact (Kd.R_reads' HO374.out).2.1);rintro e w17 ⟨rfl,hb⟩;refine ⟨_,rfl,?_⟩;have n0_:=Aside0.mk (Kd.R_below (upK HO374.out) hb);have n1_:=Aside0.mk (blk_below (g:=gb371) (o:=.cells #[.slice A0_0 l0_0.length c0_0,.string a0_1,.string a0_2,.bool a0_3] 24 (0,0)) (upX BK371.out) hb);have n2_:=Aside0.mk (below_step (by repeat (first|exact upB HB.out|refine below_set ?_ GE371.out)) hb);clear HO374;clear BK371;clear HB;have HO374:=n0_;have BK371:=n1_;have HB:=n2_;clear n0_ n1_ n2_;(try clear hb);(try clear hb2);(try clear hk);(try clear hi);(try simp only[errW_none,errW_some]))|((with_reducible refine gate_callee (f:=21) rfl ?_);refine goesL_ (some 47) rfl rfl Tryd.func21 (by kernel_rfl) rfl #[.slice Ao14 t372.length co14] rfl (by (try simp only[ml_]);first|done|rfl|(simp only[List.length_drop,List.length_take];rfl)) ?_;(with_reducible refine (leaf_Encode.calls k E _ _ t372 t377 t378 _ ?side1 ?side2 ?side3 A5.out).mono ?_);(case side1=>exact (Glob.below HG.out (by repeat (first|exact upB HB.out|refine below_set ?_ GE371.out))));(case side2=>exact upC (Kd.R_reads' HO374.out).2.2);(case side3=>exact (Kd.R_reads' HO374.out).2.1);rintro e w18 ⟨rfl,hb⟩;refine ⟨_,rfl,?_⟩;have n0_:=Aside0.mk (Kd.R_below (upK HO374.out) hb);have n1_:=Aside0.mk (blk_below (g:=gb371) (o:=.cells #[.slice A0_0 l0_0.length c0_0,.string a0_1,.string a0_2,.bool a0_3] 24 (0,0)) (upX BK371.out) hb);have n2_:=Aside0.mk (below_step (by repeat (first|exact upB HB.out|refine below_set ?_ GE371.out)) hb);clear HO374;clear BK371;clear HB;have HO374:=n0_;have BK371:=n1_;have HB:=n2_;clear n0_ n1_ n2_;(try clear hb);(try clear hb2);(try clear hk);(try clear hi);(try simp only[errW_none,errW_some]);have hcz19_0:w18.cell? ⟨gb371,0,none⟩=some (.slice A0_0 l0_0.length c0_0):=(blk_cell BK371.out 0).trans rfl;have hcz19_1:w18.cell? ⟨gb371,1,none⟩=some (.string a0_1):=(blk_cell BK371.out 1).trans rfl;have hcz19_2:w18.cell? ⟨gb371,2,none⟩=some (.string a0_2):=(blk_cell BK371.out 2).trans rfl;have hcz19_3:w18.cell? ⟨gb371,3,none⟩=some (.bool a0_3):=(blk_cell BK371.out 3).trans rfl;have hfz19_0:=blk_frozen BK371.out 0;have hfz19_1:=blk_frozen BK371.out 1;have hfz19_2:=blk_frozen BK371.out 2;have hfz19_3:=blk_frozen BK371.out 3)|((with_reducible refine gate_callee (f:=28) rfl ?_);refine goesL_ (some 51) rfl rfl Tryd.func28 (by kernel_rfl) rfl #[.slice Ao14 t372.length co14,.string a0_1] rfl (by (try simp only[ml_]);first|done|rfl|(simp only[List.length_drop,List.length_take];rfl)) ?_;(with_reducible refine (leaf_Find.calls _ _ t372 a0_1 t379 t380 _ ?side1 ?side2 A6.out).mono ?_);(case side1=>exact upC (Kd.R_reads' HO374.out).2.2);(case side2=>exact (Kd.R_reads' HO374.out).2.1);rintro e w20 ⟨rfl,hb⟩;refine ⟨_,rfl,?_⟩;have n0_:=Aside0.mk (Kd.R_below (upK HO374.out) hb);have n1_:=Aside0.mk (blk_below (g:=gb371) (o:=.cells #[.slice A0_0 l0_0.length c0_0,.string a0_1,.string a0_2,.bool a0_3] 24 (0,0)) (upX BK371.out) hb);have n2_:=Aside0.mk (below_step (by repeat (first|exact upB HB.out|refine below_set ?_ GE371.out)) hb);clear HO374;clear BK371;clear HB;have HO374:=n0_;have BK371:=n1_;have HB:=n2_;clear n0_ n1_ n2_;(try clear hb);(try clear hb2);(try clear hk);(try clear hi);have hcz21_0:w20.cell? ⟨gb371,0,none⟩=some (.slice A0_0 l0_0.length c0_0):=(blk_cell BK371.out 0).trans rfl;have hcz21_1:w20.cell? ⟨gb371,1,none⟩=some (.string a0_1):=(blk_cell BK371.out 1).trans rfl;have hcz21_2:w20.cell? ⟨gb371,2,none⟩=some (.string a0_2):=(blk_cell BK371.out 2).trans rfl;have hcz21_3:w20.cell? ⟨gb371,3,none⟩=some (.bool a0_3):=(blk_cell BK371.out 3).trans rfl;have hfz21_0:=blk_frozen BK371.out 0;have hfz21_1:=blk_frozen BK371.out 1;have hfz21_2:=blk_frozen BK371.out 2;have hfz21_3:=blk_frozen BK371.out 3)|((with_reducible refine gate_callee (f:=27) rfl ?_);refine goesL_ (some 57) rfl rfl Tryd.func27 (by kernel_rfl) rfl #[.slice Ao14 t372.length co14,.string a0_1,.string a0_2] rfl (by (try simp only[ml_]);first|done|rfl|(simp only[List.length_drop,List.length_take];rfl)) ?_;(with_reducible refine (leaf_Set.calls _ _ t372 a0_1 a0_2 t381 _ ?side1 ?side2 A7.out).mono ?_);(case side1=>exact upC (Kd.R_reads' HO374.out).2.2);(case side2=>exact (Kd.R_reads' HO374.out).2.1);rintro e w22 ⟨v382,rfl,ho0,hb⟩;refine ⟨_,rfl,?_⟩;have n0_:=Aside0.mk (Kd.R_elder' (upK HO374.out) (Kd.R_base ho0) hb);have n1_:=Aside0.mk (Kd.R_lower (Kd.R_new' ho0 (Kd.R_lt (upK HO374.out))) (below_size (by repeat (first|exact upB HB.out|refine below_set ?_ GE371.out))));have n2_:=Aside0.mk (blk_below (g:=gb371) (o:=.cells #[.slice A0_0 l0_0.length c0_0,.string a0_1,.string a0_2,.bool a0_3] 24 (0,0)) (upX BK371.out) hb);have n3_:=Aside0.mk (below_step (by repeat (first|exact upB HB.out|refine below_set ?_ GE371.out)) hb);clear HO374;clear BK371;clear HB;have HO374:=n0_;have HO383:=n1_;have BK371:=n2_;have HB:=n3_;clear n0_ n1_ n2_ n3_;(try clear hb);(try clear hb2);(try clear hk);(try clear hi);(try clear ho0);have hcz23_0:w22.cell? ⟨gb371,0,none⟩=some (.slice A0_0 l0_0.length c0_0):=(blk_cell BK371.out 0).trans rfl;have hcz23_1:w22.cell? ⟨gb371,1,none⟩=some (.string a0_1):=(blk_cell BK371.out 1).trans rfl;have hcz23_2:w22.cell? ⟨gb371,2,none⟩=some (.string a0_2):=(blk_cell BK371.out 2).trans rfl;have hcz23_3:w22.cell? ⟨gb371,3,none⟩=some (.bool a0_3):=(blk_cell BK371.out 3).trans rfl;have hfz23_0:=blk_frozen BK371.out 0;have hfz23_1:=blk_frozen BK371.out 1;have hfz23_2:=blk_frozen BK371.out 2;have hfz23_3:=blk_frozen BK371.out 3)|((with_reducible refine gate_callee (f:=29) rfl ?_);refine goesL_ (some 61) rfl rfl Tryd.func29 (by kernel_rfl) rfl #[.slice Ao14 t372.length co14,.string a0_1] rfl (by (try simp only[ml_]);first|done|rfl|(simp only[List.length_drop,List.length_take];rfl)) ?_;(with_reducible refine (leaf_Drop.calls _ _ t372 a0_1 t384 t385 _ ?side1 ?side2 A8.out).mono ?_);(case side1=>exact upC (Kd.R_reads' HO374.out).2.2);(case side2=>exact (Kd.R_reads' HO374.out).2.1);rintro e w24 ⟨v386,rfl,ho0,hb⟩;refine ⟨_,rfl,?_⟩;have n0_:=Aside0.mk (Kd.R_elder' (upK HO374.out) (Kd.R_base ho0) hb);have n1_:=Aside0.mk (Kd.R_elder' (upK HO383.out) (Kd.R_base ho0) hb);have n2_:=Aside0.mk (Kd.R_lower (Kd.R_new' (Kd.R_new' ho0 (Kd.R_lt (upK HO374.out))) (Kd.R_lt (upK HO383.out))) (below_size (by repeat (first|exact upB HB.out|refine below_set ?_ GE371.out))));have n3_:=Aside0.mk (blk_below (g:=gb371) (o:=.cells #[.slice A0_0 l0_0.length c0_0,.string a0_1,.string a0_2,.bool a0_3] 24 (0,0)) (upX BK371.out) hb);have n4_:=Aside0.mk (below_step (by repeat (first|exact upB HB.out|refine below_set ?_ GE371.out)) hb);clear HO374;clear HO383;clear BK371;clear HB;have HO374:=n0_;have HO383:=n1_;have HO387:=n2_;have BK371:=n3_;have HB:=n4_;clear n0_ n1_ n2_ n3_ n4_;(try clear hb);(try clear hb2);(try clear hk);(try clear hi);(try clear ho0))|((with_reducible refine gate_callee (f:=18) rfl ?_);refine goesL_ (some 63) rfl rfl Tryd.func18 (by kernel_rfl) rfl #[.slice Ao14 t372.length co14] rfl (by (try simp only[ml_]);first|done|rfl|(simp only[List.length_drop,List.length_take];rfl)) ?_;(with_reducible refine (leaf_Cut.calls k E _ _ t372 t388 t389 t390 _ ?side1 ?side2 ?side3 A9.out).mono ?_);(case side1=>exact (Glob.below HG.out (by repeat (first|exact upB HB.out|refine below_set ?_ GE371.out))));(case side2=>exact upC (Kd.R_reads' HO374.out).2.2);(case side3=>exact (Kd.R_reads' HO374.out).2.1);rintro e w25 ⟨v391,v393,rfl,ho0,ho1,hb⟩;refine ⟨_,rfl,?_⟩;have n0_:=Aside0.mk (Kd.R_mono (Kd.R_told (Kd.R_told (Kd.R_old (upK HO374.out) hb) (Kd.R_base ho0)) (Kd.R_base ho1)) (fun _ h_=>h_.1));have n1_:=Aside0.mk (Kd.R_mono (Kd.R_told (Kd.R_told (Kd.R_old (upK HO383.out) hb) (Kd.R_base ho0)) (Kd.R_base ho1)) (fun _ h_=>h_.1));have n2_:=Aside0.mk (Kd.R_mono (Kd.R_told (Kd.R_told (Kd.R_old (upK HO387.out) hb) (Kd.R_base ho0)) (Kd.R_base ho1)) (fun _ h_=>h_.1));have n3_:=Aside0.mk (Kd.R_lower (Kd.R_new' (Kd.R_new' (Kd.R_new' ho0 (Kd.R_lt (upK HO374.out))) (Kd.R_lt (upK HO383.out))) (Kd.R_lt (upK HO387.out))) (below_size (by repeat (first|exact upB HB.out|refine below_set ?_ GE371.out))));have n4_:=Aside0.mk (Kd.R_lower (Kd.R_new' (Kd.R_new' (Kd.R_new' ho1 (Kd.R_lt (upK HO374.out))) (Kd.R_lt (upK HO383.out))) (Kd.R_lt (upK HO387.out))) (below_size (by repeat (first|exact upB HB.out|refine below_set ?_ GE371.out))));have n5_:=Aside0.mk (blk_below (g:=gb371) (o:=.cells #[.slice A0_0 l0_0.length c0_0,.string a0_1,.string a0_2,.bool a0_3] 24 (0,0)) (upX BK371.out) hb);have n6_:=Aside0.mk (below_step (by repeat (first|exact upB HB.out|refine below_set ?_ GE371.out)) hb);clear HO374;clear HO383;clear HO387;clear BK371;clear HB;have HO374:=n0_;have HO383:=n1_;have HO387:=n2_;have HO392:=n3_;have HO394:=n4_;have BK371:=n5_;have HB:=n6_;clear n0_ n1_ n2_ n3_ n4_ n5_ n6_;(try clear hb);(try clear hb2);(try clear hk);(try clear hi);(try clear ho0);(try clear ho1);(try simp only[errW_none,errW_some])))
 try clear hcut60
 try clear q60
 try clear c60b0
 try clear c61b0
 go_loopg [5,6] k (fun kq v5 v6 w'=>∃ (x4_1:List (S58)) (x5_1:List (S58)) (x6_1:Int),v6=.int .i64 x6_1∧Aside0 (copselaw7_stale.l0 kq x4_1 x5_1 x6_1 l0_0 a0_1 a0_2 a0_3=some r)∧Aside0 (kq≤k)∧Aside0 (Kd.R k58 58 w' w.heap.size (fun k_=>some k_≠(v5:Value).ownBlock) (.slice Ao14 t372.length co14) x4_1)∧Aside0 (Kd.R k58 58 w' w.heap.size (fun k_=>some k_≠((.slice Ao14 t372.length co14):Value).ownBlock) v5 x5_1)∧Aside0 (w'.heap[gb371]?=some (.cells #[(.slice A0_0 l0_0.length c0_0),.string a0_1,.string a0_2,.bool a0_3] 24 (0,0)))∧Aside0 (Below w.heap.size w w'))
 case atStart=>exact ⟨(t372),(([]:List (S58))),(0),(by first|rfl|(simp;done)|(simp[*];done)),H',⟨Nat.le_refl _⟩,⟨by exact Kd.R_mono (upK HO374.out) (fun _ hk=>(by simp[Value.ownBlock]))⟩,⟨by first|exact Kd.R_nil _ _ _ _ _|exact Kd.N_nil _ _ _ _ _|exact Kd.V_nil _ _ _ _ _|exact Kd.Q_nil _ _ _ _ _|exact Kd.S_nil _ _ _ _ _⟩,⟨by (with_reducible repeat (first|refine blk_drewN ?_ _|refine blk_drew ?_|refine blk_alloc ?_ _));exact BK371.out⟩,⟨by repeat (first|exact upB HB.out|refine below_set ?_ GE371.out|apply pw_below_drewN)⟩⟩
 case round=>
  clear H'
  try clear c1
  try clear c2
  try clear p2
  try clear c3
  try clear c11
  try clear c12
  try clear c13
  try clear c18
  try clear c21
  try clear hcz11_0
  try clear hcz11_1
  try clear hcz11_2
  try clear hcz11_3
  try clear hcz13_0
  try clear hcz13_1
  try clear hcz13_2
  try clear hcz13_3
  try clear hcz16_0
  try clear hcz16_1
  try clear hcz16_2
  try clear hcz16_3
  try clear hcz19_0
  try clear hcz19_1
  try clear hcz19_2
  try clear hcz19_3
  try clear hcz21_0
  try clear hcz21_1
  try clear hcz21_2
  try clear hcz21_3
  try clear hcz23_0
  try clear hcz23_1
  try clear hcz23_2
  try clear hcz23_3
  try clear hfz11_0
  try clear hfz11_1
  try clear hfz11_2
  try clear hfz11_3
  try clear hfz13_0
  try clear hfz13_1
  try clear hfz13_2
  try clear hfz13_3
  try clear hfz16_0
  try clear hfz16_1
  try clear hfz16_2
  try clear hfz16_3
  try clear hfz19_0
  try clear hfz19_1
  try clear hfz19_2
  try clear hfz19_3
  try clear hfz21_0
  try clear hfz21_1
  try clear hfz21_2
  try clear hfz21_3
  try clear hfz23_0
  try clear hfz23_1
  try clear hfz23_2
  try clear hfz23_3
  obtain⟨x4_1,x5_1,x6_1,rfl,HA,HK1,HO_4,HO_5,BK371,HB⟩:=hrel
  have hl4_1:=(Kd.R_reads' HO_4.out).1
  rw[hl4_1] at HO_4
  (try simp only[hl4_1])
  (try simp only[hl4_1] at BK371)
  (try simp only[hl4_1] at HO_5)
  cases gk with
  |zero=>exact absurd HA.out (by simp[copselaw7_stale.l0])
  |succ k1=>
   have H:=HA.out
   clear HA
   simp only[copselaw7_stale.l0] at H
   by_cases c26:x6_1<(x4_1.length:Int)
   ·
    rw[if_pos c26] at H
    have c26b0:decide (x6_1<(x4_1.length:Int))=true:=decide_eq_true c26
    clear c26
    by_cases c27:0≤x6_1
    ·
     rw[if_pos c27] at H
     have c27b0:decide (0≤x6_1)=true:=decide_eq_true c27
     clear c27
     by_cases c28:x6_1<(l0_0.length:Int)
     ·
      rw[if_pos c28] at H
      have c28b0:decide (x6_1<(l0_0.length:Int))=true:=decide_eq_true c28
      clear c28
      obtain⟨y398,hy398⟩ : ∃ y_:List (S58),y_=(x4_1.set (x6_1:Int).toNat (⟨(rd_T58 l0_0 x6_1).f1,(rd_T58 l0_0 x6_1).f0⟩:S58)):=⟨_,rfl⟩
      replace H:(if x5_1.length<4398046511104 then (copselaw7_stale.l0 k1 y398 (x5_1++[(⟨(rd_T58 l0_0 x6_1).f1,(rd_T58 l0_0 x6_1).f0⟩:S58)]) (wrap64 (x6_1+1)) l0_0 a0_1 a0_2 a0_3) else (none))=some r:=by first|(rw[hy398];with_reducible exact H)|(have H2_:=(Option.bind_some _ _).symm.trans H;rw[hy398];with_reducible exact H2_)|(have H2_:=(Option.bind_some _ _).symm.trans H;with_reducible exact H2_)|with_reducible exact H|(rw[hy398];exact H)|exact H
      have Ny398:=Aside0.mk hy398
      clear hy398
      by_cases c30:x5_1.length<4398046511104
      ·
       rw[if_pos c30] at H
       have LMc30:=Aside0.mk c30
       clear c30
       obtain⟨y399,hy399⟩ : ∃ y_:List (S58),y_=(x5_1++[(⟨(rd_T58 l0_0 x6_1).f1,(rd_T58 l0_0 x6_1).f0⟩:S58)]):=⟨_,rfl⟩
       replace H:(copselaw7_stale.l0 k1 y398 y399 (wrap64 (x6_1+1)) l0_0 a0_1 a0_2 a0_3)=some r:=by first|(rw[hy399];with_reducible exact H)|(have H2_:=(Option.bind_some _ _).symm.trans H;rw[hy399];with_reducible exact H2_)|(have H2_:=(Option.bind_some _ _).symm.trans H;with_reducible exact H2_)|with_reducible exact H|(rw[hy399];exact H)|exact H
       have Ny399:=Aside0.mk hy399
       clear hy399
       have H':=Aside0.mk H
       clear H
       try go_wp2
       have n0_:=Aside0.mk (Kd.R_drew HO_4.out)
       have n1_:=Aside0.mk (Kd.R_drew HO_5.out)
       have n2_:=Aside0.mk (blk_drew BK371.out)
       have n3_:=Aside0.mk (below_drew1 HB.out)
       clear HO_4
       clear HO_5
       clear BK371
       clear HB
       have HO_4:=n0_
       have HO_5:=n1_
       have BK371:=n2_
       have HB:=n3_
       clear n0_ n1_ n2_ n3_
       have p395:0≤(x6_1:Int):=of_decide_eq_true (by assumption)
       have q395:x6_1<(l0_0.length:Int):=of_decide_eq_true (by assumption)
       obtain⟨ad395,e395,hx395_0,hx395_1⟩:=at_T58 HR0_0.out x6_1 p395 q395
       have hw395_1:=hx395_1
       have hw395_0:=hx395_0
       cases e395
       replace hx395_0:=(HB.out.cell (World.block_lt_of_cell? w _ hx395_0)).trans hx395_0
       replace hx395_1:=(HB.out.cell (World.block_lt_of_cell? w _ hx395_1)).trans hx395_1
       replace p395:=eq_true p395
       replace q395:=eq_true q395
       have p396:0≤(x6_1:Int):=of_decide_eq_true (by assumption)
       have q396:x6_1<(l0_0.length:Int):=of_decide_eq_true (by assumption)
       obtain⟨ad396,e396,hx396_0,hx396_1⟩:=at_T58 HR0_0.out x6_1 p396 q396
       have hw396_1:=hx396_1
       have hw396_0:=hx396_0
       obtain rfl:ad395=ad396:=(by injection e396)
       replace hx396_0:=(HB.out.cell (World.block_lt_of_cell? w _ hx396_0)).trans hx396_0
       replace hx396_1:=(HB.out.cell (World.block_lt_of_cell? w _ hx396_1)).trans hx396_1
       replace p396:=eq_true p396
       replace q396:=eq_true q396
       refine start_ (n:=15) (S:=fun w'=>w'.cell? ⟨gb371,0,none⟩=some (.slice (some ad395) l0_0.length c0_0)∧w'.cell? ⟨gb371,1,none⟩=some (.string a0_1)∧w'.cell? ⟨gb371,2,none⟩=some (.string a0_2)∧w'.cell? ⟨gb371,3,none⟩=some (.bool a0_3)∧w'.cell? (ad395.add ((x6_1).toNat*2))=some (.string ((rd_T58 l0_0 x6_1).f0))∧w'.cell? ⟨(ad395.add ((x6_1).toNat*2)).block,(ad395.add ((x6_1).toNat*2)).off+1,none⟩=some (.string ((rd_T58 l0_0 x6_1).f1))∧w'.cell? (ad395.add ((x6_1).toNat*2))=some (.string ((rd_T58 l0_0 x6_1).f0))∧w'.cell? ⟨(ad395.add ((x6_1).toNat*2)).block,(ad395.add ((x6_1).toNat*2)).off+1,none⟩=some (.string ((rd_T58 l0_0 x6_1).f1))) (ds:=[]) #[false,false,false,false,false,false,false,false,false,false,false,false,false,false,false] (by kernel_rfl) rfl rfl ⟨(blk_cell BK371.out 0).trans rfl,(blk_cell BK371.out 1).trans rfl,(blk_cell BK371.out 2).trans rfl,(blk_cell BK371.out 3).trans rfl,((HB.out.cell (World.block_lt_of_cell? w _ hw395_0)).trans hw395_0),((HB.out.cell (World.block_lt_of_cell? w _ hw395_1)).trans hw395_1),((HB.out.cell (World.block_lt_of_cell? w _ hw396_0)).trans hw396_0),((HB.out.cell (World.block_lt_of_cell? w _ hw396_1)).trans hw396_1)⟩ (fun hHeld=>?_);refine with_tabW copselaw7_stale.tab14 copselaw7_stale.bits14 (fun HT_ HW_=>?_)
       generalize wr.drew=w31 at HO_4 HO_5 BK371 HB hx395_0 hx395_1 hx396_0 hx396_1 hHeld ⊢
       refine pure_ (i:=0) (N:=some 70) (v:=?_) (a':=?_) #[true,false,false,false,false,false,false,false,false,false,false,false,false,false,false] rfl rfl (any_of HT_.out (by kernel_rfl)) (fun _ _ _ h=>h) (Or.inl ⟨by rfl,?_⟩) ?_ ?_
       rotate_left
       ·
        intro w'
        go_simp
        with_reducible rfl
       rotate_left
       ·
        simp only[pt_]
        rfl
       refine pure_ (i:=2) (N:=some 72) (v:=?_) (a':=?_) #[true,false,true,false,false,false,false,false,false,false,false,false,false,false,false] rfl rfl (any_of HT_.out (by kernel_rfl)) (fun _ _ _ h=>h) (Or.inl ⟨by rfl,?_⟩) ?_ ?_
       rotate_left
       ·
        intro w'
        go_simp
        with_reducible rfl
       rotate_left
       ·
        simp only[pt_]
        rfl
       refine pure_ (i:=6) (N:=some 76) (v:=?_) (a':=?_) #[true,false,true,false,false,false,true,false,false,false,false,false,false,false,false] rfl rfl (any_of HT_.out (by kernel_rfl)) (fun _ _ _ h=>h) (Or.inl ⟨by rfl,?_⟩) ?_ ?_
       rotate_left
       ·
        intro w'
        go_simp
        with_reducible rfl
       rotate_left
       ·
        simp only[pt_]
        rfl
       refine pure_ (i:=8) (N:=some 78) (v:=?_) (a':=?_) #[true,false,true,false,false,false,true,false,true,false,false,false,false,false,false] rfl rfl (any_of HT_.out (by kernel_rfl)) (fun _ _ _ h=>h) (Or.inl ⟨by rfl,?_⟩) ?_ ?_
       rotate_left
       ·
        intro w'
        go_simp
        with_reducible rfl
       rotate_left
       ·
        simp only[pt_]
        rfl
       refine take_ (i:=1) (N:=some 71) (v:=?_) (a':=?_) #[true,true,true,false,false,false,true,false,true,false,false,false,false,false,false] rfl rfl (take_ofW HT_.out HW_.out (by kernel_rfl)) (fun _ _ _ h=>h) (Or.inl ⟨by rfl,?_⟩) hHeld ?_ ?_
       rotate_left
       ·
        rintro w' ⟨s0,s1,s2,s3,s4,s5,s6,s7⟩
        go_simp
        with_reducible rfl
       rotate_left
       ·
        simp only[pt_]
        rfl
       refine pure_ (i:=3) (N:=some 73) (v:=?_) (a':=?_) #[true,true,true,true,false,false,true,false,true,false,false,false,false,false,false] rfl rfl (any_of HT_.out (by kernel_rfl)) (fun _ _ _ h=>h) (Or.inl ⟨by rfl,?_⟩) ?_ ?_
       rotate_left
       ·
        intro w'
        go_simp
        with_reducible rfl
       rotate_left
       ·
        simp only[pt_]
        rfl
       refine pure_ (i:=4) (N:=some 74) (v:=?_) (a':=?_) #[true,true,true,true,true,false,true,false,true,false,false,false,false,false,false] rfl rfl (any_of HT_.out (by kernel_rfl)) (fun _ _ _ h=>h) (Or.inl ⟨by rfl,?_⟩) ?_ ?_
       rotate_left
       ·
        intro w'
        go_simp
        with_reducible rfl
       rotate_left
       ·
        simp only[pt_]
        rfl
       refine take_ (i:=5) (N:=some 75) (v:=?_) (a':=?_) #[true,true,true,true,true,true,true,false,true,false,false,false,false,false,false] rfl rfl (take_ofW HT_.out HW_.out (by kernel_rfl)) (fun _ _ _ h=>h) (Or.inl ⟨by rfl,?_⟩) hHeld ?_ ?_
       rotate_left
       ·
        rintro w' ⟨s0,s1,s2,s3,s4,s5,s6,s7⟩
        go_simp
        with_reducible rfl
       rotate_left
       ·
        simp only[pt_]
        rfl
       refine take_ (i:=7) (N:=some 77) (v:=?_) (a':=?_) #[true,true,true,true,true,true,true,true,true,false,false,false,false,false,false] rfl rfl (take_ofW HT_.out HW_.out (by kernel_rfl)) (fun _ _ _ h=>h) (Or.inl ⟨by rfl,?_⟩) hHeld ?_ ?_
       rotate_left
       ·
        rintro w' ⟨s0,s1,s2,s3,s4,s5,s6,s7⟩
        go_simp
        with_reducible rfl
       rotate_left
       ·
        simp only[pt_]
        rfl
       refine pure_ (i:=9) (N:=some 79) (v:=?_) (a':=?_) #[true,true,true,true,true,true,true,true,true,true,false,false,false,false,false] rfl rfl (any_of HT_.out (by kernel_rfl)) (fun _ _ _ h=>h) (Or.inl ⟨by rfl,?_⟩) ?_ ?_
       rotate_left
       ·
        intro w'
        go_simp
        with_reducible rfl
       rotate_left
       ·
        simp only[pt_]
        rfl
       refine pure_ (i:=10) (N:=some 80) (v:=?_) (a':=?_) #[true,true,true,true,true,true,true,true,true,true,true,false,false,false,false] rfl rfl (any_of HT_.out (by kernel_rfl)) (fun _ _ _ h=>h) (Or.inl ⟨by rfl,?_⟩) ?_ ?_
       rotate_left
       ·
        intro w'
        go_simp
        with_reducible rfl
       rotate_left
       ·
        simp only[pt_]
        rfl
       refine take_ (i:=11) (N:=some 81) (v:=?_) (a':=?_) #[true,true,true,true,true,true,true,true,true,true,true,true,false,false,false] rfl rfl (take_ofW HT_.out HW_.out (by kernel_rfl)) (fun _ _ _ h=>h) (Or.inl ⟨by rfl,?_⟩) hHeld ?_ ?_
       rotate_left
       ·
        rintro w' ⟨s0,s1,s2,s3,s4,s5,s6,s7⟩
        go_simp
        with_reducible rfl
       rotate_left
       ·
        simp only[pt_]
        rfl
       refine pure_ (i:=12) (N:=some 82) (v:=?_) (a':=?_) #[true,true,true,true,true,true,true,true,true,true,true,true,true,false,false] rfl rfl (any_of HT_.out (by kernel_rfl)) (fun _ _ _ h=>h) (Or.inl ⟨by rfl,?_⟩) ?_ ?_
       rotate_left
       ·
        intro w'
        go_simp
        with_reducible rfl
       rotate_left
       ·
        simp only[pt_]
        rfl
       refine one_ (i:=13) (N:=some 7) #[true,true,true,true,true,true,true,true,true,true,true,true,true,true,false] rfl rfl (one_of HT_.out (by kernel_rfl)) (by decide) (fun K hK=>?_)
       refine box_step ?hg (N:=7) ?hd (cs:=#[.string (⟨#[]⟩:ByteArray),.string (⟨#[]⟩:ByteArray)]) (t:=58) ?hr ?_;(case hd=>rfl);(case hg=>rfl);(case hr=>first|(go_simp;done)|(go_simp;rfl))
       intro gb397 hg w32 hbox hb
       have n0_:=Aside0.mk (Kd.R_below (Kd.R_elderB (upK HO_4.out) gb397 (Nat.le_of_eq hg.symm)) hb)
       have n1_:=Aside0.mk (Kd.R_below (Kd.R_elderB (upK HO_5.out) gb397 (Nat.le_of_eq hg.symm)) hb)
       have n2_:=Aside0.mk (blk_below (g:=gb371) (o:=.cells #[.slice (some ad395) l0_0.length c0_0,.string a0_1,.string a0_2,.bool a0_3] 24 (0,0)) (upX BK371.out) hb)
       have n3_:=Aside0.mk (below_step (by repeat (first|exact upB HB.out|refine below_set ?_ GE371.out)) hb)
       have n4_:=Aside0.mk (hbox)
       have n5_:=Aside0.mk ((by rw[hg];exact (below_size (by repeat (first|exact upB HB.out|refine below_set ?_ GE371.out))):w.heap.size≤gb397))
       have n6_:=Aside0.mk ((by rw[hg];exact (below_size (by repeat (first|exact upB HB.out|refine below_set ?_ GE371.out))):w.heap.size≤gb397))
       have n7_:=Aside0.mk ((by rw[hg];exact Nat.ne_of_lt (blk_lt (g:=gb371) (o:=.cells #[.slice (some ad395) l0_0.length c0_0,.string a0_1,.string a0_2,.bool a0_3] 24 (0,0)) (upX BK371.out)):gb371≠gb397))
       have n8_:=Aside0.mk ((by rw[hg];exact Nat.ne_of_gt (blk_lt (g:=gb371) (o:=.cells #[.slice (some ad395) l0_0.length c0_0,.string a0_1,.string a0_2,.bool a0_3] 24 (0,0)) (upX BK371.out)):gb397≠gb371))
       clear HO_4
       clear HO_5
       clear BK371
       clear HB
       have HO_4:=n0_
       have HO_5:=n1_
       have BK371:=n2_
       have HB:=n3_
       have BK397:=n4_
       have GW397:=n5_
       have GE397:=n6_
       have NB371_397:=n7_
       have NB397_371:=n8_
       clear n0_ n1_ n2_ n3_ n4_ n5_ n6_ n7_ n8_
       clear hb hbox hg
       refine hK.out _ _ ⟨(blk_cell BK371.out 0).trans rfl,(blk_cell BK371.out 1).trans rfl,(blk_cell BK371.out 2).trans rfl,(blk_cell BK371.out 3).trans rfl,((HB.out.cell (World.block_lt_of_cell? w _ hw395_0)).trans hw395_0),((HB.out.cell (World.block_lt_of_cell? w _ hw395_1)).trans hw395_1),((HB.out.cell (World.block_lt_of_cell? w _ hw396_0)).trans hw396_0),((HB.out.cell (World.block_lt_of_cell? w _ hw396_1)).trans hw396_1)⟩ (fun hHeld=>?_)
       clear hK K
       refine norm_ (a':=?_) ?_ ?_
       rotate_left
       ·
        show Act.put _ (some 7) _=_
        simp only[pt_]
        rfl
       refine one_ (i:=14) (N:=none) #[true,true,true,true,true,true,true,true,true,true,true,true,true,true,true] rfl rfl (one_of HT_.out (by kernel_rfl)) (by decide) (fun K hK=>?_)
       have hs33:w32.cell? ⟨gb397,0,none⟩=some (.string (⟨#[]⟩:ByteArray)):=(blk_cell BK397.out 0).trans rfl
       have hfs33:=blk_frozen BK397.out 0
       have hns33_0:=NB371_397.out
       have hms33_0:=NB397_371.out
       have hs34:w32.cell? ⟨gb397,1,none⟩=some (.string (⟨#[]⟩:ByteArray)):=(blk_cell BK397.out 1).trans rfl
       have hfs34:=blk_frozen BK397.out 1
       have hns34_0:=NB371_397.out
       have hms34_0:=NB397_371.out
       refine skip_ (w1:=?_) (by rfl) rfl ?_ ?_
       rotate_left
       ·
        go_simp
        rfl
       refine hK.out _ _ ⟨((cell_far (p:=⟨gb397,_,none⟩) NB371_397.out _).trans (((cell_far (p:=⟨gb397,_,none⟩) NB371_397.out _).trans (hHeld.1)))),((cell_far (p:=⟨gb397,_,none⟩) NB371_397.out _).trans (((cell_far (p:=⟨gb397,_,none⟩) NB371_397.out _).trans (hHeld.2.1)))),((cell_far (p:=⟨gb397,_,none⟩) NB371_397.out _).trans (((cell_far (p:=⟨gb397,_,none⟩) NB371_397.out _).trans (hHeld.2.2.1)))),((cell_far (p:=⟨gb397,_,none⟩) NB371_397.out _).trans (((cell_far (p:=⟨gb397,_,none⟩) NB371_397.out _).trans (hHeld.2.2.2.1)))),((cell_far (p:=⟨gb397,_,none⟩) (by first|exact Nat.ne_of_lt (Nat.lt_of_lt_of_le (by have:=World.block_lt_of_cell? _ _ hw395_0;first|rwa [add_block] at this|exact this) GW397.out)|(rw[add_block];exact Nat.ne_of_lt (Nat.lt_of_lt_of_le (by have:=World.block_lt_of_cell? _ _ hw395_0;first|rwa [add_block] at this|exact this) GW397.out))|(show (Addr.add _ _).block≠_;rw[add_block];exact Nat.ne_of_lt (Nat.lt_of_lt_of_le (by have:=World.block_lt_of_cell? _ _ hw395_0;first|rwa [add_block] at this|exact this) GW397.out))|(dsimp only;exact Nat.ne_of_lt (Nat.lt_of_lt_of_le (by have:=World.block_lt_of_cell? _ _ hw395_0;first|rwa [add_block] at this|exact this) GW397.out))) _).trans (((cell_far (p:=⟨gb397,_,none⟩) (by first|exact Nat.ne_of_lt (Nat.lt_of_lt_of_le (by have:=World.block_lt_of_cell? _ _ hw395_0;first|rwa [add_block] at this|exact this) GW397.out)|(rw[add_block];exact Nat.ne_of_lt (Nat.lt_of_lt_of_le (by have:=World.block_lt_of_cell? _ _ hw395_0;first|rwa [add_block] at this|exact this) GW397.out))|(show (Addr.add _ _).block≠_;rw[add_block];exact Nat.ne_of_lt (Nat.lt_of_lt_of_le (by have:=World.block_lt_of_cell? _ _ hw395_0;first|rwa [add_block] at this|exact this) GW397.out))|(dsimp only;exact Nat.ne_of_lt (Nat.lt_of_lt_of_le (by have:=World.block_lt_of_cell? _ _ hw395_0;first|rwa [add_block] at this|exact this) GW397.out))) _).trans (hHeld.2.2.2.2.1)))),((cell_far (p:=⟨gb397,_,none⟩) (by first|exact Nat.ne_of_lt (Nat.lt_of_lt_of_le (by have:=World.block_lt_of_cell? _ _ hw395_1;first|rwa [add_block] at this|exact this) GW397.out)|(rw[add_block];exact Nat.ne_of_lt (Nat.lt_of_lt_of_le (by have:=World.block_lt_of_cell? _ _ hw395_1;first|rwa [add_block] at this|exact this) GW397.out))|(show (Addr.add _ _).block≠_;rw[add_block];exact Nat.ne_of_lt (Nat.lt_of_lt_of_le (by have:=World.block_lt_of_cell? _ _ hw395_1;first|rwa [add_block] at this|exact this) GW397.out))|(dsimp only;exact Nat.ne_of_lt (Nat.lt_of_lt_of_le (by have:=World.block_lt_of_cell? _ _ hw395_1;first|rwa [add_block] at this|exact this) GW397.out))) _).trans (((cell_far (p:=⟨gb397,_,none⟩) (by first|exact Nat.ne_of_lt (Nat.lt_of_lt_of_le (by have:=World.block_lt_of_cell? _ _ hw395_1;first|rwa [add_block] at this|exact this) GW397.out)|(rw[add_block];exact Nat.ne_of_lt (Nat.lt_of_lt_of_le (by have:=World.block_lt_of_cell? _ _ hw395_1;first|rwa [add_block] at this|exact this) GW397.out))|(show (Addr.add _ _).block≠_;rw[add_block];exact Nat.ne_of_lt (Nat.lt_of_lt_of_le (by have:=World.block_lt_of_cell? _ _ hw395_1;first|rwa [add_block] at this|exact this) GW397.out))|(dsimp only;exact Nat.ne_of_lt (Nat.lt_of_lt_of_le (by have:=World.block_lt_of_cell? _ _ hw395_1;first|rwa [add_block] at this|exact this) GW397.out))) _).trans (hHeld.2.2.2.2.2.1)))),((cell_far (p:=⟨gb397,_,none⟩) (by first|exact Nat.ne_of_lt (Nat.lt_of_lt_of_le (by have:=World.block_lt_of_cell? _ _ hw396_0;first|rwa [add_block] at this|exact this) GW397.out)|(rw[add_block];exact Nat.ne_of_lt (Nat.lt_of_lt_of_le (by have:=World.block_lt_of_cell? _ _ hw396_0;first|rwa [add_block] at this|exact this) GW397.out))|(show (Addr.add _ _).block≠_;rw[add_block];exact Nat.ne_of_lt (Nat.lt_of_lt_of_le (by have:=World.block_lt_of_cell? _ _ hw396_0;first|rwa [add_block] at this|exact this) GW397.out))|(dsimp only;exact Nat.ne_of_lt (Nat.lt_of_lt_of_le (by have:=World.block_lt_of_cell? _ _ hw396_0;first|rwa [add_block] at this|exact this) GW397.out))) _).trans (((cell_far (p:=⟨gb397,_,none⟩) (by first|exact Nat.ne_of_lt (Nat.lt_of_lt_of_le (by have:=World.block_lt_of_cell? _ _ hw396_0;first|rwa [add_block] at this|exact this) GW397.out)|(rw[add_block];exact Nat.ne_of_lt (Nat.lt_of_lt_of_le (by have:=World.block_lt_of_cell? _ _ hw396_0;first|rwa [add_block] at this|exact this) GW397.out))|(show (Addr.add _ _).block≠_;rw[add_block];exact Nat.ne_of_lt (Nat.lt_of_lt_of_le (by have:=World.block_lt_of_cell? _ _ hw396_0;first|rwa [add_block] at this|exact this) GW397.out))|(dsimp only;exact Nat.ne_of_lt (Nat.lt_of_lt_of_le (by have:=World.block_lt_of_cell? _ _ hw396_0;first|rwa [add_block] at this|exact this) GW397.out))) _).trans (hHeld.2.2.2.2.2.2.1)))),((cell_far (p:=⟨gb397,_,none⟩) (by first|exact Nat.ne_of_lt (Nat.lt_of_lt_of_le (by have:=World.block_lt_of_cell? _ _ hw396_1;first|rwa [add_block] at this|exact this) GW397.out)|(rw[add_block];exact Nat.ne_of_lt (Nat.lt_of_lt_of_le (by have:=World.block_lt_of_cell? _ _ hw396_1;first|rwa [add_block] at this|exact this) GW397.out))|(show (Addr.add _ _).block≠_;rw[add_block];exact Nat.ne_of_lt (Nat.lt_of_lt_of_le (by have:=World.block_lt_of_cell? _ _ hw396_1;first|rwa [add_block] at this|exact this) GW397.out))|(dsimp only;exact Nat.ne_of_lt (Nat.lt_of_lt_of_le (by have:=World.block_lt_of_cell? _ _ hw396_1;first|rwa [add_block] at this|exact this) GW397.out))) _).trans (((cell_far (p:=⟨gb397,_,none⟩) (by first|exact Nat.ne_of_lt (Nat.lt_of_lt_of_le (by have:=World.block_lt_of_cell? _ _ hw396_1;first|rwa [add_block] at this|exact this) GW397.out)|(rw[add_block];exact Nat.ne_of_lt (Nat.lt_of_lt_of_le (by have:=World.block_lt_of_cell? _ _ hw396_1;first|rwa [add_block] at this|exact this) GW397.out))|(show (Addr.add _ _).block≠_;rw[add_block];exact Nat.ne_of_lt (Nat.lt_of_lt_of_le (by have:=World.block_lt_of_cell? _ _ hw396_1;first|rwa [add_block] at this|exact this) GW397.out))|(dsimp only;exact Nat.ne_of_lt (Nat.lt_of_lt_of_le (by have:=World.block_lt_of_cell? _ _ hw396_1;first|rwa [add_block] at this|exact this) GW397.out))) _).trans (hHeld.2.2.2.2.2.2.2))))⟩ (fun hHeld=>?_)
       clear hK K
       refine done_ (done_of HT_.out (by kernel_rfl)) ?_
       have n0_:Aside0 (Kd.R k58 58 ((w32.setCell ⟨gb397,0,none⟩ (.string ((rd_T58 l0_0 x6_1).f1))).setCell ⟨gb397,1,none⟩ (.string ((rd_T58 l0_0 x6_1).f0))) w.heap.size (fun k_=>some k_≠(u5:Value).ownBlock∧k_≠gb397) (.slice Ao14 x4_1.length co14) x4_1):=⟨by (with_reducible repeat (first|apply Kd.R_alloc|apply Kd.R_drewN|apply Kd.R_drew));exact Kd.R_mono (Kd.R_far (p:=⟨gb397,1,none⟩) (Kd.R_far (p:=⟨gb397,0,none⟩) (Kd.R_mono HO_4.out (fun k_ hk=>(⟨hk,hk.2⟩:_∧k_≠gb397))) (fun _ hk=>hk.2) (.string ((rd_T58 l0_0 x6_1).f1))) (fun _ hk=>hk.2) (.string ((rd_T58 l0_0 x6_1).f0))) (fun _ hk=>⟨hk.1.1,hk.1.2⟩)⟩
       have n1_:Aside0 (Kd.R k58 58 ((w32.setCell ⟨gb397,0,none⟩ (.string ((rd_T58 l0_0 x6_1).f1))).setCell ⟨gb397,1,none⟩ (.string ((rd_T58 l0_0 x6_1).f0))) w.heap.size (fun k_=>some k_≠(.slice Ao14 x4_1.length co14:Value).ownBlock∧k_≠gb397) u5 x5_1):=⟨by (with_reducible repeat (first|apply Kd.R_alloc|apply Kd.R_drewN|apply Kd.R_drew));exact Kd.R_mono (Kd.R_far (p:=⟨gb397,1,none⟩) (Kd.R_far (p:=⟨gb397,0,none⟩) (Kd.R_mono HO_5.out (fun k_ hk=>(⟨hk,hk.2⟩:_∧k_≠gb397))) (fun _ hk=>hk.2) (.string ((rd_T58 l0_0 x6_1).f1))) (fun _ hk=>hk.2) (.string ((rd_T58 l0_0 x6_1).f0))) (fun _ hk=>⟨hk.1.1,hk.1.2⟩)⟩
       have n2_:Aside0 (((w32.setCell ⟨gb397,0,none⟩ (.string ((rd_T58 l0_0 x6_1).f1))).setCell ⟨gb397,1,none⟩ (.string ((rd_T58 l0_0 x6_1).f0))).heap[gb371]?=some (.cells #[.slice (some ad395) l0_0.length c0_0,.string a0_1,.string a0_2,.bool a0_3] 24 (0,0))):=⟨by (with_reducible repeat (first|refine blk_drewN ?_ _|refine blk_drew ?_|refine blk_alloc ?_ _));refine blk_far ?_ NB371_397.out _;(with_reducible repeat (first|refine blk_drewN ?_ _|refine blk_drew ?_|refine blk_alloc ?_ _));refine blk_far ?_ NB371_397.out _;(with_reducible repeat (first|refine blk_drewN ?_ _|refine blk_drew ?_|refine blk_alloc ?_ _));exact BK371.out⟩
       have n3_:Aside0 (((w32.setCell ⟨gb397,0,none⟩ (.string ((rd_T58 l0_0 x6_1).f1))).setCell ⟨gb397,1,none⟩ (.string ((rd_T58 l0_0 x6_1).f0))).heap[gb397]?=some (.cells #[.string ((rd_T58 l0_0 x6_1).f1),.string ((rd_T58 l0_0 x6_1).f0)] 58 (0,0))):=⟨by (with_reducible repeat (first|refine blk_drewN ?_ _|refine blk_drew ?_|refine blk_alloc ?_ _));refine blk_put (cs:=#[.string ((rd_T58 l0_0 x6_1).f1),.string (⟨#[]⟩:ByteArray)]) ?_ 1 _ rfl;(with_reducible repeat (first|refine blk_drewN ?_ _|refine blk_drew ?_|refine blk_alloc ?_ _));refine blk_put (cs:=#[.string (⟨#[]⟩:ByteArray),.string (⟨#[]⟩:ByteArray)]) ?_ 0 _ rfl;(with_reducible repeat (first|refine blk_drewN ?_ _|refine blk_drew ?_|refine blk_alloc ?_ _));exact BK397.out⟩
       have n4_:Aside0 (Below w.heap.size w ((w32.setCell ⟨gb397,0,none⟩ (.string ((rd_T58 l0_0 x6_1).f1))).setCell ⟨gb397,1,none⟩ (.string ((rd_T58 l0_0 x6_1).f0)))):=⟨by repeat (first|(with_reducible first|exact HB.out|apply below_alloc|apply pw_below_drewN|apply below_drew1|refine below_set ?_ GE371.out|refine below_set ?_ GE397.out)|exact HB.out)⟩
       (try clear HO_4)
       (try clear HO_5)
       (try clear BK371)
       (try clear BK397)
       (try clear HB)
       generalize ((w32.setCell ⟨gb397,0,none⟩ (.string ((rd_T58 l0_0 x6_1).f1))).setCell ⟨gb397,1,none⟩ (.string ((rd_T58 l0_0 x6_1).f0)))=w35 at n0_ n1_ n2_ n3_ n4_ ⊢
       have HO_4:=n0_
       have HO_5:=n1_
       have BK371:=n2_
       have BK397:=n3_
       have HB:=n4_
       clear n0_ n1_ n2_ n3_ n4_
       have hnb36:=NB397_371.out
       have hnc36:=NB371_397.out
       have hcz37_0:w35.cell? ⟨gb397,0,none⟩=some (.string ((rd_T58 l0_0 x6_1).f1)):=(blk_cell BK397.out 0).trans rfl
       have hcz37_1:w35.cell? ⟨gb397,1,none⟩=some (.string ((rd_T58 l0_0 x6_1).f0)):=(blk_cell BK397.out 1).trans rfl
       have hfz37_0:=blk_frozen BK397.out 0
       have hfz37_1:=blk_frozen BK397.out 1
       have p29:0≤(x6_1:Int):=of_decide_eq_true (by assumption)
       have q29:(x6_1:Int)<((x4_1.length:Int):Int):=of_decide_eq_true (by assumption)
       obtain⟨go29,co29,eo29,gb29,gl29,cl29,HG29⟩:=Kd.R_form HO_4.out (by omega)
       (first|cases eo29|(injection eo29 with ea_ en_ ec_;(first|subst ea_|(injection ea_ with ea_;subst ea_));subst ec_;clear en_))
       have GB29:=Aside0.mk gb29
       have GG29:=Aside0.mk HG29
       clear gb29 gl29 HG29
       obtain⟨ce29,hcl29,hM29,hcc29,hfr29⟩:=Kd.R_elem HO_4.out z58 (x6_1:Int) p29 q29
       obtain rfl:=k58_openM hM29
       have hx29_0:w35.cell? ⟨go29,(x6_1:Int).toNat*2,none⟩=some (.string ((rd_T58 x4_1 x6_1).f0)):=hcc29 0 _ rfl
       have hx29_1:w35.cell? ⟨go29,(x6_1:Int).toNat*2+1,none⟩=some (.string ((rd_T58 x4_1 x6_1).f1)):=hcc29 1 _ rfl
       have hf29_0:w35.frozen? ⟨go29,(x6_1:Int).toNat*2,none⟩=false:=hfr29 0
       have hf29_1:w35.frozen? ⟨go29,(x6_1:Int).toNat*2+1,none⟩=false:=hfr29 1
       clear hcl29 hcc29 hfr29 hM29
       replace p29:=eq_true p29
       replace q29:=eq_true q29
       have HX38:=Aside0.mk (show Kd.R k58 58 w35 w.heap.size (fun k_=>some k_≠(u5:Value).ownBlock∧k_≠gb397) (.slice (some ⟨go29,0,none⟩) x4_1.length co14) x4_1 from (upK HO_4.out))
       obtain⟨ce38,hcl38,hM38,hcc38,hfr38⟩:=Kd.R_elem HX38.out z58 (x6_1:Int) (of_decide_eq_true (by assumption)) (by have h_:(x6_1:Int)<((x4_1.length:Int):Int):=of_decide_eq_true (by assumption);first|exact h_|(have e_:=(Kd.R_reads' HO_4.out).1;omega)|simpa using h_)
       obtain rfl:=k58_openM hM38
       have HP38:=Kd.R_seg HX38.out (x6_1:Int) (of_decide_eq_true (by assumption)) (by have h_:(x6_1:Int)<((x4_1.length:Int):Int):=of_decide_eq_true (by assumption);first|exact h_|(have e_:=(Kd.R_reads' HO_4.out).1;omega)|simpa using h_) (seg:=[.string ((rd_T58 l0_0 x6_1).f1),.string ((rd_T58 l0_0 x6_1).f0)]) (j:=0) hcl38 hcc38 (show 2≤2 from by decide) (x':=(⟨(rd_T58 l0_0 x6_1).f1,(rd_T58 l0_0 x6_1).f0⟩:S58)) (k58_mkM _ _ _ (⟨(rd_T58 l0_0 x6_1).f1,(rd_T58 l0_0 x6_1).f0⟩:S58)) (fun _ hk=>hk)
       have hx38_0:=hcc38 0 _ rfl
       (try simp only[show (k58).sz=2 from rfl,Nat.mul_one,Nat.add_zero] at hx38_0)
       have hf38_0:=hfr38 0
       (try simp only[show (k58).sz=2 from rfl,Nat.mul_one,Nat.add_zero] at hf38_0)
       have hx38_1:=hcc38 1 _ rfl
       (try simp only[show (k58).sz=2 from rfl,Nat.mul_one,Nat.add_zero] at hx38_1)
       have hf38_1:=hfr38 1
       (try simp only[show (k58).sz=2 from rfl,Nat.mul_one,Nat.add_zero] at hf38_1)
       clear hcl38 hcc38 hfr38 hM38
       try go_wp2_with (first|((with_reducible refine gate_store (t:=58) (p:=86) rfl ?_);refine store_event (t:=58) (p:=86) (v:=?vo_w39) (w1:=((w35.setCell ⟨go29,(x6_1:Int).toNat*2,none⟩ (.string ((rd_T58 l0_0 x6_1).f1))).setCell ⟨go29,(x6_1:Int).toNat*2+1,none⟩ (.string ((rd_T58 l0_0 x6_1).f0)))) ?hg ?ho ?hn ?hr ?_;(case ho=>rfl);(case hg=>rfl);(case hn=>rfl);(case hr=>first|(go_simp;done)|(go_simp;rfl));intro w39 hw;have hg:w35.grownBy w39 (some go29):=(by rw[hw];exact HP38.2);have hp_:Kd.R k58 58 w39 w.heap.size (fun k_=>some k_≠(u5:Value).ownBlock∧k_≠gb397) (.slice (some ⟨go29,0,none⟩) x4_1.length co14) y398:=(by rw[hw,Ny398.out];exact HP38.1);clear HP38;have n0_:=Aside0.mk (hp_);have n1_:=Aside0.mk (Kd.R_after (v:=(.slice (some ⟨go29,0,none⟩) x4_1.length co14)) (v1:=(.slice (some ⟨go29,0,none⟩) x4_1.length co14)) (ok:=(fun k_=>k_≠gb397)) (by exact Kd.R_mono (upK HO_5.out) (fun _ hk=>⟨hk.2,hk.1⟩)) hg (.inl rfl));have n2_:=Aside0.mk (blk_grown (g:=gb371) (o:=.cells #[.slice (some ad395) l0_0.length c0_0,.string a0_1,.string a0_2,.bool a0_3] 24 (0,0)) (upX BK371.out) hg (Kd.R_ne HO_4.out BK371.out (by decide)));have n3_:=Aside0.mk (blk_grown (g:=gb397) (o:=.cells #[.string ((rd_T58 l0_0 x6_1).f1),.string ((rd_T58 l0_0 x6_1).f0)] 58 (0,0)) (upX BK397.out) hg (Kd.R_away HO_4.out (fun _ hk=>hk.2)));have n4_:=Aside0.mk ((by rw[hw];exact below_set (below_set (HB.out) GB29.out) GB29.out:Below w.heap.size w w39));clear HO_4;clear HO_5;clear BK371;clear BK397;clear HB;have HO_4:=n0_;have HO_5:=n1_;have BK371:=n2_;have BK397:=n3_;have HB:=n4_;clear n0_ n1_ n2_ n3_ n4_;clear hg hw hp_;have hcz40_0:w39.cell? ⟨gb397,0,none⟩=some (.string ((rd_T58 l0_0 x6_1).f1)):=(blk_cell BK397.out 0).trans rfl;have hcz40_1:w39.cell? ⟨gb397,1,none⟩=some (.string ((rd_T58 l0_0 x6_1).f0)):=(blk_cell BK397.out 1).trans rfl;have hfz40_0:=blk_frozen BK397.out 0;have hfz40_1:=blk_frozen BK397.out 1)|((with_reducible refine gate_builtin (b:=.append) (xs:=#[.tmp 87,.tmp 89]) rfl ?_);at_builtin;refine Kd.R_append k58 (w0:=w) w.heap.size rfl (.tmp 87) (.tmp 89) 22 58 (.agg #[(.string ⟨#[]⟩),(.string ⟨#[]⟩)]) 32 rfl Tryd.underlying22 info58 rfl (by decide) (by omega) u5 x5_1 (⟨(rd_T58 l0_0 x6_1).f1,(rd_T58 l0_0 x6_1).f0⟩:S58) [.string ((rd_T58 l0_0 x6_1).f1),.string ((rd_T58 l0_0 x6_1).f0)] (fun k_=>some k_≠(.slice (some ⟨go29,0,none⟩) x4_1.length co14:Value).ownBlock∧k_≠gb397) (fun _=>False) rfl rfl ?aP (fun _ hk=>hk.elim) ?aF ?aO ?aB ?aS ?aL ?_;(case aP=>exact k58_mkM _ _ _ (⟨(rd_T58 l0_0 x6_1).f1,(rd_T58 l0_0 x6_1).f0⟩:S58));(case aB=>exact (by repeat (first|(with_reducible first|exact HB.out|apply below_alloc|apply pw_below_drewN|apply below_drew1|refine below_set ?_ GE371.out|refine below_set ?_ GE397.out)|exact HB.out)));(case aF=>exact (fun k_ hk=>⟨Kd.fresh' (Kd.R_lt (upK HO_4.out)) k_ hk,Kd.freshB (g:=gb397) (o:=.cells #[.string ((rd_T58 l0_0 x6_1).f1),.string ((rd_T58 l0_0 x6_1).f0)] 58 (0,0)) (upX BK397.out) k_ hk⟩));(case aO=>exact (by exact Kd.R_mono (upK HO_5.out) (fun _ hk=>⟨hk.2,hk.1⟩)));(case aS=>exact (below_size (by repeat (first|(with_reducible first|exact HB.out|apply below_alloc|apply pw_below_drewN|apply below_drew1|refine below_set ?_ GE371.out|refine below_set ?_ GE397.out)|exact HB.out))));(case aL=>have:=LMc30.out;omega);intro v400 w41 ho hb hg hat;rw[←Ny399.out] at ho;have n0_:=Aside0.mk (Kd.R_after (ok:=(fun k_=>k_≠gb397)) (by exact Kd.R_mono (upK HO_4.out) (fun _ hk=>⟨hk.2,hk.1⟩)) hg hat);have n1_:=Aside0.mk (blk_grown (g:=gb371) (o:=.cells #[.slice (some ad395) l0_0.length c0_0,.string a0_1,.string a0_2,.bool a0_3] 24 (0,0)) (upX BK371.out) hg (Kd.R_ne HO_5.out BK371.out (by decide)));have n2_:=Aside0.mk (blk_grown (g:=gb397) (o:=.cells #[.string ((rd_T58 l0_0 x6_1).f1),.string ((rd_T58 l0_0 x6_1).f0)] 58 (0,0)) (upX BK397.out) hg (Kd.R_away HO_5.out (fun _ hk=>hk.1)));have n3_:=Aside0.mk (hb);have n4_:=Aside0.mk (ho);clear HO_4;clear BK371;clear BK397;clear HB;clear HO_5;have HO_4:=n0_;have BK371:=n1_;have BK397:=n2_;have HB:=n3_;have HO401:=n4_;clear n0_ n1_ n2_ n3_ n4_;clear ho hb hg hat))
       (try simp only[←hl4_1])
       go_roundg k1
       case measure=>have:=HK1.out;omega
       case rel=>exact ⟨(y398),(y399),(wrap64 (x6_1+1)),(by first|rfl|(simp;done)|(simp[*];done)),H',⟨by have:=HK1.out;omega⟩,⟨by (try simp only[hl4_1]);exact Kd.R_mono (upK HO_4.out) (fun _ hk=>hk.2)⟩,⟨by (try simp only[hl4_1]);exact Kd.R_mono (upK HO401.out) (fun _ hk=>hk.1)⟩,⟨by (try simp only[hl4_1]);(with_reducible repeat (first|refine blk_drewN ?_ _|refine blk_drew ?_|refine blk_alloc ?_ _));exact BK371.out⟩,⟨by repeat (first|(with_reducible first|exact HB.out|apply below_alloc|apply pw_below_drewN|apply below_drew1|refine below_set ?_ GE371.out|refine below_set ?_ GE397.out)|exact HB.out)⟩⟩
      ·
       rw[if_neg c30] at H
       exact absurd H (by simp)
     ·
      rw[if_neg c28] at H
      exact absurd H (by simp)
    ·
     rw[if_neg c27] at H
     exact absurd H (by simp)
   ·
    rw[if_neg c26] at H
    have c26b0:decide (x6_1<(x4_1.length:Int))=false:=decide_eq_false c26
    clear c26
    replace H:=Option.bind_eq_some_iff.mp H
    obtain⟨⟨t402,t403⟩,A420,H⟩:=H
    try dsimp only at H
    have A42:=Aside0.mk A420
    clear A420
    replace H:=Option.bind_eq_some_iff.mp H
    obtain⟨⟨t404,t405⟩,A430,H⟩:=H
    try dsimp only at H
    have A43:=Aside0.mk A430
    clear A430
    replace H:=Option.bind_eq_some_iff.mp H
    obtain⟨⟨t406,t407⟩,A440,H⟩:=H
    try dsimp only at H
    have A44:=Aside0.mk A440
    clear A440
    replace H:=Option.bind_eq_some_iff.mp H
    obtain⟨⟨t408,t409⟩,A450,H⟩:=H
    try dsimp only at H
    have A45:=Aside0.mk A450
    clear A450
    replace H:=Option.bind_eq_some_iff.mp H
    obtain⟨⟨t410,t411⟩,A460,H⟩:=H
    try dsimp only at H
    have A46:=Aside0.mk A460
    clear A460
    replace H:=Option.bind_eq_some_iff.mp H
    obtain⟨⟨t414,t415⟩,A470,H⟩:=H
    try dsimp only at H
    have A47:=Aside0.mk A470
    clear A470
    replace H:=Option.bind_eq_some_iff.mp H
    obtain⟨⟨t418,t419,t420⟩,A480,H⟩:=H
    try dsimp only at H
    have A48:=Aside0.mk A480
    clear A480
    replace H:=Option.bind_eq_some_iff.mp H
    obtain⟨⟨t425,t426,t427⟩,A490,H⟩:=H
    try dsimp only at H
    have A49:=Aside0.mk A490
    clear A490
    replace H:=Option.bind_eq_some_iff.mp H
    obtain⟨t432,A500,H⟩:=H
    try dsimp only at H
    have A50:=Aside0.mk A500
    clear A500
    replace H:=Option.bind_eq_some_iff.mp H
    obtain⟨t435,A510,H⟩:=H
    try dsimp only at H
    have A51:=Aside0.mk A510
    clear A510
    replace H:=Option.bind_eq_some_iff.mp H
    obtain⟨t438,A520,H⟩:=H
    try dsimp only at H
    have A52:=Aside0.mk A520
    clear A520
    replace H:=Option.bind_eq_some_iff.mp H
    obtain⟨t439,A530,H⟩:=H
    try dsimp only at H
    have A53:=Aside0.mk A530
    clear A530
    replace H:=Option.bind_eq_some_iff.mp H
    obtain⟨t440,A540,H⟩:=H
    try dsimp only at H
    have A54:=Aside0.mk A540
    clear A540
    replace H:=Option.bind_eq_some_iff.mp H
    obtain⟨t441,A550,H⟩:=H
    try dsimp only at H
    have A55:=Aside0.mk A550
    clear A550
    replace H:=Option.bind_eq_some_iff.mp H
    obtain⟨t442,A560,H⟩:=H
    try dsimp only at H
    have A56:=Aside0.mk A560
    clear A560
    replace H:=Option.bind_eq_some_iff.mp H
    obtain⟨t443,A570,H⟩:=H
    try dsimp only at H
    have A57:=Aside0.mk A570
    clear A570
    by_cases c58:t442=t443
    ·
     rw[if_pos c58] at H
     have c58b0:(t442==t443)=true:=beq_iff_eq.mpr c58
     have c58b1:(t442 != t443)=false:=bne_eq_false_iff_eq.mpr c58
     clear c58
     replace H:=Option.bind_eq_some_iff.mp H
     obtain⟨t444,A590,H⟩:=H
     try dsimp only at H
     have A59:=Aside0.mk A590
     clear A590
     replace H:=Option.bind_eq_some_iff.mp H
     obtain⟨t445,A600,H⟩:=H
     try dsimp only at H
     have A60:=Aside0.mk A600
     clear A600
     replace H:=Option.bind_eq_some_iff.mp H
     obtain⟨t446,A610,H⟩:=H
     try dsimp only at H
     have A61:=Aside0.mk A610
     clear A610
     by_cases c62:t402.toList=t404.toList
     ·
      rw[if_pos c62] at H
      have c62b0:(t402.toList==t404.toList)=true:=beq_iff_eq.mpr c62
      have c62b1:(t402.toList != t404.toList)=false:=bne_eq_false_iff_eq.mpr c62
      clear c62
      replace H:=Option.bind_eq_some_iff.mp H
      obtain⟨t447,A630,H⟩:=H
      try dsimp only at H
      have A63:=Aside0.mk A630
      clear A630
      by_cases c64:t447=t405
      ·
       rw[if_pos c64] at H
       have c64b0:(t447==t405)=true:=beq_iff_eq.mpr c64
       have c64b1:(t447 != t405)=false:=bne_eq_false_iff_eq.mpr c64
       clear c64
       by_cases c65:t406=t408
       ·
        rw[if_pos c65] at H
        have c65b0:(t406==t408)=true:=beq_iff_eq.mpr c65
        have c65b1:(t406 != t408)=false:=bne_eq_false_iff_eq.mpr c65
        clear c65
        by_cases c66:(t407==t409)=true
        ·
         rw[if_pos c66] at H
         have c66b0:(t407==t409)=true:=c66
         (try (have c66b1:decide (t407=t409)=true:=by simpa using c66))
         (try (have c66b2:(t407==t409)=true:=by simpa using c66))
         clear c66
         by_cases c67:(t411==t415)=true
         ·
          rw[if_pos c67] at H
          have c67b0:(t411==t415)=true:=c67
          (try (have c67b1:decide (t411=t415)=true:=by simpa using c67))
          (try (have c67b2:(t411==t415)=true:=by simpa using c67))
          clear c67
          replace H:=Option.bind_eq_some_iff.mp H
          obtain⟨t448,A680,H⟩:=H
          try dsimp only at H
          have A68:=Aside0.mk A680
          clear A680
          by_cases c69:t438=true
          ·
           subst c69
           have H1:(if t439=true then (if t440=true then (if t441=true then (if t445=t446 then (some (t448==t427)) else (none)) else (none)) else (none)) else (none))=some r:=by rw[if_pos rfl] at H;exact H
           clear H
           have H:=H1
           clear H1
           by_cases c70:t439=true
           ·
            subst c70
            have H1:(if t440=true then (if t441=true then (if t445=t446 then (some (t448==t427)) else (none)) else (none)) else (none))=some r:=by rw[if_pos rfl] at H;exact H
            clear H
            have H:=H1
            clear H1
            by_cases c71:t440=true
            ·
             subst c71
             have H1:(if t441=true then (if t445=t446 then (some (t448==t427)) else (none)) else (none))=some r:=by rw[if_pos rfl] at H;exact H
             clear H
             have H:=H1
             clear H1
             by_cases c72:t441=true
             ·
              subst c72
              have H1:(if t445=t446 then (some (t448==t427)) else (none))=some r:=by rw[if_pos rfl] at H;exact H
              clear H
              have H:=H1
              clear H1
              by_cases c73:t445=t446
              ·
               rw[if_pos c73] at H
               have c73b0:(t445==t446)=true:=beq_iff_eq.mpr c73
               have c73b1:(t445 != t446)=false:=bne_eq_false_iff_eq.mpr c73
               clear c73
               obtain rfl:=Option.some.inj H
               try go_wp2_with (first|((with_reducible refine gate_callee (f:=21) rfl ?_);refine goesL_ (some 93) rfl rfl Tryd.func21 (by kernel_rfl) rfl #[.slice Ao14 x4_1.length co14] rfl (by (try simp only[ml_]);first|done|rfl|(simp only[List.length_drop,List.length_take];rfl)) ?_;(with_reducible refine (leaf_Encode.calls k1 E _ _ x4_1 t402 t403 _ ?side1 ?side2 ?side3 A42.out).mono ?_);(case side1=>exact (Glob.below HG.out (by repeat (first|exact upB HB.out|refine below_set ?_ GE371.out))));(case side2=>exact upC (Kd.R_reads' HO_4.out).2.2);(case side3=>exact (Kd.R_reads' HO_4.out).2.1);rintro e w74 ⟨rfl,hb⟩;refine ⟨_,rfl,?_⟩;have n0_:=Aside0.mk (Kd.R_below (upK HO_4.out) hb);have n1_:=Aside0.mk (Kd.R_below (upK HO_5.out) hb);have n2_:=Aside0.mk (blk_below (g:=gb371) (o:=.cells #[.slice A0_0 l0_0.length c0_0,.string a0_1,.string a0_2,.bool a0_3] 24 (0,0)) (upX BK371.out) hb);have n3_:=Aside0.mk (below_step (by repeat (first|exact upB HB.out|refine below_set ?_ GE371.out)) hb);clear HO_4;clear HO_5;clear BK371;clear HB;have HO_4:=n0_;have HO_5:=n1_;have BK371:=n2_;have HB:=n3_;clear n0_ n1_ n2_ n3_;(try clear hb);(try clear hb2);(try clear hk);(try clear hi);(try simp only[errW_none,errW_some]);obtain⟨Ao75,co75,eo75⟩:=Kd.R_slice HO_5.out;subst eo75)|((with_reducible refine gate_callee (f:=22) rfl ?_);refine goesL_ (some 98) rfl rfl Tryd.func22 (by kernel_rfl) rfl #[.slice Ao75 x5_1.length co75] rfl (by (try simp only[ml_]);first|done|rfl|(simp only[List.length_drop,List.length_take];rfl)) ?_;(with_reducible refine (copseref7_Encode.calls k1 _ _ x5_1 t404 t405 _ ?side1 ?side2 A43.out).mono ?_);(case side1=>exact upC (Kd.R_reads' HO_5.out).2.2);(case side2=>exact (Kd.R_reads' HO_5.out).2.1);rintro e w76 ⟨rfl,hb⟩;refine ⟨_,rfl,?_⟩;have n0_:=Aside0.mk (Kd.R_below (upK HO_4.out) hb);have n1_:=Aside0.mk (Kd.R_below (upK HO_5.out) hb);have n2_:=Aside0.mk (blk_below (g:=gb371) (o:=.cells #[.slice A0_0 l0_0.length c0_0,.string a0_1,.string a0_2,.bool a0_3] 24 (0,0)) (upX BK371.out) hb);have n3_:=Aside0.mk (below_step (by repeat (first|exact upB HB.out|refine below_set ?_ GE371.out)) hb);clear HO_4;clear HO_5;clear BK371;clear HB;have HO_4:=n0_;have HO_5:=n1_;have BK371:=n2_;have HB:=n3_;clear n0_ n1_ n2_ n3_;(try clear hb);(try clear hb2);(try clear hk);(try clear hi);have hcz77_0:w76.cell? ⟨gb371,0,none⟩=some (.slice A0_0 l0_0.length c0_0):=(blk_cell BK371.out 0).trans rfl;have hcz77_1:w76.cell? ⟨gb371,1,none⟩=some (.string a0_1):=(blk_cell BK371.out 1).trans rfl;have hcz77_2:w76.cell? ⟨gb371,2,none⟩=some (.string a0_2):=(blk_cell BK371.out 2).trans rfl;have hcz77_3:w76.cell? ⟨gb371,3,none⟩=some (.bool a0_3):=(blk_cell BK371.out 3).trans rfl;have hfz77_0:=blk_frozen BK371.out 0;have hfz77_1:=blk_frozen BK371.out 1;have hfz77_2:=blk_frozen BK371.out 2;have hfz77_3:=blk_frozen BK371.out 3)|((with_reducible refine gate_callee (f:=28) rfl ?_);refine goesL_ (some 105) rfl rfl Tryd.func28 (by kernel_rfl) rfl #[.slice Ao14 x4_1.length co14,.string a0_1] rfl (by (try simp only[ml_]);first|done|rfl|(simp only[List.length_drop,List.length_take];rfl)) ?_;(with_reducible refine (leaf_Find.calls _ _ x4_1 a0_1 t406 t407 _ ?side1 ?side2 A44.out).mono ?_);(case side1=>exact upC (Kd.R_reads' HO_4.out).2.2);(case side2=>exact (Kd.R_reads' HO_4.out).2.1);rintro e w78 ⟨rfl,hb⟩;refine ⟨_,rfl,?_⟩;have n0_:=Aside0.mk (Kd.R_below (upK HO_4.out) hb);have n1_:=Aside0.mk (Kd.R_below (upK HO_5.out) hb);have n2_:=Aside0.mk (blk_below (g:=gb371) (o:=.cells #[.slice A0_0 l0_0.length c0_0,.string a0_1,.string a0_2,.bool a0_3] 24 (0,0)) (upX BK371.out) hb);have n3_:=Aside0.mk (below_step (by repeat (first|exact upB HB.out|refine below_set ?_ GE371.out)) hb);clear HO_4;clear HO_5;clear BK371;clear HB;have HO_4:=n0_;have HO_5:=n1_;have BK371:=n2_;have HB:=n3_;clear n0_ n1_ n2_ n3_;(try clear hb);(try clear hb2);(try clear hk);(try clear hi);have hcz79_0:w78.cell? ⟨gb371,0,none⟩=some (.slice A0_0 l0_0.length c0_0):=(blk_cell BK371.out 0).trans rfl;have hcz79_1:w78.cell? ⟨gb371,1,none⟩=some (.string a0_1):=(blk_cell BK371.out 1).trans rfl;have hcz79_2:w78.cell? ⟨gb371,2,none⟩=some (.string a0_2):=(blk_cell BK371.out 2).trans rfl;have hcz79_3:w78.cell? ⟨gb371,3,none⟩=some (.bool a0_3):=(blk_cell BK371.out 3).trans rfl;have hfz79_0:=blk_frozen BK371.out 0;have hfz79_1:=blk_frozen BK371.out 1;have hfz79_2:=blk_frozen BK371.out 2;have hfz79_3:=blk_frozen BK371.out 3)|((with_reducible refine gate_callee (f:=49) rfl ?_);refine goesL_ (some 112) rfl rfl Tryd.func49 (by kernel_rfl) rfl #[.slice Ao75 x5_1.length co75,.string a0_1] rfl (by (try simp only[ml_]);first|done|rfl|(simp only[List.length_drop,List.length_take];rfl)) ?_;(with_reducible refine (copseref7_Find.calls k1 _ _ x5_1 a0_1 t408 t409 _ ?side1 ?side2 A45.out).mono ?_);(case side1=>exact upC (Kd.R_reads' HO_5.out).2.2);(case side2=>exact (Kd.R_reads' HO_5.out).2.1);rintro e w' ⟨rfl,⟨nd,rfl⟩⟩;refine ⟨_,rfl,?_⟩)|((with_reducible refine gate_callee (f:=29) rfl ?_);refine goesL_ (some 119) rfl rfl Tryd.func29 (by kernel_rfl) rfl #[.slice Ao14 x4_1.length co14,.string a0_1] rfl (by (try simp only[ml_]);first|done|rfl|(simp only[List.length_drop,List.length_take];rfl)) ?_;(with_reducible refine (leaf_Drop.calls _ _ x4_1 a0_1 t410 t411 _ ?side1 ?side2 A46.out).mono ?_);(case side1=>exact upC (Kd.R_reads' HO_4.out).2.2);(case side2=>exact (Kd.R_reads' HO_4.out).2.1);rintro e w80 ⟨v412,rfl,ho0,hb⟩;refine ⟨_,rfl,?_⟩;have n0_:=Aside0.mk (Kd.R_elder' (upK HO_4.out) (Kd.R_base ho0) hb);have n1_:=Aside0.mk (Kd.R_elder' (upK HO_5.out) (Kd.R_base ho0) hb);have n2_:=Aside0.mk (Kd.R_lower (Kd.R_new' (Kd.R_new' ho0 (Kd.R_lt (upK HO_4.out))) (Kd.R_lt (upK HO_5.out))) (below_size (by repeat (first|exact upB HB.out|refine below_set ?_ GE371.out))));have n3_:=Aside0.mk (blk_below (g:=gb371) (o:=.cells #[.slice A0_0 l0_0.length c0_0,.string a0_1,.string a0_2,.bool a0_3] 24 (0,0)) (upX BK371.out) hb);have n4_:=Aside0.mk (below_step (by repeat (first|exact upB HB.out|refine below_set ?_ GE371.out)) hb);clear HO_4;clear HO_5;clear BK371;clear HB;have HO_4:=n0_;have HO_5:=n1_;have HO413:=n2_;have BK371:=n3_;have HB:=n4_;clear n0_ n1_ n2_ n3_ n4_;(try clear hb);(try clear hb2);(try clear hk);(try clear hi);(try clear ho0);have hcz81_0:w80.cell? ⟨gb371,0,none⟩=some (.slice A0_0 l0_0.length c0_0):=(blk_cell BK371.out 0).trans rfl;have hcz81_1:w80.cell? ⟨gb371,1,none⟩=some (.string a0_1):=(blk_cell BK371.out 1).trans rfl;have hcz81_2:w80.cell? ⟨gb371,2,none⟩=some (.string a0_2):=(blk_cell BK371.out 2).trans rfl;have hcz81_3:w80.cell? ⟨gb371,3,none⟩=some (.bool a0_3):=(blk_cell BK371.out 3).trans rfl;have hfz81_0:=blk_frozen BK371.out 0;have hfz81_1:=blk_frozen BK371.out 1;have hfz81_2:=blk_frozen BK371.out 2;have hfz81_3:=blk_frozen BK371.out 3)|((with_reducible refine gate_callee (f:=50) rfl ?_);refine goesL_ (some 126) rfl rfl Tryd.func50 (by kernel_rfl) rfl #[.slice Ao75 x5_1.length co75,.string a0_1] rfl (by (try simp only[ml_]);first|done|rfl|(simp only[List.length_drop,List.length_take];rfl)) ?_;(with_reducible refine (copseref7_Drop.calls k1 _ _ x5_1 a0_1 t414 t415 _ ?side1 ?side2 A47.out).mono ?_);(case side1=>exact upC (Kd.R_reads' HO_5.out).2.2);(case side2=>exact (Kd.R_reads' HO_5.out).2.1);rintro e w82 ⟨v416,rfl,ho0,hb⟩;refine ⟨_,rfl,?_⟩;have n0_:=Aside0.mk (Kd.R_elder' (upK HO_4.out) (Kd.R_base ho0) hb);have n1_:=Aside0.mk (Kd.R_elder' (upK HO_5.out) (Kd.R_base ho0) hb);have n2_:=Aside0.mk (Kd.R_elder' (upK HO413.out) (Kd.R_base ho0) hb);have n3_:=Aside0.mk (Kd.R_lower (Kd.R_new' (Kd.R_new' (Kd.R_new' ho0 (Kd.R_lt (upK HO_4.out))) (Kd.R_lt (upK HO_5.out))) (Kd.R_lt (upK HO413.out))) (below_size (by repeat (first|exact upB HB.out|refine below_set ?_ GE371.out))));have n4_:=Aside0.mk (blk_below (g:=gb371) (o:=.cells #[.slice A0_0 l0_0.length c0_0,.string a0_1,.string a0_2,.bool a0_3] 24 (0,0)) (upX BK371.out) hb);have n5_:=Aside0.mk (below_step (by repeat (first|exact upB HB.out|refine below_set ?_ GE371.out)) hb);clear HO_4;clear HO_5;clear HO413;clear BK371;clear HB;have HO_4:=n0_;have HO_5:=n1_;have HO413:=n2_;have HO417:=n3_;have BK371:=n4_;have HB:=n5_;clear n0_ n1_ n2_ n3_ n4_ n5_;(try clear hb);(try clear hb2);(try clear hk);(try clear hi);(try clear ho0))|((with_reducible refine gate_callee (f:=18) rfl ?_);refine goesL_ (some 131) rfl rfl Tryd.func18 (by kernel_rfl) rfl #[.slice Ao14 x4_1.length co14] rfl (by (try simp only[ml_]);first|done|rfl|(simp only[List.length_drop,List.length_take];rfl)) ?_;(with_reducible refine (leaf_Cut.calls k1 E _ _ x4_1 t418 t419 t420 _ ?side1 ?side2 ?side3 A48.out).mono ?_);(case side1=>exact (Glob.below HG.out (by repeat (first|exact upB HB.out|refine below_set ?_ GE371.out))));(case side2=>exact upC (Kd.R_reads' HO_4.out).2.2);(case side3=>exact (Kd.R_reads' HO_4.out).2.1);rintro e w83 ⟨v421,v423,rfl,ho0,ho1,hb⟩;refine ⟨_,rfl,?_⟩;have n0_:=Aside0.mk (Kd.R_mono (Kd.R_told (Kd.R_told (Kd.R_old (upK HO_4.out) hb) (Kd.R_base ho0)) (Kd.R_base ho1)) (fun _ h_=>h_.1));have n1_:=Aside0.mk (Kd.R_mono (Kd.R_told (Kd.R_told (Kd.R_old (upK HO_5.out) hb) (Kd.R_base ho0)) (Kd.R_base ho1)) (fun _ h_=>h_.1));have n2_:=Aside0.mk (Kd.R_mono (Kd.R_told (Kd.R_told (Kd.R_old (upK HO413.out) hb) (Kd.R_base ho0)) (Kd.R_base ho1)) (fun _ h_=>h_.1));have n3_:=Aside0.mk (Kd.R_mono (Kd.R_told (Kd.R_told (Kd.R_old (upK HO417.out) hb) (Kd.R_base ho0)) (Kd.R_base ho1)) (fun _ h_=>h_.1));have n4_:=Aside0.mk (Kd.R_lower (Kd.R_new' (Kd.R_new' (Kd.R_new' (Kd.R_new' ho0 (Kd.R_lt (upK HO_4.out))) (Kd.R_lt (upK HO_5.out))) (Kd.R_lt (upK HO413.out))) (Kd.R_lt (upK HO417.out))) (below_size (by repeat (first|exact upB HB.out|refine below_set ?_ GE371.out))));have n5_:=Aside0.mk (Kd.R_lower (Kd.R_new' (Kd.R_new' (Kd.R_new' (Kd.R_new' ho1 (Kd.R_lt (upK HO_4.out))) (Kd.R_lt (upK HO_5.out))) (Kd.R_lt (upK HO413.out))) (Kd.R_lt (upK HO417.out))) (below_size (by repeat (first|exact upB HB.out|refine below_set ?_ GE371.out))));have n6_:=Aside0.mk (blk_below (g:=gb371) (o:=.cells #[.slice A0_0 l0_0.length c0_0,.string a0_1,.string a0_2,.bool a0_3] 24 (0,0)) (upX BK371.out) hb);have n7_:=Aside0.mk (below_step (by repeat (first|exact upB HB.out|refine below_set ?_ GE371.out)) hb);clear HO_4;clear HO_5;clear HO413;clear HO417;clear BK371;clear HB;have HO_4:=n0_;have HO_5:=n1_;have HO413:=n2_;have HO417:=n3_;have HO422:=n4_;have HO424:=n5_;have BK371:=n6_;have HB:=n7_;clear n0_ n1_ n2_ n3_ n4_ n5_ n6_ n7_;(try clear hb);(try clear hb2);(try clear hk);(try clear hi);(try clear ho0);(try clear ho1);(try simp only[errW_none,errW_some]))|((with_reducible refine gate_callee (f:=19) rfl ?_);refine goesL_ (some 137) rfl rfl Tryd.func19 (by kernel_rfl) rfl #[.slice Ao75 x5_1.length co75] rfl (by (try simp only[ml_]);first|done|rfl|(simp only[List.length_drop,List.length_take];rfl)) ?_;(with_reducible refine (copseref7_Cut.calls k1 _ _ x5_1 t425 t426 t427 _ ?side1 ?side2 A49.out).mono ?_);(case side1=>exact upC (Kd.R_reads' HO_5.out).2.2);(case side2=>exact (Kd.R_reads' HO_5.out).2.1);rintro e w84 ⟨v428,v430,rfl,ho0,ho1,hb⟩;refine ⟨_,rfl,?_⟩;have n0_:=Aside0.mk (Kd.R_mono (Kd.R_told (Kd.R_told (Kd.R_old (upK HO_4.out) hb) (Kd.R_base ho0)) (Kd.R_base ho1)) (fun _ h_=>h_.1));have n1_:=Aside0.mk (Kd.R_mono (Kd.R_told (Kd.R_told (Kd.R_old (upK HO_5.out) hb) (Kd.R_base ho0)) (Kd.R_base ho1)) (fun _ h_=>h_.1));have n2_:=Aside0.mk (Kd.R_mono (Kd.R_told (Kd.R_told (Kd.R_old (upK HO413.out) hb) (Kd.R_base ho0)) (Kd.R_base ho1)) (fun _ h_=>h_.1));have n3_:=Aside0.mk (Kd.R_mono (Kd.R_told (Kd.R_told (Kd.R_old (upK HO417.out) hb) (Kd.R_base ho0)) (Kd.R_base ho1)) (fun _ h_=>h_.1));have n4_:=Aside0.mk (Kd.R_mono (Kd.R_told (Kd.R_told (Kd.R_old (upK HO422.out) hb) (Kd.R_base ho0)) (Kd.R_base ho1)) (fun _ h_=>h_.1));have n5_:=Aside0.mk (Kd.R_mono (Kd.R_told (Kd.R_told (Kd.R_old (upK HO424.out) hb) (Kd.R_base ho0)) (Kd.R_base ho1)) (fun _ h_=>h_.1));have n6_:=Aside0.mk (Kd.R_lower (Kd.R_new' (Kd.R_new' (Kd.R_new' (Kd.R_new' (Kd.R_new' (Kd.R_new' ho0 (Kd.R_lt (upK HO_4.out))) (Kd.R_lt (upK HO_5.out))) (Kd.R_lt (upK HO413.out))) (Kd.R_lt (upK HO417.out))) (Kd.R_lt (upK HO422.out))) (Kd.R_lt (upK HO424.out))) (below_size (by repeat (first|exact upB HB.out|refine below_set ?_ GE371.out))));have n7_:=Aside0.mk (Kd.R_lower (Kd.R_new' (Kd.R_new' (Kd.R_new' (Kd.R_new' (Kd.R_new' (Kd.R_new' ho1 (Kd.R_lt (upK HO_4.out))) (Kd.R_lt (upK HO_5.out))) (Kd.R_lt (upK HO413.out))) (Kd.R_lt (upK HO417.out))) (Kd.R_lt (upK HO422.out))) (Kd.R_lt (upK HO424.out))) (below_size (by repeat (first|exact upB HB.out|refine below_set ?_ GE371.out))));have n8_:=Aside0.mk (blk_below (g:=gb371) (o:=.cells #[.slice A0_0 l0_0.length c0_0,.string a0_1,.string a0_2,.bool a0_3] 24 (0,0)) (upX BK371.out) hb);have n9_:=Aside0.mk (below_step (by repeat (first|exact upB HB.out|refine below_set ?_ GE371.out)) hb);clear HO_4;clear HO_5;clear HO413;clear HO417;clear HO422;clear HO424;clear BK371;clear HB;have HO_4:=n0_;have HO_5:=n1_;have HO413:=n2_;have HO417:=n3_;have HO422:=n4_;have HO424:=n5_;have HO429:=n6_;have HO431:=n7_;have BK371:=n8_;have HB:=n9_;clear n0_ n1_ n2_ n3_ n4_ n5_ n6_ n7_ n8_ n9_;(try clear hb);(try clear hb2);(try clear hk);(try clear hi);(try clear ho0);(try clear ho1)))
               have n0_:=Aside0.mk (Kd.R_drew HO_4.out)
               have n1_:=Aside0.mk (Kd.R_drew HO_5.out)
               have n2_:=Aside0.mk (Kd.R_drew HO413.out)
               have n3_:=Aside0.mk (Kd.R_drew HO417.out)
               have n4_:=Aside0.mk (Kd.R_drew HO422.out)
               have n5_:=Aside0.mk (Kd.R_drew HO424.out)
               have n6_:=Aside0.mk (Kd.R_drew HO429.out)
               have n7_:=Aside0.mk (Kd.R_drew HO431.out)
               have n8_:=Aside0.mk (blk_drew BK371.out)
               have n9_:=Aside0.mk (below_drew1 HB.out)
               clear HO_4
               clear HO_5
               clear HO413
               clear HO417
               clear HO422
               clear HO424
               clear HO429
               clear HO431
               clear BK371
               clear HB
               have HO_4:=n0_
               have HO_5:=n1_
               have HO413:=n2_
               have HO417:=n3_
               have HO422:=n4_
               have HO424:=n5_
               have HO429:=n6_
               have HO431:=n7_
               have BK371:=n8_
               have HB:=n9_
               clear n0_ n1_ n2_ n3_ n4_ n5_ n6_ n7_ n8_ n9_
               refine start_ (n:=14) (S:=fun w'=>w'.cell? ⟨gb371,0,none⟩=some (.slice A0_0 l0_0.length c0_0)∧w'.cell? ⟨gb371,1,none⟩=some (.string a0_1)∧w'.cell? ⟨gb371,2,none⟩=some (.string a0_2)∧w'.cell? ⟨gb371,3,none⟩=some (.bool a0_3)) (ds:=[]) #[false,false,false,false,false,false,false,false,false,false,false,false,false,false] (by kernel_rfl) rfl rfl ⟨(blk_cell BK371.out 0).trans rfl,(blk_cell BK371.out 1).trans rfl,(blk_cell BK371.out 2).trans rfl,(blk_cell BK371.out 3).trans rfl⟩ (fun hHeld=>?_);refine with_tabW copselaw7_stale.tab25 copselaw7_stale.bits25 (fun HT_ HW_=>?_)
               generalize w84.drew=w85 at HO_4 HO_5 HO413 HO417 HO422 HO424 HO429 HO431 BK371 HB hHeld ⊢
               refine pure_ (i:=0) (N:=some 141) (v:=?_) (a':=?_) #[true,false,false,false,false,false,false,false,false,false,false,false,false,false] rfl rfl (any_of HT_.out (by kernel_rfl)) (fun _ _ _ h=>h) (Or.inl ⟨by rfl,?_⟩) ?_ ?_
               rotate_left
               ·
                intro w'
                go_simp
                with_reducible rfl
               rotate_left
               ·
                simp only[pt_]
                rfl
               refine pure_ (i:=1) (N:=some 142) (v:=?_) (a':=?_) #[true,true,false,false,false,false,false,false,false,false,false,false,false,false] rfl rfl (any_of HT_.out (by kernel_rfl)) (fun _ _ _ h=>h) (Or.inl ⟨by rfl,?_⟩) ?_ ?_
               rotate_left
               ·
                intro w'
                go_simp
                with_reducible rfl
               rotate_left
               ·
                simp only[pt_]
                rfl
               refine pure_ (i:=3) (N:=some 144) (v:=?_) (a':=?_) #[true,true,false,true,false,false,false,false,false,false,false,false,false,false] rfl rfl (any_of HT_.out (by kernel_rfl)) (fun _ _ _ h=>h) (Or.inl ⟨by rfl,?_⟩) ?_ ?_
               rotate_left
               ·
                intro w'
                go_simp
                with_reducible rfl
               rotate_left
               ·
                simp only[pt_]
                rfl
               refine pure_ (i:=6) (N:=some 147) (v:=?_) (a':=?_) #[true,true,false,true,false,false,true,false,false,false,false,false,false,false] rfl rfl (any_of HT_.out (by kernel_rfl)) (fun _ _ _ h=>h) (Or.inl ⟨by rfl,?_⟩) ?_ ?_
               rotate_left
               ·
                intro w'
                go_simp
                with_reducible rfl
               rotate_left
               ·
                simp only[pt_]
                rfl
               refine pure_ (i:=7) (N:=some 148) (v:=?_) (a':=?_) #[true,true,false,true,false,false,true,true,false,false,false,false,false,false] rfl rfl (any_of HT_.out (by kernel_rfl)) (fun _ _ _ h=>h) (Or.inl ⟨by rfl,?_⟩) ?_ ?_
               rotate_left
               ·
                intro w'
                go_simp
                with_reducible rfl
               rotate_left
               ·
                simp only[pt_]
                rfl
               refine pure_ (i:=9) (N:=some 150) (v:=?_) (a':=?_) #[true,true,false,true,false,false,true,true,false,true,false,false,false,false] rfl rfl (any_of HT_.out (by kernel_rfl)) (fun _ _ _ h=>h) (Or.inl ⟨by rfl,?_⟩) ?_ ?_
               rotate_left
               ·
                intro w'
                go_simp
                with_reducible rfl
               rotate_left
               ·
                simp only[pt_]
                rfl
               refine take_ (i:=2) (N:=some 143) (v:=?_) (a':=?_) #[true,true,true,true,false,false,true,true,false,true,false,false,false,false] rfl rfl (take_ofW HT_.out HW_.out (by kernel_rfl)) (fun _ _ _ h=>h) (Or.inl ⟨by rfl,?_⟩) hHeld ?_ ?_
               rotate_left
               ·
                rintro w' ⟨s0,s1,s2,s3⟩
                go_simp
                with_reducible rfl
               rotate_left
               ·
                simp only[pt_]
                rfl
               refine take_ (i:=4) (N:=some 145) (v:=?_) (a':=?_) #[true,true,true,true,true,false,true,true,false,true,false,false,false,false] rfl rfl (take_ofW HT_.out HW_.out (by kernel_rfl)) (fun _ _ _ h=>h) (Or.inl ⟨by rfl,?_⟩) hHeld ?_ ?_
               rotate_left
               ·
                rintro w' ⟨s0,s1,s2,s3⟩
                go_simp
                with_reducible rfl
               rotate_left
               ·
                simp only[pt_]
                rfl
               refine take_ (i:=8) (N:=some 149) (v:=?_) (a':=?_) #[true,true,true,true,true,false,true,true,true,true,false,false,false,false] rfl rfl (take_ofW HT_.out HW_.out (by kernel_rfl)) (fun _ _ _ h=>h) (Or.inl ⟨by rfl,?_⟩) hHeld ?_ ?_
               rotate_left
               ·
                rintro w' ⟨s0,s1,s2,s3⟩
                go_simp
                with_reducible rfl
               rotate_left
               ·
                simp only[pt_]
                rfl
               refine take_ (i:=10) (N:=some 151) (v:=?_) (a':=?_) #[true,true,true,true,true,false,true,true,true,true,true,false,false,false] rfl rfl (take_ofW HT_.out HW_.out (by kernel_rfl)) (fun _ _ _ h=>h) (Or.inl ⟨by rfl,?_⟩) hHeld ?_ ?_
               rotate_left
               ·
                rintro w' ⟨s0,s1,s2,s3⟩
                go_simp
                with_reducible rfl
               rotate_left
               ·
                simp only[pt_]
                rfl
               refine one_ (i:=5) (N:=some 146) #[true,true,true,true,true,true,true,true,true,true,true,false,false,false] rfl rfl (one_of HT_.out (by kernel_rfl)) (by decide) (fun K hK=>?_)
               refine goes_ Tryd.func27 (by kernel_rfl) rfl #[.slice Ao14 x4_1.length co14,.string a0_1,.string a0_2] (by rfl) rfl rfl (by (try simp only[ml_]);first|done|rfl|(simp only[List.length_drop,List.length_take];rfl)) ?_
               with_reducible refine (leaf_Set.calls _ _ x4_1 a0_1 a0_2 t432 _ ?side1 ?side2 A50.out).mono ?_
               (case side1=>exact upC (Kd.R_reads' HO_4.out).2.2)
               (case side2=>exact (Kd.R_reads' HO_4.out).2.1)
               rintro e w86 ⟨v433,rfl,ho0,hb⟩
               refine ⟨_,rfl,?_⟩
               have n0_:=Aside0.mk (Kd.R_elder' (upK HO_4.out) (Kd.R_base ho0) hb)
               have n1_:=Aside0.mk (Kd.R_elder' (upK HO_5.out) (Kd.R_base ho0) hb)
               have n2_:=Aside0.mk (Kd.R_elder' (upK HO413.out) (Kd.R_base ho0) hb)
               have n3_:=Aside0.mk (Kd.R_elder' (upK HO417.out) (Kd.R_base ho0) hb)
               have n4_:=Aside0.mk (Kd.R_elder' (upK HO422.out) (Kd.R_base ho0) hb)
               have n5_:=Aside0.mk (Kd.R_elder' (upK HO424.out) (Kd.R_base ho0) hb)
               have n6_:=Aside0.mk (Kd.R_elder' (upK HO429.out) (Kd.R_base ho0) hb)
               have n7_:=Aside0.mk (Kd.R_elder' (upK HO431.out) (Kd.R_base ho0) hb)
               have n8_:=Aside0.mk (Kd.R_lower (Kd.R_new' (Kd.R_new' (Kd.R_new' (Kd.R_new' (Kd.R_new' (Kd.R_new' (Kd.R_new' (Kd.R_new' ho0 (Kd.R_lt (upK HO_4.out))) (Kd.R_lt (upK HO_5.out))) (Kd.R_lt (upK HO413.out))) (Kd.R_lt (upK HO417.out))) (Kd.R_lt (upK HO422.out))) (Kd.R_lt (upK HO424.out))) (Kd.R_lt (upK HO429.out))) (Kd.R_lt (upK HO431.out))) (below_size (by repeat (first|exact upB HB.out|refine below_set ?_ GE371.out))))
               have n9_:=Aside0.mk (blk_below (g:=gb371) (o:=.cells #[.slice A0_0 l0_0.length c0_0,.string a0_1,.string a0_2,.bool a0_3] 24 (0,0)) (upX BK371.out) hb)
               have n10_:=Aside0.mk (below_step (by repeat (first|exact upB HB.out|refine below_set ?_ GE371.out)) hb)
               clear HO_4
               clear HO_5
               clear HO413
               clear HO417
               clear HO422
               clear HO424
               clear HO429
               clear HO431
               clear BK371
               clear HB
               have HO_4:=n0_
               have HO_5:=n1_
               have HO413:=n2_
               have HO417:=n3_
               have HO422:=n4_
               have HO424:=n5_
               have HO429:=n6_
               have HO431:=n7_
               have HO434:=n8_
               have BK371:=n9_
               have HB:=n10_
               clear n0_ n1_ n2_ n3_ n4_ n5_ n6_ n7_ n8_ n9_ n10_
               (try clear hb)
               (try clear hb2)
               (try clear hk)
               (try clear hi)
               (try clear ho0)
               refine hK.out _ _ ⟨(blk_cell BK371.out 0).trans rfl,(blk_cell BK371.out 1).trans rfl,(blk_cell BK371.out 2).trans rfl,(blk_cell BK371.out 3).trans rfl⟩ (fun hHeld=>?_)
               clear hK K
               refine norm_ (a':=?_) ?_ ?_
               rotate_left
               ·
                show Act.put _ (some 146) _=_
                simp only[pt_]
                rfl
               refine one_ (i:=11) (N:=some 152) #[true,true,true,true,true,true,true,true,true,true,true,true,false,false] rfl rfl (one_of HT_.out (by kernel_rfl)) (by decide) (fun K hK=>?_)
               refine goes_ Tryd.func51 (by kernel_rfl) rfl #[.slice Ao75 x5_1.length co75,.string a0_1,.string a0_2] (by rfl) rfl rfl (by (try simp only[ml_]);first|done|rfl|(simp only[List.length_drop,List.length_take];rfl)) ?_
               with_reducible refine (copseref7_Set.calls k1 _ _ x5_1 a0_1 a0_2 t435 _ ?side1 ?side2 A51.out).mono ?_
               (case side1=>exact upC (Kd.R_reads' HO_5.out).2.2)
               (case side2=>exact (Kd.R_reads' HO_5.out).2.1)
               rintro e w87 ⟨v436,rfl,ho0,hb⟩
               refine ⟨_,rfl,?_⟩
               have n0_:=Aside0.mk (Kd.R_elder' (upK HO_4.out) (Kd.R_base ho0) hb)
               have n1_:=Aside0.mk (Kd.R_elder' (upK HO_5.out) (Kd.R_base ho0) hb)
               have n2_:=Aside0.mk (Kd.R_elder' (upK HO413.out) (Kd.R_base ho0) hb)
               have n3_:=Aside0.mk (Kd.R_elder' (upK HO417.out) (Kd.R_base ho0) hb)
               have n4_:=Aside0.mk (Kd.R_elder' (upK HO422.out) (Kd.R_base ho0) hb)
               have n5_:=Aside0.mk (Kd.R_elder' (upK HO424.out) (Kd.R_base ho0) hb)
               have n6_:=Aside0.mk (Kd.R_elder' (upK HO429.out) (Kd.R_base ho0) hb)
               have n7_:=Aside0.mk (Kd.R_elder' (upK HO431.out) (Kd.R_base ho0) hb)
               have n8_:=Aside0.mk (Kd.R_elder' (upK HO434.out) (Kd.R_base ho0) hb)
               have n9_:=Aside0.mk (Kd.R_lower (Kd.R_new' (Kd.R_new' (Kd.R_new' (Kd.R_new' (Kd.R_new' (Kd.R_new' (Kd.R_new' (Kd.R_new' (Kd.R_new' ho0 (Kd.R_lt (upK HO_4.out))) (Kd.R_lt (upK HO_5.out))) (Kd.R_lt (upK HO413.out))) (Kd.R_lt (upK HO417.out))) (Kd.R_lt (upK HO422.out))) (Kd.R_lt (upK HO424.out))) (Kd.R_lt (upK HO429.out))) (Kd.R_lt (upK HO431.out))) (Kd.R_lt (upK HO434.out))) (below_size (by repeat (first|exact upB HB.out|refine below_set ?_ GE371.out))))
               have n10_:=Aside0.mk (blk_below (g:=gb371) (o:=.cells #[.slice A0_0 l0_0.length c0_0,.string a0_1,.string a0_2,.bool a0_3] 24 (0,0)) (upX BK371.out) hb)
               have n11_:=Aside0.mk (below_step (by repeat (first|exact upB HB.out|refine below_set ?_ GE371.out)) hb)
               clear HO_4
               clear HO_5
               clear HO413
               clear HO417
               clear HO422
               clear HO424
               clear HO429
               clear HO431
               clear HO434
               clear BK371
               clear HB
               have HO_4:=n0_
               have HO_5:=n1_
               have HO413:=n2_
               have HO417:=n3_
               have HO422:=n4_
               have HO424:=n5_
               have HO429:=n6_
               have HO431:=n7_
               have HO434:=n8_
               have HO437:=n9_
               have BK371:=n10_
               have HB:=n11_
               clear n0_ n1_ n2_ n3_ n4_ n5_ n6_ n7_ n8_ n9_ n10_ n11_
               (try clear hb)
               (try clear hb2)
               (try clear hk)
               (try clear hi)
               (try clear ho0)
               obtain⟨Ao88,co88,eo88⟩:=Kd.R_slice HO434.out
               (first|subst eo88|(injection eo88 with f1_ f2_ f3_;have f4_:=f1_.symm;have f5_:=f3_.symm;clear f1_ f2_ f3_;subst f4_;subst f5_))
               obtain⟨Ao89,co89,eo89⟩:=Kd.R_slice HO437.out
               (first|subst eo89|(injection eo89 with f1_ f2_ f3_;have f4_:=f1_.symm;have f5_:=f3_.symm;clear f1_ f2_ f3_;subst f4_;subst f5_))
               refine hK.out _ _ ⟨(blk_cell BK371.out 0).trans rfl,(blk_cell BK371.out 1).trans rfl,(blk_cell BK371.out 2).trans rfl,(blk_cell BK371.out 3).trans rfl⟩ (fun hHeld=>?_)
               clear hK K
               refine norm_ (a':=?_) ?_ ?_
               rotate_left
               ·
                show Act.put _ (some 152) _=_
                simp only[pt_]
                rfl
               refine one_ (i:=12) (N:=some 153) #[true,true,true,true,true,true,true,true,true,true,true,true,true,false] rfl rfl (one_of HT_.out (by kernel_rfl)) (by decide) (fun K hK=>?_)
               refine goes_ Tryd.func20 (by kernel_rfl) rfl #[.slice Ao88 t432.length co88,.slice Ao89 t435.length co89] (by rfl) rfl rfl (by (try simp only[ml_]);first|done|rfl|(simp only[List.length_drop,List.length_take];rfl)) ?_
               with_reducible refine (copseref0_SamePairs.calls k1 _ _ t432 _ _ t435 true _ ?side1 ?side2 ?side3 ?side4 A52.out).mono ?_
               (case side1=>exact upC (Kd.R_reads' HO434.out).2.2)
               (case side2=>exact (Kd.R_reads' HO434.out).2.1)
               (case side3=>exact upC (Kd.R_reads' HO437.out).2.2)
               (case side4=>exact (Kd.R_reads' HO437.out).2.1)
               rintro e w' ⟨rfl,⟨nd,rfl⟩⟩
               refine ⟨_,rfl,?_⟩
               refine hK.out _ _ ⟨(blk_cell BK371.out 0).trans rfl,(blk_cell BK371.out 1).trans rfl,(blk_cell BK371.out 2).trans rfl,(blk_cell BK371.out 3).trans rfl⟩ (fun hHeld=>?_)
               clear hK K
               refine norm_ (a':=?_) ?_ ?_
               rotate_left
               ·
                show Act.put _ (some 153) _=_
                simp only[pt_]
                rfl
               refine pure_ (i:=13) (N:=some 26) (v:=?_) (a':=?_) #[true,true,true,true,true,true,true,true,true,true,true,true,true,true] rfl rfl (any_of HT_.out (by kernel_rfl)) (fun _ _ _ h=>h) (Or.inl ⟨by rfl,?_⟩) ?_ ?_
               rotate_left
               ·
                intro w'
                go_simp
                with_reducible rfl
               rotate_left
               ·
                simp only[pt_]
                rfl
               refine done_ (done_of HT_.out (by kernel_rfl)) ?_
               obtain⟨Ao90,co90,eo90⟩:=Kd.R_slice HO413.out
               subst eo90
               obtain⟨Ao91,co91,eo91⟩:=Kd.R_slice HO417.out
               subst eo91
               try go_wp2_with (first|((with_reducible refine gate_callee (f:=20) rfl ?_);refine goesL_ (some 156) rfl rfl Tryd.func20 (by kernel_rfl) rfl #[.slice Ao90 t410.length co90,.slice Ao91 t414.length co91] rfl (by (try simp only[ml_]);first|done|rfl|(simp only[List.length_drop,List.length_take];rfl)) ?_;(with_reducible refine (copseref0_SamePairs.calls k1 _ _ t410 _ _ t414 true _ ?side1 ?side2 ?side3 ?side4 A53.out).mono ?_);(case side1=>exact upC (Kd.R_reads' HO413.out).2.2);(case side2=>exact (Kd.R_reads' HO413.out).2.1);(case side3=>exact upC (Kd.R_reads' HO417.out).2.2);(case side4=>exact (Kd.R_reads' HO417.out).2.1);rintro e w' ⟨rfl,⟨nd,rfl⟩⟩;refine ⟨_,rfl,?_⟩;obtain⟨Ao92,co92,eo92⟩:=Kd.R_slice HO422.out;subst eo92;obtain⟨Ao93,co93,eo93⟩:=Kd.R_slice HO429.out;subst eo93)|((with_reducible refine gate_callee (f:=20) rfl ?_);refine goesL_ (some 159) rfl rfl Tryd.func20 (by kernel_rfl) rfl #[.slice Ao92 t418.length co92,.slice Ao93 t425.length co93] rfl (by (try simp only[ml_]);first|done|rfl|(simp only[List.length_drop,List.length_take];rfl)) ?_;(with_reducible refine (copseref0_SamePairs.calls k1 _ _ t418 _ _ t425 true _ ?side1 ?side2 ?side3 ?side4 A54.out).mono ?_);(case side1=>exact upC (Kd.R_reads' HO422.out).2.2);(case side2=>exact (Kd.R_reads' HO422.out).2.1);(case side3=>exact upC (Kd.R_reads' HO429.out).2.2);(case side4=>exact (Kd.R_reads' HO429.out).2.1);rintro e w' ⟨rfl,⟨nd,rfl⟩⟩;refine ⟨_,rfl,?_⟩;obtain⟨Ao94,co94,eo94⟩:=Kd.R_slice HO424.out;subst eo94;obtain⟨Ao95,co95,eo95⟩:=Kd.R_slice HO431.out;subst eo95)|((with_reducible refine gate_callee (f:=20) rfl ?_);refine goesL_ (some 162) rfl rfl Tryd.func20 (by kernel_rfl) rfl #[.slice Ao94 t419.length co94,.slice Ao95 t426.length co95] rfl (by (try simp only[ml_]);first|done|rfl|(simp only[List.length_drop,List.length_take];rfl)) ?_;(with_reducible refine (copseref0_SamePairs.calls k1 _ _ t419 _ _ t426 true _ ?side1 ?side2 ?side3 ?side4 A55.out).mono ?_);(case side1=>exact upC (Kd.R_reads' HO424.out).2.2);(case side2=>exact (Kd.R_reads' HO424.out).2.1);(case side3=>exact upC (Kd.R_reads' HO431.out).2.2);(case side4=>exact (Kd.R_reads' HO431.out).2.1);rintro e w' ⟨rfl,⟨nd,rfl⟩⟩;refine ⟨_,rfl,?_⟩))
               (try (rw[drewN_self w87];generalize hq_:World.drewN w87 _=w87;have n0_:Aside0 (Kd.R k58 58 w87 w.heap.size (fun k_=>some k_≠(.slice Ao91 t414.length co91:Value).ownBlock∧some k_≠(.slice Ao92 t418.length co92:Value).ownBlock∧some k_≠(.slice Ao94 t419.length co94:Value).ownBlock∧some k_≠(.slice Ao93 t425.length co93:Value).ownBlock∧some k_≠(.slice Ao95 t426.length co95:Value).ownBlock∧some k_≠(.slice Ao88 t432.length co88:Value).ownBlock∧some k_≠(.slice Ao89 t435.length co89:Value).ownBlock∧some k_≠(.slice Ao14 x4_1.length co14:Value).ownBlock∧some k_≠(.slice Ao75 x5_1.length co75:Value).ownBlock) (.slice Ao90 t410.length co90) t410):=⟨by rw[←hq_];exact (by exact Kd.R_mono (upK HO413.out) (fun _ hk=>⟨hk.1.1.1.1.1.1.2,⟨hk.1.1.1.1.1.2,⟨hk.1.1.1.1.2,⟨hk.1.1.1.2,⟨hk.1.1.2,⟨hk.1.2,⟨hk.2,⟨hk.1.1.1.1.1.1.1.1.2,hk.1.1.1.1.1.1.1.2⟩⟩⟩⟩⟩⟩⟩⟩))⟩;have n1_:Aside0 (Kd.R k58 58 w87 w.heap.size (fun k_=>some k_≠(.slice Ao90 t410.length co90:Value).ownBlock∧some k_≠(.slice Ao92 t418.length co92:Value).ownBlock∧some k_≠(.slice Ao94 t419.length co94:Value).ownBlock∧some k_≠(.slice Ao93 t425.length co93:Value).ownBlock∧some k_≠(.slice Ao95 t426.length co95:Value).ownBlock∧some k_≠(.slice Ao88 t432.length co88:Value).ownBlock∧some k_≠(.slice Ao89 t435.length co89:Value).ownBlock∧some k_≠(.slice Ao14 x4_1.length co14:Value).ownBlock∧some k_≠(.slice Ao75 x5_1.length co75:Value).ownBlock) (.slice Ao91 t414.length co91) t414):=⟨by rw[←hq_];exact (by exact Kd.R_mono (upK HO417.out) (fun _ hk=>⟨hk.1.1.1.1.1.1.2,⟨hk.1.1.1.1.1.2,⟨hk.1.1.1.1.2,⟨hk.1.1.1.2,⟨hk.1.1.2,⟨hk.1.2,⟨hk.2,⟨hk.1.1.1.1.1.1.1.1.2,hk.1.1.1.1.1.1.1.2⟩⟩⟩⟩⟩⟩⟩⟩))⟩;have n2_:Aside0 (Kd.R k58 58 w87 w.heap.size (fun k_=>some k_≠(.slice Ao90 t410.length co90:Value).ownBlock∧some k_≠(.slice Ao91 t414.length co91:Value).ownBlock∧some k_≠(.slice Ao94 t419.length co94:Value).ownBlock∧some k_≠(.slice Ao93 t425.length co93:Value).ownBlock∧some k_≠(.slice Ao95 t426.length co95:Value).ownBlock∧some k_≠(.slice Ao88 t432.length co88:Value).ownBlock∧some k_≠(.slice Ao89 t435.length co89:Value).ownBlock∧some k_≠(.slice Ao14 x4_1.length co14:Value).ownBlock∧some k_≠(.slice Ao75 x5_1.length co75:Value).ownBlock) (.slice Ao92 t418.length co92) t418):=⟨by rw[←hq_];exact (by exact Kd.R_mono (upK HO422.out) (fun _ hk=>⟨hk.1.1.1.1.1.2,⟨hk.1.1.1.1.2,⟨hk.1.1.1.1.1.1.1.1,⟨hk.1.1.1.2,⟨hk.1.1.2,⟨hk.1.2,⟨hk.2,⟨hk.1.1.1.1.1.1.1.2,hk.1.1.1.1.1.1.2⟩⟩⟩⟩⟩⟩⟩⟩))⟩;have n3_:Aside0 (Kd.R k58 58 w87 w.heap.size (fun k_=>some k_≠(.slice Ao90 t410.length co90:Value).ownBlock∧some k_≠(.slice Ao91 t414.length co91:Value).ownBlock∧some k_≠(.slice Ao92 t418.length co92:Value).ownBlock∧some k_≠(.slice Ao93 t425.length co93:Value).ownBlock∧some k_≠(.slice Ao95 t426.length co95:Value).ownBlock∧some k_≠(.slice Ao88 t432.length co88:Value).ownBlock∧some k_≠(.slice Ao89 t435.length co89:Value).ownBlock∧some k_≠(.slice Ao14 x4_1.length co14:Value).ownBlock∧some k_≠(.slice Ao75 x5_1.length co75:Value).ownBlock) (.slice Ao94 t419.length co94) t419):=⟨by rw[←hq_];exact (by exact Kd.R_mono (upK HO424.out) (fun _ hk=>⟨hk.1.1.1.1.1.2,⟨hk.1.1.1.1.2,⟨hk.1.1.1.1.1.1.1.1,⟨hk.1.1.1.2,⟨hk.1.1.2,⟨hk.1.2,⟨hk.2,⟨hk.1.1.1.1.1.1.1.2,hk.1.1.1.1.1.1.2⟩⟩⟩⟩⟩⟩⟩⟩))⟩;have n4_:Aside0 (Kd.R k58 58 w87 w.heap.size (fun k_=>some k_≠(.slice Ao90 t410.length co90:Value).ownBlock∧some k_≠(.slice Ao91 t414.length co91:Value).ownBlock∧some k_≠(.slice Ao92 t418.length co92:Value).ownBlock∧some k_≠(.slice Ao94 t419.length co94:Value).ownBlock∧some k_≠(.slice Ao95 t426.length co95:Value).ownBlock∧some k_≠(.slice Ao88 t432.length co88:Value).ownBlock∧some k_≠(.slice Ao89 t435.length co89:Value).ownBlock∧some k_≠(.slice Ao14 x4_1.length co14:Value).ownBlock∧some k_≠(.slice Ao75 x5_1.length co75:Value).ownBlock) (.slice Ao93 t425.length co93) t425):=⟨by rw[←hq_];exact (by exact Kd.R_mono (upK HO429.out) (fun _ hk=>⟨hk.1.1.1.1.1.2,⟨hk.1.1.1.1.2,⟨hk.1.1.1.2,⟨hk.1.1.2,⟨hk.1.1.1.1.1.1.1.1,⟨hk.1.2,⟨hk.2,⟨hk.1.1.1.1.1.1.1.2,hk.1.1.1.1.1.1.2⟩⟩⟩⟩⟩⟩⟩⟩))⟩;have n5_:Aside0 (Kd.R k58 58 w87 w.heap.size (fun k_=>some k_≠(.slice Ao90 t410.length co90:Value).ownBlock∧some k_≠(.slice Ao91 t414.length co91:Value).ownBlock∧some k_≠(.slice Ao92 t418.length co92:Value).ownBlock∧some k_≠(.slice Ao94 t419.length co94:Value).ownBlock∧some k_≠(.slice Ao93 t425.length co93:Value).ownBlock∧some k_≠(.slice Ao88 t432.length co88:Value).ownBlock∧some k_≠(.slice Ao89 t435.length co89:Value).ownBlock∧some k_≠(.slice Ao14 x4_1.length co14:Value).ownBlock∧some k_≠(.slice Ao75 x5_1.length co75:Value).ownBlock) (.slice Ao95 t426.length co95) t426):=⟨by rw[←hq_];exact (by exact Kd.R_mono (upK HO431.out) (fun _ hk=>⟨hk.1.1.1.1.1.2,⟨hk.1.1.1.1.2,⟨hk.1.1.1.2,⟨hk.1.1.2,⟨hk.1.1.1.1.1.1.1.1,⟨hk.1.2,⟨hk.2,⟨hk.1.1.1.1.1.1.1.2,hk.1.1.1.1.1.1.2⟩⟩⟩⟩⟩⟩⟩⟩))⟩;have n6_:Aside0 (Kd.R k58 58 w87 w.heap.size (fun k_=>some k_≠(.slice Ao90 t410.length co90:Value).ownBlock∧some k_≠(.slice Ao91 t414.length co91:Value).ownBlock∧some k_≠(.slice Ao92 t418.length co92:Value).ownBlock∧some k_≠(.slice Ao94 t419.length co94:Value).ownBlock∧some k_≠(.slice Ao93 t425.length co93:Value).ownBlock∧some k_≠(.slice Ao95 t426.length co95:Value).ownBlock∧some k_≠(.slice Ao89 t435.length co89:Value).ownBlock∧some k_≠(.slice Ao14 x4_1.length co14:Value).ownBlock∧some k_≠(.slice Ao75 x5_1.length co75:Value).ownBlock) (.slice Ao88 t432.length co88) t432):=⟨by rw[←hq_];exact (by exact Kd.R_mono (upK HO434.out) (fun _ hk=>⟨hk.1.1.1.1.1.1.2,⟨hk.1.1.1.1.1.2,⟨hk.1.1.1.1.2,⟨hk.1.1.1.2,⟨hk.1.1.2,⟨hk.1.2,⟨hk.2,⟨hk.1.1.1.1.1.1.1.1.2,hk.1.1.1.1.1.1.1.2⟩⟩⟩⟩⟩⟩⟩⟩))⟩;have n7_:Aside0 (Kd.R k58 58 w87 w.heap.size (fun k_=>some k_≠(.slice Ao90 t410.length co90:Value).ownBlock∧some k_≠(.slice Ao91 t414.length co91:Value).ownBlock∧some k_≠(.slice Ao92 t418.length co92:Value).ownBlock∧some k_≠(.slice Ao94 t419.length co94:Value).ownBlock∧some k_≠(.slice Ao93 t425.length co93:Value).ownBlock∧some k_≠(.slice Ao95 t426.length co95:Value).ownBlock∧some k_≠(.slice Ao88 t432.length co88:Value).ownBlock∧some k_≠(.slice Ao14 x4_1.length co14:Value).ownBlock∧some k_≠(.slice Ao75 x5_1.length co75:Value).ownBlock) (.slice Ao89 t435.length co89) t435):=⟨by rw[←hq_];exact (by exact Kd.R_mono (upK HO437.out) (fun _ hk=>⟨hk.1.1.1.1.1.1.2,⟨hk.1.1.1.1.1.2,⟨hk.1.1.1.1.2,⟨hk.1.1.1.2,⟨hk.1.1.2,⟨hk.1.2,⟨hk.2,⟨hk.1.1.1.1.1.1.1.1.2,hk.1.1.1.1.1.1.1.2⟩⟩⟩⟩⟩⟩⟩⟩))⟩;have n8_:Aside0 (Kd.R k58 58 w87 w.heap.size (fun k_=>some k_≠(.slice Ao90 t410.length co90:Value).ownBlock∧some k_≠(.slice Ao91 t414.length co91:Value).ownBlock∧some k_≠(.slice Ao92 t418.length co92:Value).ownBlock∧some k_≠(.slice Ao94 t419.length co94:Value).ownBlock∧some k_≠(.slice Ao93 t425.length co93:Value).ownBlock∧some k_≠(.slice Ao95 t426.length co95:Value).ownBlock∧some k_≠(.slice Ao88 t432.length co88:Value).ownBlock∧some k_≠(.slice Ao89 t435.length co89:Value).ownBlock∧some k_≠(.slice Ao75 x5_1.length co75:Value).ownBlock) (.slice Ao14 x4_1.length co14) x4_1):=⟨by rw[←hq_];exact (by exact Kd.R_mono (upK HO_4.out) (fun _ hk=>⟨hk.1.1.1.1.1.1.1.2,⟨hk.1.1.1.1.1.1.2,⟨hk.1.1.1.1.1.2,⟨hk.1.1.1.1.2,⟨hk.1.1.1.2,⟨hk.1.1.2,⟨hk.1.2,⟨hk.2,hk.1.1.1.1.1.1.1.1⟩⟩⟩⟩⟩⟩⟩⟩))⟩;have n9_:Aside0 (Kd.R k58 58 w87 w.heap.size (fun k_=>some k_≠(.slice Ao90 t410.length co90:Value).ownBlock∧some k_≠(.slice Ao91 t414.length co91:Value).ownBlock∧some k_≠(.slice Ao92 t418.length co92:Value).ownBlock∧some k_≠(.slice Ao94 t419.length co94:Value).ownBlock∧some k_≠(.slice Ao93 t425.length co93:Value).ownBlock∧some k_≠(.slice Ao95 t426.length co95:Value).ownBlock∧some k_≠(.slice Ao88 t432.length co88:Value).ownBlock∧some k_≠(.slice Ao89 t435.length co89:Value).ownBlock∧some k_≠(.slice Ao14 x4_1.length co14:Value).ownBlock) (.slice Ao75 x5_1.length co75) x5_1):=⟨by rw[←hq_];exact (by exact Kd.R_mono (upK HO_5.out) (fun _ hk=>⟨hk.1.1.1.1.1.1.1.2,⟨hk.1.1.1.1.1.1.2,⟨hk.1.1.1.1.1.2,⟨hk.1.1.1.1.2,⟨hk.1.1.1.2,⟨hk.1.1.2,⟨hk.1.2,⟨hk.2,hk.1.1.1.1.1.1.1.1⟩⟩⟩⟩⟩⟩⟩⟩))⟩;have n10_:Aside0 (w87.heap[gb371]?=some (.cells #[.slice A0_0 l0_0.length c0_0,.string a0_1,.string a0_2,.bool a0_3] 24 (0,0))):=⟨by rw[←hq_];exact (upX BK371.out)⟩;have n11_:Aside0 (Below w.heap.size w w87):=⟨by rw[←hq_];exact (by repeat (first|exact upB HB.out|refine below_set ?_ GE371.out))⟩;clear HO413 HO417 HO422 HO424 HO429 HO431 HO434 HO437 HO_4 HO_5 BK371 HB hq_;have HO413:=n0_;have HO417:=n1_;have HO422:=n2_;have HO424:=n3_;have HO429:=n4_;have HO431:=n5_;have HO434:=n6_;have HO437:=n7_;have HO_4:=n8_;have HO_5:=n9_;have BK371:=n10_;have HB:=n11_;clear n0_ n1_ n2_ n3_ n4_ n5_ n6_ n7_ n8_ n9_ n10_ n11_))
               have n0_:=Aside0.mk (Kd.R_drew HO_4.out)
               have n1_:=Aside0.mk (Kd.R_drew HO_5.out)
               have n2_:=Aside0.mk (Kd.R_drew HO413.out)
               have n3_:=Aside0.mk (Kd.R_drew HO417.out)
               have n4_:=Aside0.mk (Kd.R_drew HO422.out)
               have n5_:=Aside0.mk (Kd.R_drew HO424.out)
               have n6_:=Aside0.mk (Kd.R_drew HO429.out)
               have n7_:=Aside0.mk (Kd.R_drew HO431.out)
               have n8_:=Aside0.mk (Kd.R_drew HO434.out)
               have n9_:=Aside0.mk (Kd.R_drew HO437.out)
               have n10_:=Aside0.mk (blk_drew BK371.out)
               have n11_:=Aside0.mk (below_drew1 HB.out)
               clear HO_4
               clear HO_5
               clear HO413
               clear HO417
               clear HO422
               clear HO424
               clear HO429
               clear HO431
               clear HO434
               clear HO437
               clear BK371
               clear HB
               have HO_4:=n0_
               have HO_5:=n1_
               have HO413:=n2_
               have HO417:=n3_
               have HO422:=n4_
               have HO424:=n5_
               have HO429:=n6_
               have HO431:=n7_
               have HO434:=n8_
               have HO437:=n9_
               have BK371:=n10_
               have HB:=n11_
               clear n0_ n1_ n2_ n3_ n4_ n5_ n6_ n7_ n8_ n9_ n10_ n11_
               refine start_ (n:=18) (S:=fun w'=>w'.cell? ⟨gb371,0,none⟩=some (.slice A0_0 l0_0.length c0_0)∧w'.cell? ⟨gb371,1,none⟩=some (.string a0_1)∧w'.cell? ⟨gb371,2,none⟩=some (.string a0_2)∧w'.cell? ⟨gb371,3,none⟩=some (.bool a0_3)) (ds:=[]) #[false,false,false,false,false,false,false,false,false,false,false,false,false,false,false,false,false,false] (by kernel_rfl) rfl rfl ⟨(blk_cell BK371.out 0).trans rfl,(blk_cell BK371.out 1).trans rfl,(blk_cell BK371.out 2).trans rfl,(blk_cell BK371.out 3).trans rfl⟩ (fun hHeld=>?_);refine with_tabW copselaw7_stale.tab29 copselaw7_stale.bits29 (fun HT_ HW_=>?_)
               generalize w87.drew=w96 at HO_4 HO_5 HO413 HO417 HO422 HO424 HO429 HO431 HO434 HO437 BK371 HB hHeld ⊢
               refine pure_ (i:=0) (N:=some 163) (v:=?_) (a':=?_) #[true,false,false,false,false,false,false,false,false,false,false,false,false,false,false,false,false,false] rfl rfl (any_of HT_.out (by kernel_rfl)) (fun _ _ _ h=>h) (Or.inl ⟨by rfl,?_⟩) ?_ ?_
               rotate_left
               ·
                intro w'
                go_simp
                with_reducible rfl
               rotate_left
               ·
                simp only[pt_]
                rfl
               refine pure_ (i:=2) (N:=some 165) (v:=?_) (a':=?_) #[true,false,true,false,false,false,false,false,false,false,false,false,false,false,false,false,false,false] rfl rfl (any_of HT_.out (by kernel_rfl)) (fun _ _ _ h=>h) (Or.inl ⟨by rfl,?_⟩) ?_ ?_
               rotate_left
               ·
                intro w'
                go_simp
                with_reducible rfl
               rotate_left
               ·
                simp only[pt_]
                rfl
               refine one_ (i:=1) (N:=some 164) #[true,true,true,false,false,false,false,false,false,false,false,false,false,false,false,false,false,false] rfl rfl (one_of HT_.out (by kernel_rfl)) (by decide) (fun K hK=>?_)
               refine goes_ Tryd.func12 (by kernel_rfl) rfl #[.slice Ao14 x4_1.length co14] (by rfl) rfl rfl (by (try simp only[ml_]);first|done|rfl|(simp only[List.length_drop,List.length_take];rfl)) ?_
               with_reducible refine (leaf_Size.calls k1 _ _ x4_1 t442 _ ?side1 ?side2 A56.out).mono ?_
               (case side1=>exact upC (Kd.R_reads' HO_4.out).2.2)
               (case side2=>exact (Kd.R_reads' HO_4.out).2.1)
               rintro e w97 ⟨rfl,hb⟩
               refine ⟨_,rfl,?_⟩
               have n0_:=Aside0.mk (Kd.R_below (upK HO_4.out) hb)
               have n1_:=Aside0.mk (Kd.R_below (upK HO_5.out) hb)
               have n2_:=Aside0.mk (Kd.R_below (upK HO413.out) hb)
               have n3_:=Aside0.mk (Kd.R_below (upK HO417.out) hb)
               have n4_:=Aside0.mk (Kd.R_below (upK HO422.out) hb)
               have n5_:=Aside0.mk (Kd.R_below (upK HO424.out) hb)
               have n6_:=Aside0.mk (Kd.R_below (upK HO429.out) hb)
               have n7_:=Aside0.mk (Kd.R_below (upK HO431.out) hb)
               have n8_:=Aside0.mk (Kd.R_below (upK HO434.out) hb)
               have n9_:=Aside0.mk (Kd.R_below (upK HO437.out) hb)
               have n10_:=Aside0.mk (blk_below (g:=gb371) (o:=.cells #[.slice A0_0 l0_0.length c0_0,.string a0_1,.string a0_2,.bool a0_3] 24 (0,0)) (upX BK371.out) hb)
               have n11_:=Aside0.mk (below_step (by repeat (first|exact upB HB.out|refine below_set ?_ GE371.out)) hb)
               clear HO_4
               clear HO_5
               clear HO413
               clear HO417
               clear HO422
               clear HO424
               clear HO429
               clear HO431
               clear HO434
               clear HO437
               clear BK371
               clear HB
               have HO_4:=n0_
               have HO_5:=n1_
               have HO413:=n2_
               have HO417:=n3_
               have HO422:=n4_
               have HO424:=n5_
               have HO429:=n6_
               have HO431:=n7_
               have HO434:=n8_
               have HO437:=n9_
               have BK371:=n10_
               have HB:=n11_
               clear n0_ n1_ n2_ n3_ n4_ n5_ n6_ n7_ n8_ n9_ n10_ n11_
               (try clear hb)
               (try clear hb2)
               (try clear hk)
               (try clear hi)
               refine hK.out _ _ ⟨(blk_cell BK371.out 0).trans rfl,(blk_cell BK371.out 1).trans rfl,(blk_cell BK371.out 2).trans rfl,(blk_cell BK371.out 3).trans rfl⟩ (fun hHeld=>?_)
               clear hK K
               refine norm_ (a':=?_) ?_ ?_
               rotate_left
               ·
                show Act.put _ (some 164) _=_
                simp only[pt_]
                rfl
               refine one_ (i:=3) (N:=some 166) #[true,true,true,true,false,false,false,false,false,false,false,false,false,false,false,false,false,false] rfl rfl (one_of HT_.out (by kernel_rfl)) (by decide) (fun K hK=>?_)
               refine goes_ Tryd.func15 (by kernel_rfl) rfl #[.slice Ao75 x5_1.length co75] (by rfl) rfl rfl (by (try simp only[ml_]);first|done|rfl|(simp only[List.length_drop,List.length_take];rfl)) ?_
               with_reducible refine (copseref7_Size.calls k1 _ _ x5_1 t443 _ ?side1 ?side2 A57.out).mono ?_
               (case side1=>exact upC (Kd.R_reads' HO_5.out).2.2)
               (case side2=>exact (Kd.R_reads' HO_5.out).2.1)
               rintro e w' ⟨rfl,⟨nd,rfl⟩⟩
               refine ⟨_,rfl,?_⟩
               refine hK.out _ _ ⟨(blk_cell BK371.out 0).trans rfl,(blk_cell BK371.out 1).trans rfl,(blk_cell BK371.out 2).trans rfl,(blk_cell BK371.out 3).trans rfl⟩ (fun hHeld=>?_)
               clear hK K
               refine norm_ (a':=?_) ?_ ?_
               rotate_left
               ·
                show Act.put _ (some 166) _=_
                simp only[pt_]
                rfl
               refine pure_ (i:=4) (N:=some 167) (v:=?_) (a':=?_) #[true,true,true,true,true,false,false,false,false,false,false,false,false,false,false,false,false,false] rfl rfl (any_of HT_.out (by kernel_rfl)) (fun _ _ _ h=>h) (Or.inl ⟨by rfl,?_⟩) ?_ ?_
               rotate_left
               ·
                intro w'
                go_simp
                with_reducible rfl
               rotate_left
               ·
                simp only[pt_]
                rfl
               refine pure_ (i:=5) (N:=some 168) (v:=?_) (a':=?_) #[true,true,true,true,true,true,false,false,false,false,false,false,false,false,false,false,false,false] rfl rfl (any_of HT_.out (by kernel_rfl)) (fun _ _ _ h=>h) (Or.inl ⟨by rfl,?_⟩) ?_ ?_
               rotate_left
               ·
                intro w'
                go_simp
                with_reducible rfl
               rotate_left
               ·
                simp only[pt_]
                rfl
               refine pure_ (i:=6) (N:=some 169) (v:=?_) (a':=?_) #[true,true,true,true,true,true,true,false,false,false,false,false,false,false,false,false,false,false] rfl rfl (any_of HT_.out (by kernel_rfl)) (fun _ _ _ h=>h) (Or.inl ⟨by rfl,?_⟩) ?_ ?_
               rotate_left
               ·
                intro w'
                go_simp
                with_reducible rfl
               rotate_left
               ·
                simp only[pt_]
                rfl
               refine pure_ (i:=7) (N:=some 170) (v:=?_) (a':=?_) #[true,true,true,true,true,true,true,true,false,false,false,false,false,false,false,false,false,false] rfl rfl (any_of HT_.out (by kernel_rfl)) (fun _ _ _ h=>h) (Or.inl ⟨by rfl,?_⟩) ?_ ?_
               rotate_left
               ·
                intro w'
                go_simp
                with_reducible rfl
               rotate_left
               ·
                simp only[pt_]
                rfl
               refine pure_ (i:=11) (N:=some 174) (v:=?_) (a':=?_) #[true,true,true,true,true,true,true,true,false,false,false,true,false,false,false,false,false,false] rfl rfl (any_of HT_.out (by kernel_rfl)) (fun _ _ _ h=>h) (Or.inl ⟨by rfl,?_⟩) ?_ ?_
               rotate_left
               ·
                intro w'
                go_simp
                with_reducible rfl
               rotate_left
               ·
                simp only[pt_]
                rfl
               refine pure_ (i:=12) (N:=some 175) (v:=?_) (a':=?_) #[true,true,true,true,true,true,true,true,false,false,false,true,true,false,false,false,false,false] rfl rfl (any_of HT_.out (by kernel_rfl)) (fun _ _ _ h=>h) (Or.inl ⟨by rfl,?_⟩) ?_ ?_
               rotate_left
               ·
                intro w'
                go_simp
                with_reducible rfl
               rotate_left
               ·
                simp only[pt_]
                rfl
               refine take_ (i:=8) (N:=some 171) (v:=?_) (a':=?_) #[true,true,true,true,true,true,true,true,true,false,false,true,true,false,false,false,false,false] rfl rfl (take_ofW HT_.out HW_.out (by kernel_rfl)) (fun _ _ _ h=>h) (Or.inl ⟨by rfl,?_⟩) hHeld ?_ ?_
               rotate_left
               ·
                rintro w' ⟨s0,s1,s2,s3⟩
                go_simp
                with_reducible rfl
               rotate_left
               ·
                simp only[pt_]
                rfl
               refine take_ (i:=13) (N:=some 176) (v:=?_) (a':=?_) #[true,true,true,true,true,true,true,true,true,false,false,true,true,true,false,false,false,false] rfl rfl (take_ofW HT_.out HW_.out (by kernel_rfl)) (fun _ _ _ h=>h) (Or.inl ⟨by rfl,?_⟩) hHeld ?_ ?_
               rotate_left
               ·
                rintro w' ⟨s0,s1,s2,s3⟩
                go_simp
                with_reducible rfl
               rotate_left
               ·
                simp only[pt_]
                rfl
               refine one_ (i:=9) (N:=some 172) #[true,true,true,true,true,true,true,true,true,true,false,true,true,true,false,false,false,false] rfl rfl (one_of HT_.out (by kernel_rfl)) (by decide) (fun K hK=>?_)
               refine goes_ Tryd.func13 (by kernel_rfl) rfl #[.slice Ao14 x4_1.length co14,.bool a0_3] (by rfl) rfl rfl (by (try simp only[ml_]);first|done|rfl|(simp only[List.length_drop,List.length_take];rfl)) ?_
               with_reducible refine (leaf_Check.calls k1 E _ _ x4_1 a0_3 t444 _ ?side1 ?side2 ?side3 A59.out).mono ?_
               (case side1=>exact (Glob.below HG.out (by repeat (first|exact upB HB.out|refine below_set ?_ GE371.out))))
               (case side2=>exact upC (Kd.R_reads' HO_4.out).2.2)
               (case side3=>exact (Kd.R_reads' HO_4.out).2.1)
               rintro e w98 ⟨rfl,hb⟩
               refine ⟨_,rfl,?_⟩
               have n0_:=Aside0.mk (Kd.R_below (upK HO_4.out) hb)
               have n1_:=Aside0.mk (Kd.R_below (upK HO_5.out) hb)
               have n2_:=Aside0.mk (Kd.R_below (upK HO413.out) hb)
               have n3_:=Aside0.mk (Kd.R_below (upK HO417.out) hb)
               have n4_:=Aside0.mk (Kd.R_below (upK HO422.out) hb)
               have n5_:=Aside0.mk (Kd.R_below (upK HO424.out) hb)
               have n6_:=Aside0.mk (Kd.R_below (upK HO429.out) hb)
               have n7_:=Aside0.mk (Kd.R_below (upK HO431.out) hb)
               have n8_:=Aside0.mk (Kd.R_below (upK HO434.out) hb)
               have n9_:=Aside0.mk (Kd.R_below (upK HO437.out) hb)
               have n10_:=Aside0.mk (blk_below (g:=gb371) (o:=.cells #[.slice A0_0 l0_0.length c0_0,.string a0_1,.string a0_2,.bool a0_3] 24 (0,0)) (upX BK371.out) hb)
               have n11_:=Aside0.mk (below_step (by repeat (first|exact upB HB.out|refine below_set ?_ GE371.out)) hb)
               clear HO_4
               clear HO_5
               clear HO413
               clear HO417
               clear HO422
               clear HO424
               clear HO429
               clear HO431
               clear HO434
               clear HO437
               clear BK371
               clear HB
               have HO_4:=n0_
               have HO_5:=n1_
               have HO413:=n2_
               have HO417:=n3_
               have HO422:=n4_
               have HO424:=n5_
               have HO429:=n6_
               have HO431:=n7_
               have HO434:=n8_
               have HO437:=n9_
               have BK371:=n10_
               have HB:=n11_
               clear n0_ n1_ n2_ n3_ n4_ n5_ n6_ n7_ n8_ n9_ n10_ n11_
               (try clear hb)
               (try clear hb2)
               (try clear hk)
               (try clear hi)
               (try simp only[errW_none,errW_some])
               have CA60:=fun (W:World) (hG_:Glob E W)=>copsekit_Num.calls E t444 t445 W hG_ A60.out
               try simp only[errW_none,errW_some] at CA60
               refine hK.out _ _ ⟨(blk_cell BK371.out 0).trans rfl,(blk_cell BK371.out 1).trans rfl,(blk_cell BK371.out 2).trans rfl,(blk_cell BK371.out 3).trans rfl⟩ (fun hHeld=>?_)
               clear hK K
               refine norm_ (a':=?_) ?_ ?_
               rotate_left
               ·
                show Act.put _ (some 172) _=_
                simp only[pt_]
                rfl
               refine one_ (i:=10) (N:=some 173) #[true,true,true,true,true,true,true,true,true,true,true,true,true,true,false,false,false,false] rfl rfl (one_of HT_.out (by kernel_rfl)) (by decide) (fun K hK=>?_)
               refine goes_ Tryd.func16 (by kernel_rfl) rfl #[errW E t444] (by rfl) rfl rfl (by (try simp only[ml_]);first|done|rfl|(simp only[List.length_drop,List.length_take];rfl)) ?_
               with_reducible refine (CA60 _ ?side1).mono ?_
               (case side1=>exact (Glob.below HG.out (by repeat (first|exact upB HB.out|refine below_set ?_ GE371.out))))
               rintro e w' ⟨rfl,⟨nd,rfl⟩⟩
               refine ⟨_,rfl,?_⟩
               refine hK.out _ _ ⟨(blk_cell BK371.out 0).trans rfl,(blk_cell BK371.out 1).trans rfl,(blk_cell BK371.out 2).trans rfl,(blk_cell BK371.out 3).trans rfl⟩ (fun hHeld=>?_)
               clear hK K
               refine norm_ (a':=?_) ?_ ?_
               rotate_left
               ·
                show Act.put _ (some 173) _=_
                simp only[pt_]
                rfl
               refine one_ (i:=14) (N:=some 177) #[true,true,true,true,true,true,true,true,true,true,true,true,true,true,true,false,false,false] rfl rfl (one_of HT_.out (by kernel_rfl)) (by decide) (fun K hK=>?_)
               refine goes_ Tryd.func17 (by kernel_rfl) rfl #[.slice Ao75 x5_1.length co75,.bool a0_3] (by rfl) rfl rfl (by (try simp only[ml_]);first|done|rfl|(simp only[List.length_drop,List.length_take];rfl)) ?_
               with_reducible refine (copseref7_Check.calls k1 _ _ x5_1 a0_3 t446 _ ?side1 ?side2 A61.out).mono ?_
               (case side1=>exact upC (Kd.R_reads' HO_5.out).2.2)
               (case side2=>exact (Kd.R_reads' HO_5.out).2.1)
               rintro e w99 ⟨rfl,hb⟩
               refine ⟨_,rfl,?_⟩
               have n0_:=Aside0.mk (Kd.R_below (upK HO_4.out) hb)
               have n1_:=Aside0.mk (Kd.R_below (upK HO_5.out) hb)
               have n2_:=Aside0.mk (Kd.R_below (upK HO413.out) hb)
               have n3_:=Aside0.mk (Kd.R_below (upK HO417.out) hb)
               have n4_:=Aside0.mk (Kd.R_below (upK HO422.out) hb)
               have n5_:=Aside0.mk (Kd.R_below (upK HO424.out) hb)
               have n6_:=Aside0.mk (Kd.R_below (upK HO429.out) hb)
               have n7_:=Aside0.mk (Kd.R_below (upK HO431.out) hb)
               have n8_:=Aside0.mk (Kd.R_below (upK HO434.out) hb)
               have n9_:=Aside0.mk (Kd.R_below (upK HO437.out) hb)
               have n10_:=Aside0.mk (blk_below (g:=gb371) (o:=.cells #[.slice A0_0 l0_0.length c0_0,.string a0_1,.string a0_2,.bool a0_3] 24 (0,0)) (upX BK371.out) hb)
               have n11_:=Aside0.mk (below_step (by repeat (first|exact upB HB.out|refine below_set ?_ GE371.out)) hb)
               clear HO_4
               clear HO_5
               clear HO413
               clear HO417
               clear HO422
               clear HO424
               clear HO429
               clear HO431
               clear HO434
               clear HO437
               clear BK371
               clear HB
               have HO_4:=n0_
               have HO_5:=n1_
               have HO413:=n2_
               have HO417:=n3_
               have HO422:=n4_
               have HO424:=n5_
               have HO429:=n6_
               have HO431:=n7_
               have HO434:=n8_
               have HO437:=n9_
               have BK371:=n10_
               have HB:=n11_
               clear n0_ n1_ n2_ n3_ n4_ n5_ n6_ n7_ n8_ n9_ n10_ n11_
               (try clear hb)
               (try clear hb2)
               (try clear hk)
               (try clear hi)
               refine hK.out _ _ ⟨(blk_cell BK371.out 0).trans rfl,(blk_cell BK371.out 1).trans rfl,(blk_cell BK371.out 2).trans rfl,(blk_cell BK371.out 3).trans rfl⟩ (fun hHeld=>?_)
               clear hK K
               refine norm_ (a':=?_) ?_ ?_
               rotate_left
               ·
                show Act.put _ (some 177) _=_
                simp only[pt_]
                rfl
               refine pure_ (i:=15) (N:=some 178) (v:=?_) (a':=?_) #[true,true,true,true,true,true,true,true,true,true,true,true,true,true,true,true,false,false] rfl rfl (any_of HT_.out (by kernel_rfl)) (fun _ _ _ h=>h) (Or.inl ⟨by rfl,?_⟩) ?_ ?_
               rotate_left
               ·
                intro w'
                go_simp
                with_reducible rfl
               rotate_left
               ·
                simp only[pt_]
                rfl
               refine pure_ (i:=16) (N:=some 179) (v:=?_) (a':=?_) #[true,true,true,true,true,true,true,true,true,true,true,true,true,true,true,true,true,false] rfl rfl (any_of HT_.out (by kernel_rfl)) (fun _ _ _ h=>h) (Or.inl ⟨by rfl,?_⟩) ?_ ?_
               rotate_left
               ·
                intro w'
                go_simp
                with_reducible rfl
               rotate_left
               ·
                simp only[pt_]
                rfl
               refine pure_ (i:=17) (N:=some 30) (v:=?_) (a':=?_) #[true,true,true,true,true,true,true,true,true,true,true,true,true,true,true,true,true,true] rfl rfl (any_of HT_.out (by kernel_rfl)) (fun _ _ _ h=>h) (Or.inl ⟨by rfl,?_⟩) ?_ ?_
               rotate_left
               ·
                intro w'
                go_simp
                with_reducible rfl
               rotate_left
               ·
                simp only[pt_]
                rfl
               refine done_ (done_of HT_.out (by kernel_rfl)) ?_
               have CA63:=fun (W:World) (hG_:Glob E W)=>copsekit_Num.calls E t403 t447 W hG_ A63.out
               try simp only[errW_none,errW_some] at CA63
               try go_wp2_with (first|(go_at_call 16;(with_reducible refine (CA63 _ ?side1).mono ?_);(case side1=>exact (Glob.below HG.out (by repeat (first|exact upB HB.out|refine below_set ?_ GE371.out))));rintro e w' ⟨rfl,⟨nd,rfl⟩⟩;have CA68:=fun (W:World) (hG_:Glob E W)=>copsekit_Num.calls E t420 t448 W hG_ A68.out;try simp only[errW_none,errW_some] at CA68)|(go_at_call 16;(with_reducible refine (CA68 _ ?side1).mono ?_);(case side1=>exact (Glob.below HG.out (by repeat (first|exact upB HB.out|refine below_set ?_ GE371.out))));rintro e w' ⟨rfl,⟨nd,rfl⟩⟩))
               go_ret
               exact ⟨by first|rfl|(simp[errW_none,errW_some] <;> rfl)|(simp[*,errW_none,errW_some] <;> rfl),by repeat (first|exact upB HB.out|refine below_set ?_ GE371.out|apply pw_below_drewN)⟩
              ·
               rw[if_neg c73] at H
               exact absurd H (by simp)
             ·
              replace c72:=Bool.eq_false_iff.mpr c72
              subst c72
              have H1:(none)=some r:=by rw[if_neg (show ¬ (false=true) by decide)] at H;exact H
              clear H
              have H:=H1
              clear H1
              exact absurd H (by simp)
            ·
             replace c71:=Bool.eq_false_iff.mpr c71
             subst c71
             have H1:(none)=some r:=by rw[if_neg (show ¬ (false=true) by decide)] at H;exact H
             clear H
             have H:=H1
             clear H1
             exact absurd H (by simp)
           ·
            replace c70:=Bool.eq_false_iff.mpr c70
            subst c70
            have H1:(none)=some r:=by rw[if_neg (show ¬ (false=true) by decide)] at H;exact H
            clear H
            have H:=H1
            clear H1
            exact absurd H (by simp)
          ·
           replace c69:=Bool.eq_false_iff.mpr c69
           subst c69
           have H1:(none)=some r:=by rw[if_neg (show ¬ (false=true) by decide)] at H;exact H
           clear H
           have H:=H1
           clear H1
           exact absurd H (by simp)
         ·
          rw[if_neg c67] at H
          exact absurd H (by simp)
        ·
         rw[if_neg c66] at H
         exact absurd H (by simp)
       ·
        rw[if_neg c65] at H
        exact absurd H (by simp)
      ·
       rw[if_neg c64] at H
       exact absurd H (by simp)
     ·
      rw[if_neg c62] at H
      exact absurd H (by simp)
    ·
     rw[if_neg c58] at H
     exact absurd H (by simp)


end Go.Proofs.YtdailhlghlledaaDoor.XLeafNew
