-- Printed for this claim by a program (wip/printx) that builds on the kit's print. Not trusted: Lean checks it.
-- slim
import Derived.Test.YtdailhlghlledaaDoorXLeafNewx0
import Derived.Test.YtdailhlghlledaaDoorXLeafNewx1
import Derived.Test.YtdailhlghlledaaDoorXLeafNewx4
import Derived.Test.YtdailhlghlledaaDoorXLeafNewx6
namespace Go.Proofs.YtdailhlghlledaaDoor.XLeafNew
open Go.RowKit Go.Proofs.YtdailhlghlledaaDoorW.PrintWords Go.Proofs.YtdailhlghlledaaDoorW.PrintLast Go.Proofs.YtdailhlghlledaaDoorW.PrintMore
attribute [local go_sem] max2_int min2_int max_two min_two max_three min_three max_four min_four   -- for this text's walks alone
set_option linter.unusedVariables false
set_option linter.unusedSimpArgs false

attribute [local go_sem high] eqA58
/-! ### leaf_pair: function 43 -/
def leaf_pair.f (a0:ByteArray):Option (ByteArray×ByteArray×Bool):=if (a0.size:Int)<3 then (some ((⟨#[]⟩:ByteArray),(⟨#[]⟩:ByteArray),false)) else (if 0<(a0.size:Int) then (if 1<(a0.size:Int) then (if 2<(a0.size:Int) then (if (a0.size:Int)=(wrap64 ((wrap64 (3+(wrap64 (bt a0 0))))+(Go.bits .or .i64 (wrap64 ((wrap64 (bt a0 1))*256)) (wrap64 (bt a0 2))))) then (if 3≤(wrap64 (3+(wrap64 (bt a0 0)))) then (if (wrap64 (3+(wrap64 (bt a0 0))))≤(a0.size:Int) then (if 0≤(wrap64 (3+(wrap64 (bt a0 0)))) then (some (a0.extract 3 ((wrap64 (3+(wrap64 (bt a0 0)))):Int).toNat,a0.extract ((wrap64 (3+(wrap64 (bt a0 0)))):Int).toNat a0.size,true)) else (none)) else (none)) else (none)) else (some ((⟨#[]⟩:ByteArray),(⟨#[]⟩:ByteArray),false))) else (none)) else (none)) else (none))
def leaf_pair.T4:Bool×List (List Nat×List Nat):=(true,[([],[]),([0],[0]),([1],[1]),([2],[2]),([],[]),([4],[4]),([5],[5]),([3,6],[3,6]),([7,0,1,2,3,4,5,6,7],[7])])
def leaf_pair.B4:List Nat:=[0,1,3,7,0,16,48,127,255]
theorem leaf_pair.tab4:rtab .any (opsOf Tryd.f43 4)=leaf_pair.T4:=by kernel_rfl
theorem leaf_pair.bits4:waitsOk leaf_pair.T4.2 leaf_pair.B4=true:=by kernel_rfl
def leaf_pair.T7:Bool×List (List Nat×List Nat):=(true,[([],[]),([],[]),([1],[1]),([0,2],[0,2]),([],[]),([],[]),([5],[5]),([4,6],[4,6]),([3,7],[3,7]),([8,0,1,2,3,4,5,6,7,8],[8]),([9,0,1,2,3,4,5,6,7,8,9],[])])
def leaf_pair.B7:List Nat:=[0,0,2,7,0,0,32,112,255,511,1023]
theorem leaf_pair.tab7:rtab .any (opsOf Tryd.f43 7)=leaf_pair.T7:=by kernel_rfl
theorem leaf_pair.bits7:waitsOk leaf_pair.T7.2 leaf_pair.B7=true:=by kernel_rfl
set_option maxHeartbeats 8000000 in
set_option maxRecDepth 100000 in
theorem leaf_pair.calls (a0:ByteArray) (r1:ByteArray) (r2:ByteArray) (r3:Bool) (w:World) (h:leaf_pair.f a0=some (r1,r2,r3)) :
  Calls Tryd.prog 43 #[.string a0] w fun e w'=>e=.returned (.tuple #[.agg #[.string r1,.string r2],.bool r3])∧Below w.heap.size w w':=by
 have hu58:=Tryd.underlying58
 have HB:=Aside0.mk (Below.refl w.heap.size w)
 have H:(if (a0.size:Int)<3 then (some ((⟨#[]⟩:ByteArray),(⟨#[]⟩:ByteArray),false)) else (if 0<(a0.size:Int) then (if 1<(a0.size:Int) then (if 2<(a0.size:Int) then (if (a0.size:Int)=(wrap64 ((wrap64 (3+(wrap64 (bt a0 0))))+(Go.bits .or .i64 (wrap64 ((wrap64 (bt a0 1))*256)) (wrap64 (bt a0 2))))) then (if 3≤(wrap64 (3+(wrap64 (bt a0 0)))) then (if (wrap64 (3+(wrap64 (bt a0 0))))≤(a0.size:Int) then (if 0≤(wrap64 (3+(wrap64 (bt a0 0)))) then (some (a0.extract 3 ((wrap64 (3+(wrap64 (bt a0 0)))):Int).toNat,a0.extract ((wrap64 (3+(wrap64 (bt a0 0)))):Int).toNat a0.size,true)) else (none)) else (none)) else (none)) else (some ((⟨#[]⟩:ByteArray),(⟨#[]⟩:ByteArray),false))) else (none)) else (none)) else (none)))=some (r1,r2,r3):=h
 clear h
 by_cases c2:(a0.size:Int)<3
 ·
  rw[if_pos c2] at H
  have c2b0:decide ((a0.size:Int)<3)=true:=decide_eq_true c2
  have c2b1:decide (a0.size<3)=true:=decide_eq_true (by omega)
  clear c2
  simp only[Option.some.injEq,Prod.mk.injEq] at H
  obtain⟨rfl,rfl,rfl⟩:=H
  go_enter Tryd.func43,Tryd.ntmps43
  go_wp2_with (first|((with_reducible refine gate_dst (N:=2) rfl ?_);refine box_event ?hg (N:=2) ?hd (cs:=#[.string (⟨#[]⟩:ByteArray),.string (⟨#[]⟩:ByteArray)]) (t:=58) ?hr ?_;(case hd=>rfl);(case hg=>rfl);(case hr=>first|(go_simp;done)|(go_simp;rfl));intro gb180 hg w3 hbox hb;have n0_:=Aside0.mk (below_step (upB HB.out) hb);have n1_:=Aside0.mk (hbox);have n2_:=Aside0.mk ((by rw[hg];exact (below_size (upB HB.out)):w.heap.size≤gb180));have n3_:=Aside0.mk ((by rw[hg];exact (below_size (upB HB.out)):w.heap.size≤gb180));clear HB;have HB:=n0_;have BK180:=n1_;have GW180:=n2_;have GE180:=n3_;clear n0_ n1_ n2_ n3_;clear hb hbox hg;have hcz4_0:w3.cell? ⟨gb180,0,none⟩=some (.string (⟨#[]⟩:ByteArray)):=(blk_cell BK180.out 0).trans rfl;have hcz4_1:w3.cell? ⟨gb180,1,none⟩=some (.string (⟨#[]⟩:ByteArray)):=(blk_cell BK180.out 1).trans rfl;have hfz4_0:=blk_frozen BK180.out 0;have hfz4_1:=blk_frozen BK180.out 1))
  refine bodyPost_ret (results_ct rfl _ _ gb180 58 #[.string (⟨#[]⟩:ByteArray),.string (⟨#[]⟩:ByteArray)] (0,0) _ rfl (by (with_reducible repeat (first|refine blk_drewN ?_ _|refine blk_drew ?_|refine blk_alloc ?_ _));refine blk_put (cs:=#[.string (⟨#[]⟩:ByteArray),.string (⟨#[]⟩:ByteArray)]) ?_ 1 _ rfl;(with_reducible repeat (first|refine blk_drewN ?_ _|refine blk_drew ?_|refine blk_alloc ?_ _));refine blk_put (cs:=#[.string (⟨#[]⟩:ByteArray),.string (⟨#[]⟩:ByteArray)]) ?_ 0 _ rfl;(with_reducible repeat (first|refine blk_drewN ?_ _|refine blk_drew ?_|refine blk_alloc ?_ _));exact BK180.out) Tryd.underlying58 rfl (by kernel_rfl)) rfl ?_
  exact ⟨by first|rfl|(simp[errW_none,errW_some] <;> rfl)|(simp[*,errW_none,errW_some] <;> rfl),by repeat (first|exact upB HB.out|refine below_set ?_ GE180.out|apply pw_below_drewN)⟩
 ·
  rw[if_neg c2] at H
  have c2b0:decide ((a0.size:Int)<3)=false:=decide_eq_false c2
  have c2b1:decide (a0.size<3)=false:=decide_eq_false (by omega)
  clear c2
  by_cases c5:0<(a0.size:Int)
  ·
   rw[if_pos c5] at H
   have c5b0:decide (0<(a0.size:Int))=true:=decide_eq_true c5
   have c5b1:decide (0<a0.size)=true:=decide_eq_true (by omega)
   clear c5
   by_cases c7:1<(a0.size:Int)
   ·
    rw[if_pos c7] at H
    have c7b0:decide (1<(a0.size:Int))=true:=decide_eq_true c7
    have c7b1:decide (1<a0.size)=true:=decide_eq_true (by omega)
    clear c7
    by_cases c9:2<(a0.size:Int)
    ·
     rw[if_pos c9] at H
     have c9b0:decide (2<(a0.size:Int))=true:=decide_eq_true c9
     have c9b1:decide (2<a0.size)=true:=decide_eq_true (by omega)
     clear c9
     by_cases c11:(a0.size:Int)=(wrap64 ((wrap64 (3+(wrap64 (bt a0 0))))+(Go.bits .or .i64 (wrap64 ((wrap64 (bt a0 1))*256)) (wrap64 (bt a0 2)))))
     ·
      rw[if_pos c11] at H
      have c11b0:((a0.size:Int)==(wrap64 ((wrap64 (3+(wrap64 (bt a0 0))))+(Go.bits .or .i64 (wrap64 ((wrap64 (bt a0 1))*256)) (wrap64 (bt a0 2))))))=true:=beq_iff_eq.mpr c11
      have c11b1:((a0.size:Int) != (wrap64 ((wrap64 (3+(wrap64 (bt a0 0))))+(Go.bits .or .i64 (wrap64 ((wrap64 (bt a0 1))*256)) (wrap64 (bt a0 2))))))=false:=bne_eq_false_iff_eq.mpr c11
      clear c11
      by_cases c12:3≤(wrap64 (3+(wrap64 (bt a0 0))))
      ·
       rw[if_pos c12] at H
       have c12b0:=eq_true c12
       have c12b1:decide (3≤(wrap64 (3+(wrap64 (bt a0 0)))))=true:=decide_eq_true c12
       by_cases c13:(wrap64 (3+(wrap64 (bt a0 0))))≤(a0.size:Int)
       ·
        rw[if_pos c13] at H
        have c13b0:=eq_true c13
        have c13b1:decide ((wrap64 (3+(wrap64 (bt a0 0))))≤(a0.size:Int))=true:=decide_eq_true c13
        obtain⟨ji14,hji14⟩ : ∃ j_:Int,(wrap64 (3+(wrap64 (bt a0 0))))=j_:=⟨_,rfl⟩
        replace H:(if 0≤(ji14) then (some (a0.extract 3 ((ji14):Int).toNat,a0.extract ((ji14):Int).toNat a0.size,true)) else (none))=some (r1,r2,r3):=by first|(rw[hji14] at H;exact H)|(simp only[hji14] at H ⊢;exact H)
        (try rw[hji14] at c11b0)
        (try rw[hji14] at c11b1)
        (try rw[hji14] at c12b0)
        (try rw[hji14] at c12b1)
        (try rw[hji14] at c12)
        (try rw[hji14] at c13b0)
        (try rw[hji14] at c13b1)
        (try rw[hji14] at c13)
        have hji14w:(IntKind.i64.wrap (3+(wrap64 (bt a0 0))))=ji14:=(i64_w _).trans hji14
        by_cases c15:0≤(ji14)
        ·
         rw[if_pos c15] at H
         have c15b0:=eq_true c15
         have c15b1:decide (0≤(ji14))=true:=decide_eq_true c15
         clear c15
         have c16b0:=eq_true (of_decide_eq_true (by assumption):(ji14)≤(a0.size:Int))
         simp only[Option.some.injEq,Prod.mk.injEq] at H
         obtain⟨rfl,rfl,rfl⟩:=H
         go_enter Tryd.func43,Tryd.ntmps43
         try go_wp2_with (first|((with_reducible refine gate_dst (N:=2) rfl ?_);refine box_event ?hg (N:=2) ?hd (cs:=#[.string (⟨#[]⟩:ByteArray),.string (⟨#[]⟩:ByteArray)]) (t:=58) ?hr ?_;(case hd=>rfl);(case hg=>rfl);(case hr=>first|(go_simp;done)|(go_simp;rfl));intro gb180 hg w17 hbox hb;have n0_:=Aside0.mk (below_step (upB HB.out) hb);have n1_:=Aside0.mk (hbox);have n2_:=Aside0.mk ((by rw[hg];exact (below_size (upB HB.out)):w.heap.size≤gb180));have n3_:=Aside0.mk ((by rw[hg];exact (below_size (upB HB.out)):w.heap.size≤gb180));clear HB;have HB:=n0_;have BK180:=n1_;have GW180:=n2_;have GE180:=n3_;clear n0_ n1_ n2_ n3_;clear hb hbox hg;have p6:0≤(0:Int):=(by omega);have q6:0<a0.size:=(by have:(0:Int)<(a0.size:Int):=of_decide_eq_true (by assumption);omega);have hx6 : ∀ h:0<a0.size,((a0[0]'h).toNat:Int)=bt a0 0:=bt_at a0 0;clear p6;have qi6:(0<(a0.size:Int))=True:=eq_true (of_decide_eq_true (by assumption));replace q6:=eq_true q6))
         have n0_:=Aside0.mk (blk_drew BK180.out)
         have n1_:=Aside0.mk (below_drew1 HB.out)
         clear BK180
         clear HB
         have BK180:=n0_
         have HB:=n1_
         clear n0_ n1_
         have p8:0≤(1:Int):=(by omega)
         have q8:1<a0.size:=(by have:(1:Int)<(a0.size:Int):=of_decide_eq_true (by assumption);omega)
         have hx8 : ∀ h:1<a0.size,((a0[1]'h).toNat:Int)=bt a0 1:=bt_at a0 1
         clear p8
         have qi8:(1<(a0.size:Int))=True:=eq_true (of_decide_eq_true (by assumption))
         replace q8:=eq_true q8
         have p10:0≤(2:Int):=(by omega)
         have q10:2<a0.size:=(by have:(2:Int)<(a0.size:Int):=of_decide_eq_true (by assumption);omega)
         have hx10 : ∀ h:2<a0.size,((a0[2]'h).toNat:Int)=bt a0 2:=bt_at a0 2
         clear p10
         have qi10:(2<(a0.size:Int))=True:=eq_true (of_decide_eq_true (by assumption))
         replace q10:=eq_true q10
         refine start_ (n:=9) (S:=fun w'=>True) (ds:=[]) #[false,false,false,false,false,false,false,false,false] (by kernel_rfl) rfl rfl trivial (fun hHeld=>?_);refine with_tabW leaf_pair.tab4 leaf_pair.bits4 (fun HT_ HW_=>?_)
         generalize w17.drew=w18 at BK180 HB hHeld ⊢
         refine pure_ (i:=0) (N:=some 13) (v:=?_) (a':=?_) #[true,false,false,false,false,false,false,false,false] rfl rfl (any_of HT_.out (by kernel_rfl)) (fun _ _ _ h=>h) (Or.inl ⟨by rfl,?_⟩) ?_ ?_
         rotate_left
         ·
          intro w'
          go_simp
          with_reducible rfl
         rotate_left
         ·
          simp only[pt_]
          rfl
         refine pure_ (i:=4) (N:=some 17) (v:=?_) (a':=?_) #[true,false,false,false,true,false,false,false,false] rfl rfl (any_of HT_.out (by kernel_rfl)) (fun _ _ _ h=>h) (Or.inl ⟨by rfl,?_⟩) ?_ ?_
         rotate_left
         ·
          intro w'
          go_simp
          with_reducible rfl
         rotate_left
         ·
          simp only[pt_]
          rfl
         refine take_ (i:=1) (N:=some 14) (v:=?_) (a':=?_) #[true,true,false,false,true,false,false,false,false] rfl rfl (take_ofW HT_.out HW_.out (by kernel_rfl)) (fun _ _ _ h=>h) (Or.inl ⟨by rfl,?_⟩) hHeld ?_ ?_
         rotate_left
         ·
          intro w' _
          go_simp
          with_reducible rfl
         rotate_left
         ·
          simp only[pt_]
          rfl
         refine pure_ (i:=2) (N:=some 15) (v:=?_) (a':=?_) #[true,true,true,false,true,false,false,false,false] rfl rfl (any_of HT_.out (by kernel_rfl)) (fun _ _ _ h=>h) (Or.inl ⟨by rfl,?_⟩) ?_ ?_
         rotate_left
         ·
          intro w'
          go_simp
          with_reducible rfl
         rotate_left
         ·
          simp only[pt_]
          rfl
         refine pure_ (i:=3) (N:=some 16) (v:=?_) (a':=?_) #[true,true,true,true,true,false,false,false,false] rfl rfl (any_of HT_.out (by kernel_rfl)) (fun _ _ _ h=>h) (Or.inl ⟨by rfl,?_⟩) ?_ ?_
         rotate_left
         ·
          intro w'
          go_simp
          with_reducible rfl
         rotate_left
         ·
          simp only[pt_]
          rfl
         refine take_ (i:=5) (N:=some 18) (v:=?_) (a':=?_) #[true,true,true,true,true,true,false,false,false] rfl rfl (take_ofW HT_.out HW_.out (by kernel_rfl)) (fun _ _ _ h=>h) (Or.inl ⟨by rfl,?_⟩) hHeld ?_ ?_
         rotate_left
         ·
          intro w' _
          go_simp
          with_reducible rfl
         rotate_left
         ·
          simp only[pt_]
          rfl
         refine pure_ (i:=6) (N:=some 19) (v:=?_) (a':=?_) #[true,true,true,true,true,true,true,false,false] rfl rfl (any_of HT_.out (by kernel_rfl)) (fun _ _ _ h=>h) (Or.inl ⟨by rfl,?_⟩) ?_ ?_
         rotate_left
         ·
          intro w'
          go_simp
          with_reducible rfl
         rotate_left
         ·
          simp only[pt_]
          rfl
         refine pure_ (i:=7) (N:=some 20) (v:=?_) (a':=?_) #[true,true,true,true,true,true,true,true,false] rfl rfl (any_of HT_.out (by kernel_rfl)) (fun _ _ _ h=>h) (Or.inl ⟨by rfl,?_⟩) ?_ ?_
         rotate_left
         ·
          intro w'
          go_simp
          with_reducible rfl
         rotate_left
         ·
          simp only[pt_]
          rfl
         refine pure_ (i:=8) (N:=some 5) (v:=?_) (a':=?_) #[true,true,true,true,true,true,true,true,true] rfl rfl (any_of HT_.out (by kernel_rfl)) (fun _ _ _ h=>h) (Or.inl ⟨by rfl,?_⟩) ?_ ?_
         rotate_left
         ·
          intro w'
          go_simp
          with_reducible rfl
         rotate_left
         ·
          simp only[pt_]
          rfl
         refine done_ (done_of HT_.out (by kernel_rfl)) ?_
         try go_wp2
         have n0_:=Aside0.mk (blk_drew BK180.out)
         have n1_:=Aside0.mk (below_drew1 HB.out)
         clear BK180
         clear HB
         have BK180:=n0_
         have HB:=n1_
         clear n0_ n1_
         refine start_ (n:=11) (S:=fun w'=>True) (ds:=[]) #[false,false,false,false,false,false,false,false,false,false,false] (by kernel_rfl) rfl rfl trivial (fun hHeld=>?_);refine with_tabW leaf_pair.tab7 leaf_pair.bits7 (fun HT_ HW_=>?_)
         generalize w18.drew=w19 at BK180 HB hHeld ⊢
         refine pure_ (i:=0) (N:=some 29) (v:=?_) (a':=?_) #[true,false,false,false,false,false,false,false,false,false,false] rfl rfl (any_of HT_.out (by kernel_rfl)) (fun _ _ _ h=>h) (Or.inl ⟨by rfl,?_⟩) ?_ ?_
         rotate_left
         ·
          intro w'
          go_simp
          with_reducible rfl
         rotate_left
         ·
          simp only[pt_]
          rfl
         refine pure_ (i:=1) (N:=some 30) (v:=?_) (a':=?_) #[true,true,false,false,false,false,false,false,false,false,false] rfl rfl (any_of HT_.out (by kernel_rfl)) (fun _ _ _ h=>h) (Or.inl ⟨by rfl,?_⟩) ?_ ?_
         rotate_left
         ·
          intro w'
          go_simp
          with_reducible rfl
         rotate_left
         ·
          simp only[pt_]
          rfl
         refine pure_ (i:=2) (N:=some 31) (v:=?_) (a':=?_) #[true,true,true,false,false,false,false,false,false,false,false] rfl rfl (any_of HT_.out (by kernel_rfl)) (fun _ _ _ h=>h) (Or.inl ⟨by rfl,?_⟩) ?_ ?_
         rotate_left
         ·
          intro w'
          go_simp
          with_reducible rfl
         rotate_left
         ·
          simp only[pt_]
          rfl
         refine pure_ (i:=3) (N:=some 32) (v:=?_) (a':=?_) #[true,true,true,true,false,false,false,false,false,false,false] rfl rfl (any_of HT_.out (by kernel_rfl)) (fun _ _ _ h=>h) (Or.inl ⟨by rfl,?_⟩) ?_ ?_
         rotate_left
         ·
          intro w'
          go_simp
          with_reducible rfl
         rotate_left
         ·
          simp only[pt_]
          rfl
         refine pure_ (i:=4) (N:=some 33) (v:=?_) (a':=?_) #[true,true,true,true,true,false,false,false,false,false,false] rfl rfl (any_of HT_.out (by kernel_rfl)) (fun _ _ _ h=>h) (Or.inl ⟨by rfl,?_⟩) ?_ ?_
         rotate_left
         ·
          intro w'
          go_simp
          with_reducible rfl
         rotate_left
         ·
          simp only[pt_]
          rfl
         refine pure_ (i:=5) (N:=some 34) (v:=?_) (a':=?_) #[true,true,true,true,true,true,false,false,false,false,false] rfl rfl (any_of HT_.out (by kernel_rfl)) (fun _ _ _ h=>h) (Or.inl ⟨by rfl,?_⟩) ?_ ?_
         rotate_left
         ·
          intro w'
          go_simp
          with_reducible rfl
         rotate_left
         ·
          simp only[pt_]
          rfl
         refine pure_ (i:=6) (N:=some 35) (v:=?_) (a':=?_) #[true,true,true,true,true,true,true,false,false,false,false] rfl rfl (any_of HT_.out (by kernel_rfl)) (fun _ _ _ h=>h) (Or.inl ⟨by rfl,?_⟩) ?_ ?_
         rotate_left
         ·
          intro w'
          go_simp
          with_reducible rfl
         rotate_left
         ·
          simp only[pt_]
          rfl
         refine pure_ (i:=7) (N:=some 36) (v:=?_) (a':=?_) #[true,true,true,true,true,true,true,true,false,false,false] rfl rfl (any_of HT_.out (by kernel_rfl)) (fun _ _ _ h=>h) (Or.inl ⟨by rfl,?_⟩) ?_ ?_
         rotate_left
         ·
          intro w'
          go_simp
          with_reducible rfl
         rotate_left
         ·
          simp only[pt_]
          rfl
         refine pure_ (i:=8) (N:=some 37) (v:=?_) (a':=?_) #[true,true,true,true,true,true,true,true,true,false,false] rfl rfl (any_of HT_.out (by kernel_rfl)) (fun _ _ _ h=>h) (Or.inl ⟨by rfl,?_⟩) ?_ ?_
         rotate_left
         ·
          intro w'
          go_simp
          with_reducible rfl
         rotate_left
         ·
          simp only[pt_]
          rfl
         refine one_ (i:=9) (N:=none) #[true,true,true,true,true,true,true,true,true,true,false] rfl rfl (one_of HT_.out (by kernel_rfl)) (by decide) (fun K hK=>?_)
         have hs20:w19.cell? ⟨gb180,0,none⟩=some (.string (⟨#[]⟩:ByteArray)):=(blk_cell BK180.out 0).trans rfl
         have hfs20:=blk_frozen BK180.out 0
         have hs21:w19.cell? ⟨gb180,1,none⟩=some (.string (⟨#[]⟩:ByteArray)):=(blk_cell BK180.out 1).trans rfl
         have hfs21:=blk_frozen BK180.out 1
         refine skip_ (w1:=?_) (by rfl) rfl ?_ ?_
         rotate_left
         ·
          go_simp
          rfl
         refine hK.out _ _ trivial (fun hHeld=>?_)
         clear hK K
         refine pure_ (i:=10) (N:=some 3) (v:=?_) (a':=?_) #[true,true,true,true,true,true,true,true,true,true,true] rfl rfl (any_of HT_.out (by kernel_rfl)) (fun _ _ _ h=>h) (Or.inl ⟨by rfl,?_⟩) ?_ ?_
         rotate_left
         ·
          intro w'
          go_simp
          with_reducible rfl
         rotate_left
         ·
          simp only[pt_]
          rfl
         refine done_ (done_of HT_.out (by kernel_rfl)) ?_
         try go_wp2
         refine bodyPost_ret (results_ct rfl _ _ gb180 58 #[.string (a0.extract 3 ((ji14):Int).toNat),.string (a0.extract ((ji14):Int).toNat a0.size)] (0,0) _ rfl (by (with_reducible repeat (first|refine blk_drewN ?_ _|refine blk_drew ?_|refine blk_alloc ?_ _));refine blk_put (cs:=#[.string (a0.extract 3 ((ji14):Int).toNat),.string (⟨#[]⟩:ByteArray)]) ?_ 1 _ rfl;(with_reducible repeat (first|refine blk_drewN ?_ _|refine blk_drew ?_|refine blk_alloc ?_ _));refine blk_put (cs:=#[.string (⟨#[]⟩:ByteArray),.string (⟨#[]⟩:ByteArray)]) ?_ 0 _ rfl;(with_reducible repeat (first|refine blk_drewN ?_ _|refine blk_drew ?_|refine blk_alloc ?_ _));exact BK180.out) Tryd.underlying58 rfl (by kernel_rfl)) rfl ?_
         exact ⟨by first|rfl|(simp[errW_none,errW_some] <;> rfl)|(simp only[←hji14];first|rfl|(simp[errW_none,errW_some] <;> rfl))|(simp[*,errW_none,errW_some] <;> rfl),by repeat (first|exact upB HB.out|refine below_set ?_ GE180.out|apply pw_below_drewN)⟩
        ·
         rw[if_neg c15] at H
         exact absurd H (by simp)
       ·
        rw[if_neg c13] at H
        exact absurd H (by simp)
      ·
       rw[if_neg c12] at H
       exact absurd H (by simp)
     ·
      rw[if_neg c11] at H
      have c11b0:((a0.size:Int)==(wrap64 ((wrap64 (3+(wrap64 (bt a0 0))))+(Go.bits .or .i64 (wrap64 ((wrap64 (bt a0 1))*256)) (wrap64 (bt a0 2))))))=false:=beq_eq_false_iff_ne.mpr c11
      have c11b1:((a0.size:Int) != (wrap64 ((wrap64 (3+(wrap64 (bt a0 0))))+(Go.bits .or .i64 (wrap64 ((wrap64 (bt a0 1))*256)) (wrap64 (bt a0 2))))))=true:=bne_iff_ne.mpr c11
      simp only[Option.some.injEq,Prod.mk.injEq] at H
      obtain⟨rfl,rfl,rfl⟩:=H
      go_enter Tryd.func43,Tryd.ntmps43
      try go_wp2_with (first|((with_reducible refine gate_dst (N:=2) rfl ?_);refine box_event ?hg (N:=2) ?hd (cs:=#[.string (⟨#[]⟩:ByteArray),.string (⟨#[]⟩:ByteArray)]) (t:=58) ?hr ?_;(case hd=>rfl);(case hg=>rfl);(case hr=>first|(go_simp;done)|(go_simp;rfl));intro gb180 hg w22 hbox hb;have n0_:=Aside0.mk (below_step (upB HB.out) hb);have n1_:=Aside0.mk (hbox);have n2_:=Aside0.mk ((by rw[hg];exact (below_size (upB HB.out)):w.heap.size≤gb180));have n3_:=Aside0.mk ((by rw[hg];exact (below_size (upB HB.out)):w.heap.size≤gb180));clear HB;have HB:=n0_;have BK180:=n1_;have GW180:=n2_;have GE180:=n3_;clear n0_ n1_ n2_ n3_;clear hb hbox hg;have p6:0≤(0:Int):=(by omega);have q6:0<a0.size:=(by have:(0:Int)<(a0.size:Int):=of_decide_eq_true (by assumption);omega);have hx6 : ∀ h:0<a0.size,((a0[0]'h).toNat:Int)=bt a0 0:=bt_at a0 0;clear p6;have qi6:(0<(a0.size:Int))=True:=eq_true (of_decide_eq_true (by assumption));replace q6:=eq_true q6))
      have n0_:=Aside0.mk (blk_drew BK180.out)
      have n1_:=Aside0.mk (below_drew1 HB.out)
      clear BK180
      clear HB
      have BK180:=n0_
      have HB:=n1_
      clear n0_ n1_
      have p8:0≤(1:Int):=(by omega)
      have q8:1<a0.size:=(by have:(1:Int)<(a0.size:Int):=of_decide_eq_true (by assumption);omega)
      have hx8 : ∀ h:1<a0.size,((a0[1]'h).toNat:Int)=bt a0 1:=bt_at a0 1
      clear p8
      have qi8:(1<(a0.size:Int))=True:=eq_true (of_decide_eq_true (by assumption))
      replace q8:=eq_true q8
      have p10:0≤(2:Int):=(by omega)
      have q10:2<a0.size:=(by have:(2:Int)<(a0.size:Int):=of_decide_eq_true (by assumption);omega)
      have hx10 : ∀ h:2<a0.size,((a0[2]'h).toNat:Int)=bt a0 2:=bt_at a0 2
      clear p10
      have qi10:(2<(a0.size:Int))=True:=eq_true (of_decide_eq_true (by assumption))
      replace q10:=eq_true q10
      refine start_ (n:=9) (S:=fun w'=>True) (ds:=[]) #[false,false,false,false,false,false,false,false,false] (by kernel_rfl) rfl rfl trivial (fun hHeld=>?_);refine with_tabW leaf_pair.tab4 leaf_pair.bits4 (fun HT_ HW_=>?_)
      generalize w22.drew=w23 at BK180 HB hHeld ⊢
      refine pure_ (i:=0) (N:=some 13) (v:=?_) (a':=?_) #[true,false,false,false,false,false,false,false,false] rfl rfl (any_of HT_.out (by kernel_rfl)) (fun _ _ _ h=>h) (Or.inl ⟨by rfl,?_⟩) ?_ ?_
      rotate_left
      ·
       intro w'
       go_simp
       with_reducible rfl
      rotate_left
      ·
       simp only[pt_]
       rfl
      refine pure_ (i:=4) (N:=some 17) (v:=?_) (a':=?_) #[true,false,false,false,true,false,false,false,false] rfl rfl (any_of HT_.out (by kernel_rfl)) (fun _ _ _ h=>h) (Or.inl ⟨by rfl,?_⟩) ?_ ?_
      rotate_left
      ·
       intro w'
       go_simp
       with_reducible rfl
      rotate_left
      ·
       simp only[pt_]
       rfl
      refine take_ (i:=1) (N:=some 14) (v:=?_) (a':=?_) #[true,true,false,false,true,false,false,false,false] rfl rfl (take_ofW HT_.out HW_.out (by kernel_rfl)) (fun _ _ _ h=>h) (Or.inl ⟨by rfl,?_⟩) hHeld ?_ ?_
      rotate_left
      ·
       intro w' _
       go_simp
       with_reducible rfl
      rotate_left
      ·
       simp only[pt_]
       rfl
      refine pure_ (i:=2) (N:=some 15) (v:=?_) (a':=?_) #[true,true,true,false,true,false,false,false,false] rfl rfl (any_of HT_.out (by kernel_rfl)) (fun _ _ _ h=>h) (Or.inl ⟨by rfl,?_⟩) ?_ ?_
      rotate_left
      ·
       intro w'
       go_simp
       with_reducible rfl
      rotate_left
      ·
       simp only[pt_]
       rfl
      refine pure_ (i:=3) (N:=some 16) (v:=?_) (a':=?_) #[true,true,true,true,true,false,false,false,false] rfl rfl (any_of HT_.out (by kernel_rfl)) (fun _ _ _ h=>h) (Or.inl ⟨by rfl,?_⟩) ?_ ?_
      rotate_left
      ·
       intro w'
       go_simp
       with_reducible rfl
      rotate_left
      ·
       simp only[pt_]
       rfl
      refine take_ (i:=5) (N:=some 18) (v:=?_) (a':=?_) #[true,true,true,true,true,true,false,false,false] rfl rfl (take_ofW HT_.out HW_.out (by kernel_rfl)) (fun _ _ _ h=>h) (Or.inl ⟨by rfl,?_⟩) hHeld ?_ ?_
      rotate_left
      ·
       intro w' _
       go_simp
       with_reducible rfl
      rotate_left
      ·
       simp only[pt_]
       rfl
      refine pure_ (i:=6) (N:=some 19) (v:=?_) (a':=?_) #[true,true,true,true,true,true,true,false,false] rfl rfl (any_of HT_.out (by kernel_rfl)) (fun _ _ _ h=>h) (Or.inl ⟨by rfl,?_⟩) ?_ ?_
      rotate_left
      ·
       intro w'
       go_simp
       with_reducible rfl
      rotate_left
      ·
       simp only[pt_]
       rfl
      refine pure_ (i:=7) (N:=some 20) (v:=?_) (a':=?_) #[true,true,true,true,true,true,true,true,false] rfl rfl (any_of HT_.out (by kernel_rfl)) (fun _ _ _ h=>h) (Or.inl ⟨by rfl,?_⟩) ?_ ?_
      rotate_left
      ·
       intro w'
       go_simp
       with_reducible rfl
      rotate_left
      ·
       simp only[pt_]
       rfl
      refine pure_ (i:=8) (N:=some 5) (v:=?_) (a':=?_) #[true,true,true,true,true,true,true,true,true] rfl rfl (any_of HT_.out (by kernel_rfl)) (fun _ _ _ h=>h) (Or.inl ⟨by rfl,?_⟩) ?_ ?_
      rotate_left
      ·
       intro w'
       go_simp
       with_reducible rfl
      rotate_left
      ·
       simp only[pt_]
       rfl
      refine done_ (done_of HT_.out (by kernel_rfl)) ?_
      have hcz24_0:w23.cell? ⟨gb180,0,none⟩=some (.string (⟨#[]⟩:ByteArray)):=(blk_cell BK180.out 0).trans rfl
      have hcz24_1:w23.cell? ⟨gb180,1,none⟩=some (.string (⟨#[]⟩:ByteArray)):=(blk_cell BK180.out 1).trans rfl
      have hfz24_0:=blk_frozen BK180.out 0
      have hfz24_1:=blk_frozen BK180.out 1
      try go_wp2
      refine bodyPost_ret (results_ct rfl _ _ gb180 58 #[.string (⟨#[]⟩:ByteArray),.string (⟨#[]⟩:ByteArray)] (0,0) _ rfl (by (with_reducible repeat (first|refine blk_drewN ?_ _|refine blk_drew ?_|refine blk_alloc ?_ _));refine blk_put (cs:=#[.string (⟨#[]⟩:ByteArray),.string (⟨#[]⟩:ByteArray)]) ?_ 1 _ rfl;(with_reducible repeat (first|refine blk_drewN ?_ _|refine blk_drew ?_|refine blk_alloc ?_ _));refine blk_put (cs:=#[.string (⟨#[]⟩:ByteArray),.string (⟨#[]⟩:ByteArray)]) ?_ 0 _ rfl;(with_reducible repeat (first|refine blk_drewN ?_ _|refine blk_drew ?_|refine blk_alloc ?_ _));exact BK180.out) Tryd.underlying58 rfl (by kernel_rfl)) rfl ?_
      exact ⟨by first|rfl|(simp[errW_none,errW_some] <;> rfl)|(simp[*,errW_none,errW_some] <;> rfl),by repeat (first|exact upB HB.out|refine below_set ?_ GE180.out|apply pw_below_drewN)⟩
    ·
     rw[if_neg c9] at H
     exact absurd H (by simp)
   ·
    rw[if_neg c7] at H
    exact absurd H (by simp)
  ·
   rw[if_neg c5] at H
   exact absurd H (by simp)

/-! ### leaf_Decode: function 23 -/
def leaf_Decode.l0:Nat→List (S58)→List ByteArray→Int→Int→Option ((List (S58))×Option Int)
 |0,_,_,_,_=>none
 |k+1,x8,x22,x23,x24=>if x24<x23 then (if 0≤x24 then (if x24<(x22.length:Int) then ((leaf_pair.f (rdOf ByteArray.empty x22 x24)).bind fun bt187=>(if bt187.2.2=true then (if x8.length<4398046511104 then (leaf_Decode.l0 k (x8++[(⟨bt187.1,bt187.2.1⟩:S58)]) x22 x23 (wrap64 (x24+1))) else (none)) else (some (([]:List (S58)),some 2)))) else (none)) else (none)) else ((leaf_Check.f k x8 true).bind fun t194=>(if t194.isNone=true then (some (x8,none)) else (some (([]:List (S58)),some 2))))
def leaf_Decode.f (k:Nat) (a0:Int) (a1:ByteArray):Option ((List (S58))×Option Int):=(cells_Read.f k a0 a1).bind fun bt181=>(if bt181.2.isNone=true then (leaf_Decode.l0 k ([]:List (S58)) bt181.1 (bt181.1.length:Int) 0) else (some (([]:List (S58)),some 2)))
theorem leaf_Decode.mono_l : ∀ k,(∀ y0 y1 y2 y3,LeO (leaf_Decode.l0 k y0 y1 y2 y3) (leaf_Decode.l0 (k+1) y0 y1 y2 y3))
 |0=>fun _ _ _ _ r h=>by simp[leaf_Decode.l0] at h
 |k+1=>by
  have ih0:=leaf_Decode.mono_l k
  ·
   intro y0 y1 y2 y3
   unfold leaf_Decode.l0
   repeat' first
   |(with_reducible exact ih0 _ _ _ _)
   |(with_reducible exact cells_Read.mono _ _ _)
   |(with_reducible exact leaf_Check.mono _ _ _)
   |(with_reducible exact LeO.refl _)
   |(with_reducible exact LeO.none _)
   |(with_reducible refine LeO.ite ?_ ?_)
   |(with_reducible refine LeO.bind ?_ (fun _=>?_))
   |exact ih0 _ _ _ _
   |exact cells_Read.mono _ _ _
   |exact leaf_Check.mono _ _ _
   |exact LeO.none _
   |refine LeO.ite ?_ ?_
   |refine LeO.bind ?_ (fun _=>?_)
theorem leaf_Decode.mono : ∀ a0 a1 k,LeO (leaf_Decode.f k a0 a1) (leaf_Decode.f (k+1) a0 a1):=by
 intro a0 a1 k
 have ih0:=leaf_Decode.mono_l k
 unfold leaf_Decode.f
 repeat' first
   |(with_reducible exact ih0 _ _ _ _)
   |(with_reducible exact cells_Read.mono _ _ _)
   |(with_reducible exact leaf_Check.mono _ _ _)
   |(with_reducible exact LeO.refl _)
   |(with_reducible exact LeO.none _)
   |(with_reducible refine LeO.ite ?_ ?_)
   |(with_reducible refine LeO.bind ?_ (fun _=>?_))
   |exact ih0 _ _ _ _
   |exact cells_Read.mono _ _ _
   |exact leaf_Check.mono _ _ _
   |exact LeO.none _
   |refine LeO.ite ?_ ?_
   |refine LeO.bind ?_ (fun _=>?_)
set_option maxHeartbeats 8000000 in
set_option maxRecDepth 100000 in
theorem leaf_Decode.calls (k:Nat) (E:Int→Addr) (a0:Int) (a1:ByteArray) (r1:List (S58)) (r2:Option Int) (w:World) (hG:Glob E w) (h:leaf_Decode.f k a0 a1=some (r1,r2)) :
  Calls Tryd.prog 23 #[.int .i64 a0,.string a1] w fun e w'=>∃ v0_:Value,e=.returned (.tuple #[v0_,errW E r2])∧Kd.R k58 58 w' w.heap.size (fun _=>True) v0_ r1∧Below w.heap.size w w':=by
 have hu58:=Tryd.underlying58
 have hu28:=Tryd.underlying28
 have hu100:=Tryd.underlying100
 have HB:=Aside0.mk (Below.refl w.heap.size w)
 have HG:=Aside0.mk hG
 clear hG
 have H:((cells_Read.f k a0 a1).bind fun bt181=>(if bt181.2.isNone=true then (leaf_Decode.l0 k ([]:List (S58)) bt181.1 (bt181.1.length:Int) 0) else (some (([]:List (S58)),some 2))))=some (r1,r2):=h
 clear h
 replace H:=Option.bind_eq_some_iff.mp H
 obtain⟨⟨t181,t182⟩,A30,H⟩:=H
 try dsimp only at H
 have A3:=Aside0.mk A30
 clear A30
 rcases t182 with _|q185
 ·
  have H1:(leaf_Decode.l0 k ([]:List (S58)) t181 (t181.length:Int) 0)=some (r1,r2):=by rw[if_pos (show (none:Option Int).isNone=true by rfl)] at H;exact H
  clear H
  have H:=H1
  clear H1
  try simp only[errW_none,errW_some]
  have H':=Aside0.mk H
  clear H
  go_enter Tryd.func23,Tryd.ntmps23
  go_wp2_with (first|(go_at_call 42;(with_reducible refine (cells_Read.calls k E a0 a1 t181 none _ ?side1 A3.out).mono ?_);(case side1=>exact (Glob.below HG.out (upB HB.out)));rintro e w4 ⟨v183,rfl,ho0,hb⟩;have n0_:=Aside0.mk (Kd.R_lower ho0 (below_size (upB HB.out)));have n1_:=Aside0.mk (below_step (upB HB.out) hb);clear HB;have HO184:=n0_;have HB:=n1_;clear n0_ n1_;(try clear hb);(try clear hb2);(try clear hk);(try clear hi);(try clear ho0);(try simp only[errW_none,errW_some]);obtain⟨Ao5,co5,eo5⟩:=Kd.R_slice HO184.out;subst eo5))
  repeat (go_quiet (first|(go_at_call 42;(with_reducible refine (cells_Read.calls k E a0 a1 t181 none _ ?side1 A3.out).mono ?_);(case side1=>exact (Glob.below HG.out (upB HB.out)));rintro e w4 ⟨v183,rfl,ho0,hb⟩;have n0_:=Aside0.mk (Kd.R_lower ho0 (below_size (upB HB.out)));have n1_:=Aside0.mk (below_step (upB HB.out) hb);clear HB;have HO184:=n0_;have HB:=n1_;clear n0_ n1_;(try clear hb);(try clear hb2);(try clear hk);(try clear hi);(try clear ho0);(try simp only[errW_none,errW_some]);obtain⟨Ao5,co5,eo5⟩:=Kd.R_slice HO184.out;subst eo5));try go_wp2_with (first|(go_at_call 42;(with_reducible refine (cells_Read.calls k E a0 a1 t181 none _ ?side1 A3.out).mono ?_);(case side1=>exact (Glob.below HG.out (upB HB.out)));rintro e w4 ⟨v183,rfl,ho0,hb⟩;have n0_:=Aside0.mk (Kd.R_lower ho0 (below_size (upB HB.out)));have n1_:=Aside0.mk (below_step (upB HB.out) hb);clear HB;have HO184:=n0_;have HB:=n1_;clear n0_ n1_;(try clear hb);(try clear hb2);(try clear hk);(try clear hi);(try clear ho0);(try simp only[errW_none,errW_some]);obtain⟨Ao5,co5,eo5⟩:=Kd.R_slice HO184.out;subst eo5)))
  go_loopg [8,24] k (fun kq v8 v24 w'=>∃ (x8_1:List (S58)) (x24_1:Int),v24=.int .i64 x24_1∧Aside0 (leaf_Decode.l0 kq x8_1 t181 (t181.length:Int) x24_1=some (r1,r2))∧Aside0 (kq≤k)∧Aside0 (Kd.R k58 58 w' w.heap.size (fun _=>True) v8 x8_1)∧Aside0 (Kd.R Kd.string 9 w' w.heap.size (fun _=>True) (.slice Ao5 t181.length co5) t181)∧Aside0 (Below w.heap.size w w'))
  case atStart=>exact ⟨(([]:List (S58))),(0),(by first|rfl|(simp;done)|(simp[*];done)),H',⟨Nat.le_refl _⟩,⟨by first|exact Kd.R_nil _ _ _ _ _|exact Kd.N_nil _ _ _ _ _|exact Kd.V_nil _ _ _ _ _|exact Kd.Q_nil _ _ _ _ _|exact Kd.S_nil _ _ _ _ _⟩,⟨by (with_reducible repeat (first|apply Kd.R_alloc|apply Kd.R_drewN|apply Kd.R_drew));exact HO184.out⟩,⟨upB HB.out⟩⟩
  case round=>
   clear H'
   try clear q1
   try clear c2
   try clear p2
   try clear q185
   obtain⟨x8_1,x24_1,rfl,HA,HK1,HO_8,HO_22,HB⟩:=hrel
   cases gk with
   |zero=>exact absurd HA.out (by simp[leaf_Decode.l0])
   |succ k1=>
    have H:=HA.out
    clear HA
    simp only[leaf_Decode.l0] at H
    by_cases c6:x24_1<(t181.length:Int)
    ·
     rw[if_pos c6] at H
     have c6b0:decide (x24_1<(t181.length:Int))=true:=decide_eq_true c6
     clear c6
     by_cases c7:0≤x24_1
     ·
      rw[if_pos c7] at H
      have c7b0:decide (0≤x24_1)=true:=decide_eq_true c7
      clear c7
      by_cases c8:x24_1<(t181.length:Int)
      ·
       rw[if_pos c8] at H
       have c8b0:decide (x24_1<(t181.length:Int))=true:=decide_eq_true c8
       clear c8
       replace H:=Option.bind_eq_some_iff.mp H
       obtain⟨⟨t187,t188,t189⟩,A90,H⟩:=H
       try dsimp only at H
       have A9:=Aside0.mk A90
       clear A90
       by_cases c10:t189=true
       ·
        subst c10
        have H1:(if x8_1.length<4398046511104 then (leaf_Decode.l0 k1 (x8_1++[(⟨t187,t188⟩:S58)]) t181 (t181.length:Int) (wrap64 (x24_1+1))) else (none))=some (r1,r2):=by rw[if_pos rfl] at H;exact H
        clear H
        have H:=H1
        clear H1
        by_cases c11:x8_1.length<4398046511104
        ·
         rw[if_pos c11] at H
         have LMc11:=Aside0.mk c11
         clear c11
         obtain⟨y191,hy191⟩ : ∃ y_:List (S58),y_=(x8_1++[(⟨t187,t188⟩:S58)]):=⟨_,rfl⟩
         replace H:(leaf_Decode.l0 k1 y191 t181 (t181.length:Int) (wrap64 (x24_1+1)))=some (r1,r2):=by first|(rw[hy191];with_reducible exact H)|(have H2_:=(Option.bind_some _ _).symm.trans H;rw[hy191];with_reducible exact H2_)|(have H2_:=(Option.bind_some _ _).symm.trans H;with_reducible exact H2_)|with_reducible exact H|(rw[hy191];exact H)|exact H
         have Ny191:=Aside0.mk hy191
         clear hy191
         have H':=Aside0.mk H
         clear H
         have p186:0≤(x24_1:Int):=of_decide_eq_true (by assumption)
         have q186:x24_1<(t181.length:Int):=of_decide_eq_true (by assumption)
         obtain⟨ad186,e186,hx186_0⟩:=Kd.at_string (Kd.R_reads' HO_22.out).2.2 x24_1 p186 q186
         cases e186
         replace p186:=eq_true p186
         replace q186:=eq_true q186
         go_wp2_with (first|(go_at_call 43;(with_reducible refine (leaf_pair.calls (rdOf ByteArray.empty t181 x24_1) t187 t188 true _ A9.out).mono ?_);rintro e w12 ⟨rfl,hb⟩;have n0_:=Aside0.mk (Kd.R_below (upK HO_8.out) hb);have n1_:=Aside0.mk (Kd.R_below (upK HO_22.out) hb);have n2_:=Aside0.mk (below_step (upB HB.out) hb);clear HO_8;clear HO_22;clear HB;have HO_8:=n0_;have HO_22:=n1_;have HB:=n2_;clear n0_ n1_ n2_;(try clear hb);(try clear hb2);(try clear hk);(try clear hi))|((with_reducible refine gate_dst (N:=11) rfl ?_);refine box_event ?hg (N:=11) ?hd (cs:=#[.string (⟨#[]⟩:ByteArray),.string (⟨#[]⟩:ByteArray)]) (t:=58) ?hr ?_;(case hd=>rfl);(case hg=>rfl);(case hr=>first|(go_simp;done)|(go_simp;rfl));intro gb190 hg w13 hbox hb;have n0_:=Aside0.mk (Kd.R_below (Kd.R_elderB (upK HO_8.out) gb190 (Nat.le_of_eq hg.symm)) hb);have n1_:=Aside0.mk (Kd.R_below (upK HO_22.out) hb);have n2_:=Aside0.mk (below_step (upB HB.out) hb);have n3_:=Aside0.mk (hbox);have n4_:=Aside0.mk ((by rw[hg];exact (below_size (upB HB.out)):w.heap.size≤gb190));have n5_:=Aside0.mk ((by rw[hg];exact (below_size (upB HB.out)):w.heap.size≤gb190));clear HO_8;clear HO_22;clear HB;have HO_8:=n0_;have HO_22:=n1_;have HB:=n2_;have BK190:=n3_;have GW190:=n4_;have GE190:=n5_;clear n0_ n1_ n2_ n3_ n4_ n5_;clear hb hbox hg;have hcz14_0:w13.cell? ⟨gb190,0,none⟩=some (.string (⟨#[]⟩:ByteArray)):=(blk_cell BK190.out 0).trans rfl;have hcz14_1:w13.cell? ⟨gb190,1,none⟩=some (.string (⟨#[]⟩:ByteArray)):=(blk_cell BK190.out 1).trans rfl;have hfz14_0:=blk_frozen BK190.out 0;have hfz14_1:=blk_frozen BK190.out 1)|((with_reducible refine gate_builtin (b:=.append) (xs:=#[.tmp 36,.tmp 38]) rfl ?_);at_builtin;refine Kd.R_append k58 (w0:=w) w.heap.size rfl (.tmp 36) (.tmp 38) 22 58 (.agg #[(.string ⟨#[]⟩),(.string ⟨#[]⟩)]) 32 rfl Tryd.underlying22 info58 rfl (by decide) (by omega) u8 x8_1 (⟨t187,t188⟩:S58) [.string t187,.string t188] (fun k_=>k_≠gb190) (fun _=>False) rfl (by first|(go_simp;done)|(go_simp;rfl)) ?aP (fun _ hk=>hk.elim) ?aF ?aO ?aB ?aS ?aL ?_;(case aP=>exact k58_mkM _ _ _ (⟨t187,t188⟩:S58));(case aB=>exact (by repeat (first|exact upB HB.out|refine below_set ?_ GE190.out)));(case aF=>exact (fun k_ hk=>Kd.freshB (g:=gb190) (o:=.cells #[.string t187,.string t188] 58 (0,0)) (by (with_reducible repeat (first|refine blk_drewN ?_ _|refine blk_drew ?_|refine blk_alloc ?_ _));refine blk_put (cs:=#[.string t187,.string (⟨#[]⟩:ByteArray)]) ?_ 1 _ rfl;(with_reducible repeat (first|refine blk_drewN ?_ _|refine blk_drew ?_|refine blk_alloc ?_ _));refine blk_put (cs:=#[.string (⟨#[]⟩:ByteArray),.string (⟨#[]⟩:ByteArray)]) ?_ 0 _ rfl;(with_reducible repeat (first|refine blk_drewN ?_ _|refine blk_drew ?_|refine blk_alloc ?_ _));exact BK190.out) k_ hk));(case aO=>exact (by (with_reducible repeat (first|apply Kd.R_alloc|apply Kd.R_drewN|apply Kd.R_drew));exact Kd.R_mono (Kd.R_far (p:=⟨gb190,1,none⟩) (Kd.R_far (p:=⟨gb190,0,none⟩) (Kd.R_mono HO_8.out (fun k_ hk=>(⟨hk,hk.2⟩:_∧k_≠gb190))) (fun _ hk=>hk.2) (.string t187)) (fun _ hk=>hk.2) (.string t188)) (fun _ hk=>hk.1.2)));(case aS=>exact (below_size (by repeat (first|exact upB HB.out|refine below_set ?_ GE190.out))));(case aL=>have:=LMc11.out;omega);intro v192 w15 ho hb hg hat;rw[←Ny191.out] at ho;have n0_:=Aside0.mk (Kd.R_over' (by (with_reducible repeat (first|apply Kd.R_alloc|apply Kd.R_drewN|apply Kd.R_drew));exact (Kd.R_mono (Kd.R_far (p:=⟨gb190,1,none⟩) (Kd.R_far (p:=⟨gb190,0,none⟩) (Kd.R_types HO_22.out BK190.out (by decide)) (fun _ hk=>hk.2) (.string t187)) (fun _ hk=>hk.2) (.string t188)) (fun _ h_=>h_.1))) (Kd.R_typed (by (with_reducible repeat (first|apply Kd.R_alloc|apply Kd.R_drewN|apply Kd.R_drew));exact (Kd.R_mono (Kd.R_far (p:=⟨gb190,1,none⟩) (Kd.R_far (p:=⟨gb190,0,none⟩) (Kd.R_mono HO_8.out (fun k_ hk=>(⟨hk,hk.2⟩:_∧k_≠gb190))) (fun _ hk=>hk.2) (.string t187)) (fun _ hk=>hk.2) (.string t188)) (fun _ h_=>h_.1)))) (by decide) hg);have n1_:=Aside0.mk (blk_grown (g:=gb190) (o:=.cells #[.string t187,.string t188] 58 (0,0)) (by (with_reducible repeat (first|refine blk_drewN ?_ _|refine blk_drew ?_|refine blk_alloc ?_ _));refine blk_put (cs:=#[.string t187,.string (⟨#[]⟩:ByteArray)]) ?_ 1 _ rfl;(with_reducible repeat (first|refine blk_drewN ?_ _|refine blk_drew ?_|refine blk_alloc ?_ _));refine blk_put (cs:=#[.string (⟨#[]⟩:ByteArray),.string (⟨#[]⟩:ByteArray)]) ?_ 0 _ rfl;(with_reducible repeat (first|refine blk_drewN ?_ _|refine blk_drew ?_|refine blk_alloc ?_ _));exact BK190.out) hg (Kd.R_away HO_8.out (fun _ hk=>hk.2)));have n2_:=Aside0.mk (hb);have n3_:=Aside0.mk (ho);clear HO_22;clear BK190;clear HB;clear HO_8;have HO_22:=n0_;have BK190:=n1_;have HB:=n2_;have HO193:=n3_;clear n0_ n1_ n2_ n3_;clear ho hb hg hat))
         repeat (go_quiet (first|(go_at_call 43;(with_reducible refine (leaf_pair.calls (rdOf ByteArray.empty t181 x24_1) t187 t188 true _ A9.out).mono ?_);rintro e w12 ⟨rfl,hb⟩;have n0_:=Aside0.mk (Kd.R_below (upK HO_8.out) hb);have n1_:=Aside0.mk (Kd.R_below (upK HO_22.out) hb);have n2_:=Aside0.mk (below_step (upB HB.out) hb);clear HO_8;clear HO_22;clear HB;have HO_8:=n0_;have HO_22:=n1_;have HB:=n2_;clear n0_ n1_ n2_;(try clear hb);(try clear hb2);(try clear hk);(try clear hi))|((with_reducible refine gate_dst (N:=11) rfl ?_);refine box_event ?hg (N:=11) ?hd (cs:=#[.string (⟨#[]⟩:ByteArray),.string (⟨#[]⟩:ByteArray)]) (t:=58) ?hr ?_;(case hd=>rfl);(case hg=>rfl);(case hr=>first|(go_simp;done)|(go_simp;rfl));intro gb190 hg w13 hbox hb;have n0_:=Aside0.mk (Kd.R_below (Kd.R_elderB (upK HO_8.out) gb190 (Nat.le_of_eq hg.symm)) hb);have n1_:=Aside0.mk (Kd.R_below (upK HO_22.out) hb);have n2_:=Aside0.mk (below_step (upB HB.out) hb);have n3_:=Aside0.mk (hbox);have n4_:=Aside0.mk ((by rw[hg];exact (below_size (upB HB.out)):w.heap.size≤gb190));have n5_:=Aside0.mk ((by rw[hg];exact (below_size (upB HB.out)):w.heap.size≤gb190));clear HO_8;clear HO_22;clear HB;have HO_8:=n0_;have HO_22:=n1_;have HB:=n2_;have BK190:=n3_;have GW190:=n4_;have GE190:=n5_;clear n0_ n1_ n2_ n3_ n4_ n5_;clear hb hbox hg;have hcz14_0:w13.cell? ⟨gb190,0,none⟩=some (.string (⟨#[]⟩:ByteArray)):=(blk_cell BK190.out 0).trans rfl;have hcz14_1:w13.cell? ⟨gb190,1,none⟩=some (.string (⟨#[]⟩:ByteArray)):=(blk_cell BK190.out 1).trans rfl;have hfz14_0:=blk_frozen BK190.out 0;have hfz14_1:=blk_frozen BK190.out 1)|((with_reducible refine gate_builtin (b:=.append) (xs:=#[.tmp 36,.tmp 38]) rfl ?_);at_builtin;refine Kd.R_append k58 (w0:=w) w.heap.size rfl (.tmp 36) (.tmp 38) 22 58 (.agg #[(.string ⟨#[]⟩),(.string ⟨#[]⟩)]) 32 rfl Tryd.underlying22 info58 rfl (by decide) (by omega) u8 x8_1 (⟨t187,t188⟩:S58) [.string t187,.string t188] (fun k_=>k_≠gb190) (fun _=>False) rfl (by first|(go_simp;done)|(go_simp;rfl)) ?aP (fun _ hk=>hk.elim) ?aF ?aO ?aB ?aS ?aL ?_;(case aP=>exact k58_mkM _ _ _ (⟨t187,t188⟩:S58));(case aB=>exact (by repeat (first|exact upB HB.out|refine below_set ?_ GE190.out)));(case aF=>exact (fun k_ hk=>Kd.freshB (g:=gb190) (o:=.cells #[.string t187,.string t188] 58 (0,0)) (by (with_reducible repeat (first|refine blk_drewN ?_ _|refine blk_drew ?_|refine blk_alloc ?_ _));refine blk_put (cs:=#[.string t187,.string (⟨#[]⟩:ByteArray)]) ?_ 1 _ rfl;(with_reducible repeat (first|refine blk_drewN ?_ _|refine blk_drew ?_|refine blk_alloc ?_ _));refine blk_put (cs:=#[.string (⟨#[]⟩:ByteArray),.string (⟨#[]⟩:ByteArray)]) ?_ 0 _ rfl;(with_reducible repeat (first|refine blk_drewN ?_ _|refine blk_drew ?_|refine blk_alloc ?_ _));exact BK190.out) k_ hk));(case aO=>exact (by (with_reducible repeat (first|apply Kd.R_alloc|apply Kd.R_drewN|apply Kd.R_drew));exact Kd.R_mono (Kd.R_far (p:=⟨gb190,1,none⟩) (Kd.R_far (p:=⟨gb190,0,none⟩) (Kd.R_mono HO_8.out (fun k_ hk=>(⟨hk,hk.2⟩:_∧k_≠gb190))) (fun _ hk=>hk.2) (.string t187)) (fun _ hk=>hk.2) (.string t188)) (fun _ hk=>hk.1.2)));(case aS=>exact (below_size (by repeat (first|exact upB HB.out|refine below_set ?_ GE190.out))));(case aL=>have:=LMc11.out;omega);intro v192 w15 ho hb hg hat;rw[←Ny191.out] at ho;have n0_:=Aside0.mk (Kd.R_over' (by (with_reducible repeat (first|apply Kd.R_alloc|apply Kd.R_drewN|apply Kd.R_drew));exact (Kd.R_mono (Kd.R_far (p:=⟨gb190,1,none⟩) (Kd.R_far (p:=⟨gb190,0,none⟩) (Kd.R_types HO_22.out BK190.out (by decide)) (fun _ hk=>hk.2) (.string t187)) (fun _ hk=>hk.2) (.string t188)) (fun _ h_=>h_.1))) (Kd.R_typed (by (with_reducible repeat (first|apply Kd.R_alloc|apply Kd.R_drewN|apply Kd.R_drew));exact (Kd.R_mono (Kd.R_far (p:=⟨gb190,1,none⟩) (Kd.R_far (p:=⟨gb190,0,none⟩) (Kd.R_mono HO_8.out (fun k_ hk=>(⟨hk,hk.2⟩:_∧k_≠gb190))) (fun _ hk=>hk.2) (.string t187)) (fun _ hk=>hk.2) (.string t188)) (fun _ h_=>h_.1)))) (by decide) hg);have n1_:=Aside0.mk (blk_grown (g:=gb190) (o:=.cells #[.string t187,.string t188] 58 (0,0)) (by (with_reducible repeat (first|refine blk_drewN ?_ _|refine blk_drew ?_|refine blk_alloc ?_ _));refine blk_put (cs:=#[.string t187,.string (⟨#[]⟩:ByteArray)]) ?_ 1 _ rfl;(with_reducible repeat (first|refine blk_drewN ?_ _|refine blk_drew ?_|refine blk_alloc ?_ _));refine blk_put (cs:=#[.string (⟨#[]⟩:ByteArray),.string (⟨#[]⟩:ByteArray)]) ?_ 0 _ rfl;(with_reducible repeat (first|refine blk_drewN ?_ _|refine blk_drew ?_|refine blk_alloc ?_ _));exact BK190.out) hg (Kd.R_away HO_8.out (fun _ hk=>hk.2)));have n2_:=Aside0.mk (hb);have n3_:=Aside0.mk (ho);clear HO_22;clear BK190;clear HB;clear HO_8;have HO_22:=n0_;have BK190:=n1_;have HB:=n2_;have HO193:=n3_;clear n0_ n1_ n2_ n3_;clear ho hb hg hat));try go_wp2_with (first|(go_at_call 43;(with_reducible refine (leaf_pair.calls (rdOf ByteArray.empty t181 x24_1) t187 t188 true _ A9.out).mono ?_);rintro e w12 ⟨rfl,hb⟩;have n0_:=Aside0.mk (Kd.R_below (upK HO_8.out) hb);have n1_:=Aside0.mk (Kd.R_below (upK HO_22.out) hb);have n2_:=Aside0.mk (below_step (upB HB.out) hb);clear HO_8;clear HO_22;clear HB;have HO_8:=n0_;have HO_22:=n1_;have HB:=n2_;clear n0_ n1_ n2_;(try clear hb);(try clear hb2);(try clear hk);(try clear hi))|((with_reducible refine gate_dst (N:=11) rfl ?_);refine box_event ?hg (N:=11) ?hd (cs:=#[.string (⟨#[]⟩:ByteArray),.string (⟨#[]⟩:ByteArray)]) (t:=58) ?hr ?_;(case hd=>rfl);(case hg=>rfl);(case hr=>first|(go_simp;done)|(go_simp;rfl));intro gb190 hg w13 hbox hb;have n0_:=Aside0.mk (Kd.R_below (Kd.R_elderB (upK HO_8.out) gb190 (Nat.le_of_eq hg.symm)) hb);have n1_:=Aside0.mk (Kd.R_below (upK HO_22.out) hb);have n2_:=Aside0.mk (below_step (upB HB.out) hb);have n3_:=Aside0.mk (hbox);have n4_:=Aside0.mk ((by rw[hg];exact (below_size (upB HB.out)):w.heap.size≤gb190));have n5_:=Aside0.mk ((by rw[hg];exact (below_size (upB HB.out)):w.heap.size≤gb190));clear HO_8;clear HO_22;clear HB;have HO_8:=n0_;have HO_22:=n1_;have HB:=n2_;have BK190:=n3_;have GW190:=n4_;have GE190:=n5_;clear n0_ n1_ n2_ n3_ n4_ n5_;clear hb hbox hg;have hcz14_0:w13.cell? ⟨gb190,0,none⟩=some (.string (⟨#[]⟩:ByteArray)):=(blk_cell BK190.out 0).trans rfl;have hcz14_1:w13.cell? ⟨gb190,1,none⟩=some (.string (⟨#[]⟩:ByteArray)):=(blk_cell BK190.out 1).trans rfl;have hfz14_0:=blk_frozen BK190.out 0;have hfz14_1:=blk_frozen BK190.out 1)|((with_reducible refine gate_builtin (b:=.append) (xs:=#[.tmp 36,.tmp 38]) rfl ?_);at_builtin;refine Kd.R_append k58 (w0:=w) w.heap.size rfl (.tmp 36) (.tmp 38) 22 58 (.agg #[(.string ⟨#[]⟩),(.string ⟨#[]⟩)]) 32 rfl Tryd.underlying22 info58 rfl (by decide) (by omega) u8 x8_1 (⟨t187,t188⟩:S58) [.string t187,.string t188] (fun k_=>k_≠gb190) (fun _=>False) rfl (by first|(go_simp;done)|(go_simp;rfl)) ?aP (fun _ hk=>hk.elim) ?aF ?aO ?aB ?aS ?aL ?_;(case aP=>exact k58_mkM _ _ _ (⟨t187,t188⟩:S58));(case aB=>exact (by repeat (first|exact upB HB.out|refine below_set ?_ GE190.out)));(case aF=>exact (fun k_ hk=>Kd.freshB (g:=gb190) (o:=.cells #[.string t187,.string t188] 58 (0,0)) (by (with_reducible repeat (first|refine blk_drewN ?_ _|refine blk_drew ?_|refine blk_alloc ?_ _));refine blk_put (cs:=#[.string t187,.string (⟨#[]⟩:ByteArray)]) ?_ 1 _ rfl;(with_reducible repeat (first|refine blk_drewN ?_ _|refine blk_drew ?_|refine blk_alloc ?_ _));refine blk_put (cs:=#[.string (⟨#[]⟩:ByteArray),.string (⟨#[]⟩:ByteArray)]) ?_ 0 _ rfl;(with_reducible repeat (first|refine blk_drewN ?_ _|refine blk_drew ?_|refine blk_alloc ?_ _));exact BK190.out) k_ hk));(case aO=>exact (by (with_reducible repeat (first|apply Kd.R_alloc|apply Kd.R_drewN|apply Kd.R_drew));exact Kd.R_mono (Kd.R_far (p:=⟨gb190,1,none⟩) (Kd.R_far (p:=⟨gb190,0,none⟩) (Kd.R_mono HO_8.out (fun k_ hk=>(⟨hk,hk.2⟩:_∧k_≠gb190))) (fun _ hk=>hk.2) (.string t187)) (fun _ hk=>hk.2) (.string t188)) (fun _ hk=>hk.1.2)));(case aS=>exact (below_size (by repeat (first|exact upB HB.out|refine below_set ?_ GE190.out))));(case aL=>have:=LMc11.out;omega);intro v192 w15 ho hb hg hat;rw[←Ny191.out] at ho;have n0_:=Aside0.mk (Kd.R_over' (by (with_reducible repeat (first|apply Kd.R_alloc|apply Kd.R_drewN|apply Kd.R_drew));exact (Kd.R_mono (Kd.R_far (p:=⟨gb190,1,none⟩) (Kd.R_far (p:=⟨gb190,0,none⟩) (Kd.R_types HO_22.out BK190.out (by decide)) (fun _ hk=>hk.2) (.string t187)) (fun _ hk=>hk.2) (.string t188)) (fun _ h_=>h_.1))) (Kd.R_typed (by (with_reducible repeat (first|apply Kd.R_alloc|apply Kd.R_drewN|apply Kd.R_drew));exact (Kd.R_mono (Kd.R_far (p:=⟨gb190,1,none⟩) (Kd.R_far (p:=⟨gb190,0,none⟩) (Kd.R_mono HO_8.out (fun k_ hk=>(⟨hk,hk.2⟩:_∧k_≠gb190))) (fun _ hk=>hk.2) (.string t187)) (fun _ hk=>hk.2) (.string t188)) (fun _ h_=>h_.1)))) (by decide) hg);have n1_:=Aside0.mk (blk_grown (g:=gb190) (o:=.cells #[.string t187,.string t188] 58 (0,0)) (by (with_reducible repeat (first|refine blk_drewN ?_ _|refine blk_drew ?_|refine blk_alloc ?_ _));refine blk_put (cs:=#[.string t187,.string (⟨#[]⟩:ByteArray)]) ?_ 1 _ rfl;(with_reducible repeat (first|refine blk_drewN ?_ _|refine blk_drew ?_|refine blk_alloc ?_ _));refine blk_put (cs:=#[.string (⟨#[]⟩:ByteArray),.string (⟨#[]⟩:ByteArray)]) ?_ 0 _ rfl;(with_reducible repeat (first|refine blk_drewN ?_ _|refine blk_drew ?_|refine blk_alloc ?_ _));exact BK190.out) hg (Kd.R_away HO_8.out (fun _ hk=>hk.2)));have n2_:=Aside0.mk (hb);have n3_:=Aside0.mk (ho);clear HO_22;clear BK190;clear HB;clear HO_8;have HO_22:=n0_;have BK190:=n1_;have HB:=n2_;have HO193:=n3_;clear n0_ n1_ n2_ n3_;clear ho hb hg hat)))
         go_roundg k1
         case measure=>have:=HK1.out;omega
         case rel=>exact ⟨(y191),(wrap64 (x24_1+1)),(by first|rfl|(simp;done)|(simp[*];done)),H',⟨by have:=HK1.out;omega⟩,⟨by exact Kd.R_mono (upK HO193.out) (fun _ hk=>trivial)⟩,⟨by (with_reducible repeat (first|apply Kd.R_alloc|apply Kd.R_drewN|apply Kd.R_drew));exact HO_22.out⟩,⟨by repeat (first|exact upB HB.out|refine below_set ?_ GE190.out|apply pw_below_drewN)⟩⟩
        ·
         rw[if_neg c11] at H
         exact absurd H (by simp)
       ·
        replace c10:=Bool.eq_false_iff.mpr c10
        subst c10
        have H1:(some (([]:List (S58)),some 2))=some (r1,r2):=by rw[if_neg (show ¬ (false=true) by decide)] at H;exact H
        clear H
        have H:=H1
        clear H1
        simp only[Option.some.injEq,Prod.mk.injEq] at H
        obtain⟨rfl,rfl⟩:=H
        have p186:0≤(x24_1:Int):=of_decide_eq_true (by assumption)
        have q186:x24_1<(t181.length:Int):=of_decide_eq_true (by assumption)
        obtain⟨ad186,e186,hx186_0⟩:=Kd.at_string (Kd.R_reads' HO_22.out).2.2 x24_1 p186 q186
        cases e186
        replace p186:=eq_true p186
        replace q186:=eq_true q186
        go_wp2_with (first|(go_at_call 43;(with_reducible refine (leaf_pair.calls (rdOf ByteArray.empty t181 x24_1) t187 t188 false _ A9.out).mono ?_);rintro e w16 ⟨rfl,hb⟩;have n0_:=Aside0.mk (Kd.R_below (upK HO_8.out) hb);have n1_:=Aside0.mk (Kd.R_below (upK HO_22.out) hb);have n2_:=Aside0.mk (below_step (upB HB.out) hb);clear HO_8;clear HO_22;clear HB;have HO_8:=n0_;have HO_22:=n1_;have HB:=n2_;clear n0_ n1_ n2_;(try clear hb);(try clear hb2);(try clear hk);(try clear hi))|((with_reducible refine gate_dst (N:=11) rfl ?_);refine box_event ?hg (N:=11) ?hd (cs:=#[.string (⟨#[]⟩:ByteArray),.string (⟨#[]⟩:ByteArray)]) (t:=58) ?hr ?_;(case hd=>rfl);(case hg=>rfl);(case hr=>first|(go_simp;done)|(go_simp;rfl));intro gb190 hg w17 hbox hb;have n0_:=Aside0.mk (Kd.R_below (Kd.R_elderB (upK HO_8.out) gb190 (Nat.le_of_eq hg.symm)) hb);have n1_:=Aside0.mk (Kd.R_below (upK HO_22.out) hb);have n2_:=Aside0.mk (below_step (upB HB.out) hb);have n3_:=Aside0.mk (hbox);have n4_:=Aside0.mk ((by rw[hg];exact (below_size (upB HB.out)):w.heap.size≤gb190));have n5_:=Aside0.mk ((by rw[hg];exact (below_size (upB HB.out)):w.heap.size≤gb190));clear HO_8;clear HO_22;clear HB;have HO_8:=n0_;have HO_22:=n1_;have HB:=n2_;have BK190:=n3_;have GW190:=n4_;have GE190:=n5_;clear n0_ n1_ n2_ n3_ n4_ n5_;clear hb hbox hg;have hcz18_0:w17.cell? ⟨gb190,0,none⟩=some (.string (⟨#[]⟩:ByteArray)):=(blk_cell BK190.out 0).trans rfl;have hcz18_1:w17.cell? ⟨gb190,1,none⟩=some (.string (⟨#[]⟩:ByteArray)):=(blk_cell BK190.out 1).trans rfl;have hfz18_0:=blk_frozen BK190.out 0;have hfz18_1:=blk_frozen BK190.out 1;have hx19:((w17.setCell ⟨gb190,0,none⟩ (.string t187)).setCell ⟨gb190,1,none⟩ (.string t188)).cell? ⟨4,0,none⟩=some (errW E (some 2)):=Glob.c4 (Glob.below HG.out (by repeat (first|exact upB HB.out|refine below_set ?_ GE190.out)));simp only[errW_some] at hx19))
        repeat (go_quiet (first|(go_at_call 43;(with_reducible refine (leaf_pair.calls (rdOf ByteArray.empty t181 x24_1) t187 t188 false _ A9.out).mono ?_);rintro e w16 ⟨rfl,hb⟩;have n0_:=Aside0.mk (Kd.R_below (upK HO_8.out) hb);have n1_:=Aside0.mk (Kd.R_below (upK HO_22.out) hb);have n2_:=Aside0.mk (below_step (upB HB.out) hb);clear HO_8;clear HO_22;clear HB;have HO_8:=n0_;have HO_22:=n1_;have HB:=n2_;clear n0_ n1_ n2_;(try clear hb);(try clear hb2);(try clear hk);(try clear hi))|((with_reducible refine gate_dst (N:=11) rfl ?_);refine box_event ?hg (N:=11) ?hd (cs:=#[.string (⟨#[]⟩:ByteArray),.string (⟨#[]⟩:ByteArray)]) (t:=58) ?hr ?_;(case hd=>rfl);(case hg=>rfl);(case hr=>first|(go_simp;done)|(go_simp;rfl));intro gb190 hg w17 hbox hb;have n0_:=Aside0.mk (Kd.R_below (Kd.R_elderB (upK HO_8.out) gb190 (Nat.le_of_eq hg.symm)) hb);have n1_:=Aside0.mk (Kd.R_below (upK HO_22.out) hb);have n2_:=Aside0.mk (below_step (upB HB.out) hb);have n3_:=Aside0.mk (hbox);have n4_:=Aside0.mk ((by rw[hg];exact (below_size (upB HB.out)):w.heap.size≤gb190));have n5_:=Aside0.mk ((by rw[hg];exact (below_size (upB HB.out)):w.heap.size≤gb190));clear HO_8;clear HO_22;clear HB;have HO_8:=n0_;have HO_22:=n1_;have HB:=n2_;have BK190:=n3_;have GW190:=n4_;have GE190:=n5_;clear n0_ n1_ n2_ n3_ n4_ n5_;clear hb hbox hg;have hcz18_0:w17.cell? ⟨gb190,0,none⟩=some (.string (⟨#[]⟩:ByteArray)):=(blk_cell BK190.out 0).trans rfl;have hcz18_1:w17.cell? ⟨gb190,1,none⟩=some (.string (⟨#[]⟩:ByteArray)):=(blk_cell BK190.out 1).trans rfl;have hfz18_0:=blk_frozen BK190.out 0;have hfz18_1:=blk_frozen BK190.out 1;have hx19:((w17.setCell ⟨gb190,0,none⟩ (.string t187)).setCell ⟨gb190,1,none⟩ (.string t188)).cell? ⟨4,0,none⟩=some (errW E (some 2)):=Glob.c4 (Glob.below HG.out (by repeat (first|exact upB HB.out|refine below_set ?_ GE190.out)));simp only[errW_some] at hx19));try go_wp2_with (first|(go_at_call 43;(with_reducible refine (leaf_pair.calls (rdOf ByteArray.empty t181 x24_1) t187 t188 false _ A9.out).mono ?_);rintro e w16 ⟨rfl,hb⟩;have n0_:=Aside0.mk (Kd.R_below (upK HO_8.out) hb);have n1_:=Aside0.mk (Kd.R_below (upK HO_22.out) hb);have n2_:=Aside0.mk (below_step (upB HB.out) hb);clear HO_8;clear HO_22;clear HB;have HO_8:=n0_;have HO_22:=n1_;have HB:=n2_;clear n0_ n1_ n2_;(try clear hb);(try clear hb2);(try clear hk);(try clear hi))|((with_reducible refine gate_dst (N:=11) rfl ?_);refine box_event ?hg (N:=11) ?hd (cs:=#[.string (⟨#[]⟩:ByteArray),.string (⟨#[]⟩:ByteArray)]) (t:=58) ?hr ?_;(case hd=>rfl);(case hg=>rfl);(case hr=>first|(go_simp;done)|(go_simp;rfl));intro gb190 hg w17 hbox hb;have n0_:=Aside0.mk (Kd.R_below (Kd.R_elderB (upK HO_8.out) gb190 (Nat.le_of_eq hg.symm)) hb);have n1_:=Aside0.mk (Kd.R_below (upK HO_22.out) hb);have n2_:=Aside0.mk (below_step (upB HB.out) hb);have n3_:=Aside0.mk (hbox);have n4_:=Aside0.mk ((by rw[hg];exact (below_size (upB HB.out)):w.heap.size≤gb190));have n5_:=Aside0.mk ((by rw[hg];exact (below_size (upB HB.out)):w.heap.size≤gb190));clear HO_8;clear HO_22;clear HB;have HO_8:=n0_;have HO_22:=n1_;have HB:=n2_;have BK190:=n3_;have GW190:=n4_;have GE190:=n5_;clear n0_ n1_ n2_ n3_ n4_ n5_;clear hb hbox hg;have hcz18_0:w17.cell? ⟨gb190,0,none⟩=some (.string (⟨#[]⟩:ByteArray)):=(blk_cell BK190.out 0).trans rfl;have hcz18_1:w17.cell? ⟨gb190,1,none⟩=some (.string (⟨#[]⟩:ByteArray)):=(blk_cell BK190.out 1).trans rfl;have hfz18_0:=blk_frozen BK190.out 0;have hfz18_1:=blk_frozen BK190.out 1;have hx19:((w17.setCell ⟨gb190,0,none⟩ (.string t187)).setCell ⟨gb190,1,none⟩ (.string t188)).cell? ⟨4,0,none⟩=some (errW E (some 2)):=Glob.c4 (Glob.below HG.out (by repeat (first|exact upB HB.out|refine below_set ?_ GE190.out)));simp only[errW_some] at hx19)))
        go_ret2
        exact ⟨_,by first|rfl|(simp[errW_none,errW_some] <;> rfl)|(simp[*,errW_none,errW_some] <;> rfl),by first|exact Kd.R_nil _ _ _ _ _|exact Kd.N_nil _ _ _ _ _|exact Kd.V_nil _ _ _ _ _|exact Kd.Q_nil _ _ _ _ _|exact Kd.S_nil _ _ _ _ _,by repeat (first|exact upB HB.out|refine below_set ?_ GE190.out|apply pw_below_drewN)⟩
      ·
       rw[if_neg c8] at H
       exact absurd H (by simp)
     ·
      rw[if_neg c7] at H
      exact absurd H (by simp)
    ·
     rw[if_neg c6] at H
     have c6b0:decide (x24_1<(t181.length:Int))=false:=decide_eq_false c6
     clear c6
     replace H:=Option.bind_eq_some_iff.mp H
     obtain⟨t194,A200,H⟩:=H
     try dsimp only at H
     have A20:=Aside0.mk A200
     clear A200
     rcases t194 with _|q195
     ·
      have H1:(some (x8_1,none))=some (r1,r2):=by rw[if_pos (show (none:Option Int).isNone=true by rfl)] at H;exact H
      clear H
      have H:=H1
      clear H1
      try simp only[errW_none,errW_some]
      simp only[Option.some.injEq,Prod.mk.injEq] at H
      obtain⟨rfl,rfl⟩:=H
      obtain⟨Ao21,co21,eo21⟩:=Kd.R_slice HO_8.out
      subst eo21
      go_wp2_with (first|(go_at_call 13;(with_reducible refine (leaf_Check.calls k1 E _ _ x8_1 true none _ ?side1 ?side2 ?side3 A20.out).mono ?_);(case side1=>exact (Glob.below HG.out (upB HB.out)));(case side2=>exact upC (Kd.R_reads' HO_8.out).2.2);(case side3=>exact (Kd.R_reads' HO_8.out).2.1);rintro e w22 ⟨rfl,hb⟩;have n0_:=Aside0.mk (Kd.R_below (upK HO_8.out) hb);have n1_:=Aside0.mk (Kd.R_below (upK HO_22.out) hb);have n2_:=Aside0.mk (below_step (upB HB.out) hb);clear HO_8;clear HO_22;clear HB;have HO_8:=n0_;have HO_22:=n1_;have HB:=n2_;clear n0_ n1_ n2_;(try clear hb);(try clear hb2);(try clear hk);(try clear hi);(try simp only[errW_none,errW_some])))
      repeat (go_quiet (first|(go_at_call 13;(with_reducible refine (leaf_Check.calls k1 E _ _ x8_1 true none _ ?side1 ?side2 ?side3 A20.out).mono ?_);(case side1=>exact (Glob.below HG.out (upB HB.out)));(case side2=>exact upC (Kd.R_reads' HO_8.out).2.2);(case side3=>exact (Kd.R_reads' HO_8.out).2.1);rintro e w22 ⟨rfl,hb⟩;have n0_:=Aside0.mk (Kd.R_below (upK HO_8.out) hb);have n1_:=Aside0.mk (Kd.R_below (upK HO_22.out) hb);have n2_:=Aside0.mk (below_step (upB HB.out) hb);clear HO_8;clear HO_22;clear HB;have HO_8:=n0_;have HO_22:=n1_;have HB:=n2_;clear n0_ n1_ n2_;(try clear hb);(try clear hb2);(try clear hk);(try clear hi);(try simp only[errW_none,errW_some])));try go_wp2_with (first|(go_at_call 13;(with_reducible refine (leaf_Check.calls k1 E _ _ x8_1 true none _ ?side1 ?side2 ?side3 A20.out).mono ?_);(case side1=>exact (Glob.below HG.out (upB HB.out)));(case side2=>exact upC (Kd.R_reads' HO_8.out).2.2);(case side3=>exact (Kd.R_reads' HO_8.out).2.1);rintro e w22 ⟨rfl,hb⟩;have n0_:=Aside0.mk (Kd.R_below (upK HO_8.out) hb);have n1_:=Aside0.mk (Kd.R_below (upK HO_22.out) hb);have n2_:=Aside0.mk (below_step (upB HB.out) hb);clear HO_8;clear HO_22;clear HB;have HO_8:=n0_;have HO_22:=n1_;have HB:=n2_;clear n0_ n1_ n2_;(try clear hb);(try clear hb2);(try clear hk);(try clear hi);(try simp only[errW_none,errW_some]))))
      go_ret2
      exact ⟨_,by first|rfl|(simp[errW_none,errW_some] <;> rfl)|(simp[*,errW_none,errW_some] <;> rfl),by (with_reducible repeat (first|apply Kd.R_alloc|apply Kd.R_drewN|apply Kd.R_drew));exact HO_8.out,upB HB.out⟩
     ·
      have H1:(some (([]:List (S58)),some 2))=some (r1,r2):=by rw[if_neg (show ¬ (some q195).isNone=true by simp)] at H;exact H
      clear H
      have H:=H1
      clear H1
      try simp only[errW_none,errW_some]
      simp only[Option.some.injEq,Prod.mk.injEq] at H
      obtain⟨rfl,rfl⟩:=H
      obtain⟨Ao23,co23,eo23⟩:=Kd.R_slice HO_8.out
      subst eo23
      go_wp2_with (first|(go_at_call 13;(with_reducible refine (leaf_Check.calls k1 E _ _ x8_1 true (some q195) _ ?side1 ?side2 ?side3 A20.out).mono ?_);(case side1=>exact (Glob.below HG.out (upB HB.out)));(case side2=>exact upC (Kd.R_reads' HO_8.out).2.2);(case side3=>exact (Kd.R_reads' HO_8.out).2.1);rintro e w24 ⟨rfl,hb⟩;have n0_:=Aside0.mk (Kd.R_below (upK HO_8.out) hb);have n1_:=Aside0.mk (Kd.R_below (upK HO_22.out) hb);have n2_:=Aside0.mk (below_step (upB HB.out) hb);clear HO_8;clear HO_22;clear HB;have HO_8:=n0_;have HO_22:=n1_;have HB:=n2_;clear n0_ n1_ n2_;(try clear hb);(try clear hb2);(try clear hk);(try clear hi);(try simp only[errW_none,errW_some]);have hx25:w24.cell? ⟨4,0,none⟩=some (errW E (some 2)):=Glob.c4 (Glob.below HG.out (upB HB.out));simp only[errW_some] at hx25))
      repeat (go_quiet (first|(go_at_call 13;(with_reducible refine (leaf_Check.calls k1 E _ _ x8_1 true (some q195) _ ?side1 ?side2 ?side3 A20.out).mono ?_);(case side1=>exact (Glob.below HG.out (upB HB.out)));(case side2=>exact upC (Kd.R_reads' HO_8.out).2.2);(case side3=>exact (Kd.R_reads' HO_8.out).2.1);rintro e w24 ⟨rfl,hb⟩;have n0_:=Aside0.mk (Kd.R_below (upK HO_8.out) hb);have n1_:=Aside0.mk (Kd.R_below (upK HO_22.out) hb);have n2_:=Aside0.mk (below_step (upB HB.out) hb);clear HO_8;clear HO_22;clear HB;have HO_8:=n0_;have HO_22:=n1_;have HB:=n2_;clear n0_ n1_ n2_;(try clear hb);(try clear hb2);(try clear hk);(try clear hi);(try simp only[errW_none,errW_some]);have hx25:w24.cell? ⟨4,0,none⟩=some (errW E (some 2)):=Glob.c4 (Glob.below HG.out (upB HB.out));simp only[errW_some] at hx25));try go_wp2_with (first|(go_at_call 13;(with_reducible refine (leaf_Check.calls k1 E _ _ x8_1 true (some q195) _ ?side1 ?side2 ?side3 A20.out).mono ?_);(case side1=>exact (Glob.below HG.out (upB HB.out)));(case side2=>exact upC (Kd.R_reads' HO_8.out).2.2);(case side3=>exact (Kd.R_reads' HO_8.out).2.1);rintro e w24 ⟨rfl,hb⟩;have n0_:=Aside0.mk (Kd.R_below (upK HO_8.out) hb);have n1_:=Aside0.mk (Kd.R_below (upK HO_22.out) hb);have n2_:=Aside0.mk (below_step (upB HB.out) hb);clear HO_8;clear HO_22;clear HB;have HO_8:=n0_;have HO_22:=n1_;have HB:=n2_;clear n0_ n1_ n2_;(try clear hb);(try clear hb2);(try clear hk);(try clear hi);(try simp only[errW_none,errW_some]);have hx25:w24.cell? ⟨4,0,none⟩=some (errW E (some 2)):=Glob.c4 (Glob.below HG.out (upB HB.out));simp only[errW_some] at hx25)))
      go_ret2
      exact ⟨_,by first|rfl|(simp[errW_none,errW_some] <;> rfl)|(simp[*,errW_none,errW_some] <;> rfl),by first|exact Kd.R_nil _ _ _ _ _|exact Kd.N_nil _ _ _ _ _|exact Kd.V_nil _ _ _ _ _|exact Kd.Q_nil _ _ _ _ _|exact Kd.S_nil _ _ _ _ _,upB HB.out⟩
 ·
  have H1:(some (([]:List (S58)),some 2))=some (r1,r2):=by rw[if_neg (show ¬ (some q185).isNone=true by simp)] at H;exact H
  clear H
  have H:=H1
  clear H1
  try simp only[errW_none,errW_some]
  simp only[Option.some.injEq,Prod.mk.injEq] at H
  obtain⟨rfl,rfl⟩:=H
  go_enter Tryd.func23,Tryd.ntmps23
  go_wp2_with (first|(go_at_call 42;(with_reducible refine (cells_Read.calls k E a0 a1 t181 (some q185) _ ?side1 A3.out).mono ?_);(case side1=>exact (Glob.below HG.out (upB HB.out)));rintro e w26 ⟨v183,rfl,ho0,hb⟩;have n0_:=Aside0.mk (Kd.R_lower ho0 (below_size (upB HB.out)));have n1_:=Aside0.mk (below_step (upB HB.out) hb);clear HB;have HO184:=n0_;have HB:=n1_;clear n0_ n1_;(try clear hb);(try clear hb2);(try clear hk);(try clear hi);(try clear ho0);(try simp only[errW_none,errW_some]);have hx27:w26.cell? ⟨4,0,none⟩=some (errW E (some 2)):=Glob.c4 (Glob.below HG.out (upB HB.out));simp only[errW_some] at hx27))
  repeat (go_quiet (first|(go_at_call 42;(with_reducible refine (cells_Read.calls k E a0 a1 t181 (some q185) _ ?side1 A3.out).mono ?_);(case side1=>exact (Glob.below HG.out (upB HB.out)));rintro e w26 ⟨v183,rfl,ho0,hb⟩;have n0_:=Aside0.mk (Kd.R_lower ho0 (below_size (upB HB.out)));have n1_:=Aside0.mk (below_step (upB HB.out) hb);clear HB;have HO184:=n0_;have HB:=n1_;clear n0_ n1_;(try clear hb);(try clear hb2);(try clear hk);(try clear hi);(try clear ho0);(try simp only[errW_none,errW_some]);have hx27:w26.cell? ⟨4,0,none⟩=some (errW E (some 2)):=Glob.c4 (Glob.below HG.out (upB HB.out));simp only[errW_some] at hx27));try go_wp2_with (first|(go_at_call 42;(with_reducible refine (cells_Read.calls k E a0 a1 t181 (some q185) _ ?side1 A3.out).mono ?_);(case side1=>exact (Glob.below HG.out (upB HB.out)));rintro e w26 ⟨v183,rfl,ho0,hb⟩;have n0_:=Aside0.mk (Kd.R_lower ho0 (below_size (upB HB.out)));have n1_:=Aside0.mk (below_step (upB HB.out) hb);clear HB;have HO184:=n0_;have HB:=n1_;clear n0_ n1_;(try clear hb);(try clear hb2);(try clear hk);(try clear hi);(try clear ho0);(try simp only[errW_none,errW_some]);have hx27:w26.cell? ⟨4,0,none⟩=some (errW E (some 2)):=Glob.c4 (Glob.below HG.out (upB HB.out));simp only[errW_some] at hx27)))
  go_ret2
  exact ⟨_,by first|rfl|(simp[errW_none,errW_some] <;> rfl)|(simp[*,errW_none,errW_some] <;> rfl),by first|exact Kd.R_nil _ _ _ _ _|exact Kd.N_nil _ _ _ _ _|exact Kd.V_nil _ _ _ _ _|exact Kd.Q_nil _ _ _ _ _|exact Kd.S_nil _ _ _ _ _,upB HB.out⟩

/-! ### copselaw7_begun: function 25 -/
def copselaw7_begun.f (k:Nat)  : Option (Bool):=(leaf_Encode.f k (([(⟨(⟨#[97]⟩:ByteArray),(⟨#[49]⟩:ByteArray)⟩:S58)]:List (S58)))).bind fun bt199=>((leaf_Decode.f k 1 bt199.1).bind fun bt201=>(if bt199.2.isNone=true then (if bt201.2.isNone=true then (if (bt199.1.size:Int)=4072 then (if (bt201.1.length:Int)=1 then (if 0<(bt201.1.length:Int) then (some ((((rd_T58 bt201.1 0).f0).toList)==([97]:List UInt8)&&((((rd_T58 bt201.1 0).f1).toList)==([49]:List UInt8)))) else (none)) else (some false)) else (some false)) else (some false)) else (some false)))
theorem copselaw7_begun.mono : ∀ k,LeO (copselaw7_begun.f k) (copselaw7_begun.f (k+1)):=by
 intro  k
 unfold copselaw7_begun.f
 repeat' first
   |(with_reducible exact leaf_Decode.mono _ _ _)
   |(with_reducible exact leaf_Encode.mono _ _)
   |(with_reducible exact LeO.refl _)
   |(with_reducible exact LeO.none _)
   |(with_reducible refine LeO.ite ?_ ?_)
   |(with_reducible refine LeO.bind ?_ (fun _=>?_))
   |exact leaf_Decode.mono _ _ _
   |exact leaf_Encode.mono _ _
   |exact LeO.none _
   |refine LeO.ite ?_ ?_
   |refine LeO.bind ?_ (fun _=>?_)
set_option maxHeartbeats 8000000 in
set_option maxRecDepth 100000 in
theorem copselaw7_begun.calls (k:Nat) (E:Int→Addr)  (r:Bool) (w:World) (hG:Glob E w) (h:copselaw7_begun.f k  = some r) :
  Calls Tryd.prog 25 #[] w fun e w'=>e=.returned (.bool r)∧Below w.heap.size w w':=by
 have hu58:=Tryd.underlying58
 have hu28:=Tryd.underlying28
 have hu100:=Tryd.underlying100
 have HB:=Aside0.mk (Below.refl w.heap.size w)
 have HG:=Aside0.mk hG
 clear hG
 have H:((leaf_Encode.f k (([(⟨(⟨#[97]⟩:ByteArray),(⟨#[49]⟩:ByteArray)⟩:S58)]:List (S58)))).bind fun bt199=>((leaf_Decode.f k 1 bt199.1).bind fun bt201=>(if bt199.2.isNone=true then (if bt201.2.isNone=true then (if (bt199.1.size:Int)=4072 then (if (bt201.1.length:Int)=1 then (if 0<(bt201.1.length:Int) then (some ((((rd_T58 bt201.1 0).f0).toList)==([97]:List UInt8)&&((((rd_T58 bt201.1 0).f1).toList)==([49]:List UInt8)))) else (none)) else (some false)) else (some false)) else (some false)) else (some false))))=some r:=h
 clear h
 obtain⟨y196,hy196⟩ : ∃ y_:List (S58),y_=(([(⟨(⟨#[97]⟩:ByteArray),(⟨#[49]⟩:ByteArray)⟩:S58)]:List (S58))):=⟨_,rfl⟩
 replace H:((leaf_Encode.f k y196).bind fun bt199=>((leaf_Decode.f k 1 bt199.1).bind fun bt201=>(if bt199.2.isNone=true then (if bt201.2.isNone=true then (if (bt199.1.size:Int)=4072 then (if (bt201.1.length:Int)=1 then (if 0<(bt201.1.length:Int) then (some ((((rd_T58 bt201.1 0).f0).toList)==([97]:List UInt8)&&((((rd_T58 bt201.1 0).f1).toList)==([49]:List UInt8)))) else (none)) else (some false)) else (some false)) else (some false)) else (some false))))=some r:=by first|(rw[hy196];with_reducible exact H)|(have H2_:=(Option.bind_some _ _).symm.trans H;rw[hy196];with_reducible exact H2_)|(have H2_:=(Option.bind_some _ _).symm.trans H;with_reducible exact H2_)|with_reducible exact H|(rw[hy196];exact H)|exact H
 have Ny196:=Aside0.mk hy196
 clear hy196
 replace H:=Option.bind_eq_some_iff.mp H
 obtain⟨⟨t199,t200⟩,A10,H⟩:=H
 try dsimp only at H
 have A1:=Aside0.mk A10
 clear A10
 replace H:=Option.bind_eq_some_iff.mp H
 obtain⟨⟨t201,t202⟩,A20,H⟩:=H
 try dsimp only at H
 have A2:=Aside0.mk A20
 clear A20
 rcases t200 with _|q205
 ·
  have H1:(if t202.isNone=true then (if (t199.size:Int)=4072 then (if (t201.length:Int)=1 then (if 0<(t201.length:Int) then (some ((((rd_T58 t201 0).f0).toList)==([97]:List UInt8)&&((((rd_T58 t201 0).f1).toList)==([49]:List UInt8)))) else (none)) else (some false)) else (some false)) else (some false))=some r:=by rw[if_pos (show (none:Option Int).isNone=true by rfl)] at H;exact H
  clear H
  have H:=H1
  clear H1
  try simp only[errW_none,errW_some]
  rcases t202 with _|q206
  ·
   have H1:(if (t199.size:Int)=4072 then (if (t201.length:Int)=1 then (if 0<(t201.length:Int) then (some ((((rd_T58 t201 0).f0).toList)==([97]:List UInt8)&&((((rd_T58 t201 0).f1).toList)==([49]:List UInt8)))) else (none)) else (some false)) else (some false))=some r:=by rw[if_pos (show (none:Option Int).isNone=true by rfl)] at H;exact H
   clear H
   have H:=H1
   clear H1
   try simp only[errW_none,errW_some]
   by_cases c3:(t199.size:Int)=4072
   ·
    rw[if_pos c3] at H
    have c3b0:((t199.size:Int)==4072)=true:=beq_iff_eq.mpr c3
    have c3b1:((t199.size:Int) != 4072)=false:=bne_eq_false_iff_eq.mpr c3
    clear c3
    by_cases c4:(t201.length:Int)=1
    ·
     rw[if_pos c4] at H
     have c4b0:((t201.length:Int)==1)=true:=beq_iff_eq.mpr c4
     have c4b1:((t201.length:Int) != 1)=false:=bne_eq_false_iff_eq.mpr c4
     clear c4
     by_cases c5:0<(t201.length:Int)
     ·
      rw[if_pos c5] at H
      have c5b0:decide (0<(t201.length:Int))=true:=decide_eq_true c5
      have c5b1:decide (0<t201.length)=true:=decide_eq_true (by omega)
      clear c5
      obtain rfl:=Option.some.inj H
      go_enter Tryd.func25,Tryd.ntmps25
      go_wp2_with (first|((with_reducible refine gate_dst (N:=7) rfl ?_);(try (refine gate_guard (by rfl) ?_;dsimp only));refine Kd.R_lit k58 _ 58 ?hg (N:=7) ?hd (xs:=([(⟨(⟨#[97]⟩:ByteArray),(⟨#[49]⟩:ByteArray)⟩:S58)]:List (S58))) (inner:=[.string (⟨#[97]⟩:ByteArray),.string (⟨#[49]⟩:ByteArray)]) (ok:=fun _=>True) (okp:=fun _=>True) ?hr ?hp (fun _ hk=>hk) trivial (Below.refl _ _) (Nat.le_refl _) (by simp) ?_;(case hd=>rfl);(case hg=>rfl);(case hr=>first|(go_simp;done)|(go_simp;rfl));(case hp=>exact (Reps.c2 (show Kd.M k58 _ _ _ (⟨(⟨#[97]⟩:ByteArray),(⟨#[49]⟩:ByteArray)⟩:S58) [.string (⟨#[97]⟩:ByteArray),.string (⟨#[49]⟩:ByteArray)] from (k58_mkM _ _ _ (⟨(⟨#[97]⟩:ByteArray),(⟨#[49]⟩:ByteArray)⟩:S58))) (Reps.none _ _)));intro v197 w6 ho7 hb hg_ hnew_;clear hg_ hnew_;(first|rw[←Ny196.out] at ho7|(simp only[Int.reduceToNat] at ho7;rw[←Ny196.out] at ho7));have n0_:=Aside0.mk (Kd.R_lower ho7 (below_size (upB HB.out)));have n1_:=Aside0.mk (below_step (upB HB.out) hb);clear HB;have HO198:=n0_;have HB:=n1_;clear n0_ n1_;clear hb ho7;obtain⟨Ao8,co8,eo8⟩:=Kd.R_slice HO198.out;subst eo8)|((with_reducible refine gate_callee (f:=21) rfl ?_);refine goesL_ (some 8) rfl rfl Tryd.func21 (by kernel_rfl) rfl #[.slice Ao8 y196.length co8] rfl (by (try simp only[ml_]);first|done|rfl|(simp only[List.length_drop,List.length_take];rfl)) ?_;(with_reducible refine (leaf_Encode.calls k E _ _ y196 t199 none _ ?side1 ?side2 ?side3 A1.out).mono ?_);(case side1=>exact (Glob.below HG.out (upB HB.out)));(case side2=>exact upC (Kd.R_reads' HO198.out).2.2);(case side3=>exact (Kd.R_reads' HO198.out).2.1);rintro e w9 ⟨rfl,hb⟩;refine ⟨_,rfl,?_⟩;have n0_:=Aside0.mk (Kd.R_below (upK HO198.out) hb);have n1_:=Aside0.mk (below_step (upB HB.out) hb);clear HO198;clear HB;have HO198:=n0_;have HB:=n1_;clear n0_ n1_;(try clear hb);(try clear hb2);(try clear hk);(try clear hi);(try simp only[errW_none,errW_some]))|((with_reducible refine gate_callee (f:=23) rfl ?_);refine goesL_ (some 13) rfl rfl Tryd.func23 (by kernel_rfl) rfl #[.int .i64 1,.string t199] rfl (by (try simp only[ml_]);first|done|rfl|(simp only[List.length_drop,List.length_take];rfl)) ?_;(with_reducible refine (leaf_Decode.calls k E 1 t199 t201 none _ ?side1 A2.out).mono ?_);(case side1=>exact (Glob.below HG.out (upB HB.out)));rintro e w10 ⟨v203,rfl,ho0,hb⟩;refine ⟨_,rfl,?_⟩;have n0_:=Aside0.mk (Kd.R_elder' (upK HO198.out) (Kd.R_base ho0) hb);have n1_:=Aside0.mk (Kd.R_lower (Kd.R_new' ho0 (Kd.R_lt (upK HO198.out))) (below_size (upB HB.out)));have n2_:=Aside0.mk (below_step (upB HB.out) hb);clear HO198;clear HB;have HO198:=n0_;have HO204:=n1_;have HB:=n2_;clear n0_ n1_ n2_;(try clear hb);(try clear hb2);(try clear hk);(try clear hi);(try clear ho0);(try simp only[errW_none,errW_some]);obtain⟨Ao11,co11,eo11⟩:=Kd.R_slice HO204.out;subst eo11;have p207:0≤(0:Int):=(by omega);have q207:0<(t201.length:Int):=of_decide_eq_true (by assumption);obtain⟨ad207,e207,hx207_0,hx207_1⟩:=at_T58 (Kd.R_reads' HO204.out).2.2 0 p207 q207;cases e207;have qi207:(0<t201.length)=True:=eq_true (by omega);(try rw[show ((0:Int)).toNat=0 from rfl] at hx207_0);(try rw[show 0*2=0 from rfl] at hx207_0);(try rw[Addr.add_zero'] at hx207_0);(try rw[show ((0:Int)).toNat=0 from rfl] at hx207_1);(try rw[show 0*2=0 from rfl] at hx207_1);(try rw[Addr.add_zero'] at hx207_1);replace p207:=eq_true p207;replace q207:=eq_true q207))
      go_ret
      exact ⟨by first|rfl|(simp[errW_none,errW_some] <;> rfl)|(simp[*,errW_none,errW_some] <;> rfl),upB HB.out⟩
     ·
      rw[if_neg c5] at H
      exact absurd H (by simp)
    ·
     rw[if_neg c4] at H
     have c4b0:((t201.length:Int)==1)=false:=beq_eq_false_iff_ne.mpr c4
     have c4b1:((t201.length:Int) != 1)=true:=bne_iff_ne.mpr c4
     obtain rfl:=Option.some.inj H
     go_enter Tryd.func25,Tryd.ntmps25
     go_wp2_with (first|((with_reducible refine gate_dst (N:=7) rfl ?_);(try (refine gate_guard (by rfl) ?_;dsimp only));refine Kd.R_lit k58 _ 58 ?hg (N:=7) ?hd (xs:=([(⟨(⟨#[97]⟩:ByteArray),(⟨#[49]⟩:ByteArray)⟩:S58)]:List (S58))) (inner:=[.string (⟨#[97]⟩:ByteArray),.string (⟨#[49]⟩:ByteArray)]) (ok:=fun _=>True) (okp:=fun _=>True) ?hr ?hp (fun _ hk=>hk) trivial (Below.refl _ _) (Nat.le_refl _) (by simp) ?_;(case hd=>rfl);(case hg=>rfl);(case hr=>first|(go_simp;done)|(go_simp;rfl));(case hp=>exact (Reps.c2 (show Kd.M k58 _ _ _ (⟨(⟨#[97]⟩:ByteArray),(⟨#[49]⟩:ByteArray)⟩:S58) [.string (⟨#[97]⟩:ByteArray),.string (⟨#[49]⟩:ByteArray)] from (k58_mkM _ _ _ (⟨(⟨#[97]⟩:ByteArray),(⟨#[49]⟩:ByteArray)⟩:S58))) (Reps.none _ _)));intro v197 w12 ho13 hb hg_ hnew_;clear hg_ hnew_;(first|rw[←Ny196.out] at ho13|(simp only[Int.reduceToNat] at ho13;rw[←Ny196.out] at ho13));have n0_:=Aside0.mk (Kd.R_lower ho13 (below_size (upB HB.out)));have n1_:=Aside0.mk (below_step (upB HB.out) hb);clear HB;have HO198:=n0_;have HB:=n1_;clear n0_ n1_;clear hb ho13;obtain⟨Ao14,co14,eo14⟩:=Kd.R_slice HO198.out;subst eo14)|((with_reducible refine gate_callee (f:=21) rfl ?_);refine goesL_ (some 8) rfl rfl Tryd.func21 (by kernel_rfl) rfl #[.slice Ao14 y196.length co14] rfl (by (try simp only[ml_]);first|done|rfl|(simp only[List.length_drop,List.length_take];rfl)) ?_;(with_reducible refine (leaf_Encode.calls k E _ _ y196 t199 none _ ?side1 ?side2 ?side3 A1.out).mono ?_);(case side1=>exact (Glob.below HG.out (upB HB.out)));(case side2=>exact upC (Kd.R_reads' HO198.out).2.2);(case side3=>exact (Kd.R_reads' HO198.out).2.1);rintro e w15 ⟨rfl,hb⟩;refine ⟨_,rfl,?_⟩;have n0_:=Aside0.mk (Kd.R_below (upK HO198.out) hb);have n1_:=Aside0.mk (below_step (upB HB.out) hb);clear HO198;clear HB;have HO198:=n0_;have HB:=n1_;clear n0_ n1_;(try clear hb);(try clear hb2);(try clear hk);(try clear hi);(try simp only[errW_none,errW_some]))|((with_reducible refine gate_callee (f:=23) rfl ?_);refine goesL_ (some 13) rfl rfl Tryd.func23 (by kernel_rfl) rfl #[.int .i64 1,.string t199] rfl (by (try simp only[ml_]);first|done|rfl|(simp only[List.length_drop,List.length_take];rfl)) ?_;(with_reducible refine (leaf_Decode.calls k E 1 t199 t201 none _ ?side1 A2.out).mono ?_);(case side1=>exact (Glob.below HG.out (upB HB.out)));rintro e w16 ⟨v203,rfl,ho0,hb⟩;refine ⟨_,rfl,?_⟩;have n0_:=Aside0.mk (Kd.R_elder' (upK HO198.out) (Kd.R_base ho0) hb);have n1_:=Aside0.mk (Kd.R_lower (Kd.R_new' ho0 (Kd.R_lt (upK HO198.out))) (below_size (upB HB.out)));have n2_:=Aside0.mk (below_step (upB HB.out) hb);clear HO198;clear HB;have HO198:=n0_;have HO204:=n1_;have HB:=n2_;clear n0_ n1_ n2_;(try clear hb);(try clear hb2);(try clear hk);(try clear hi);(try clear ho0);(try simp only[errW_none,errW_some]);obtain⟨Ao17,co17,eo17⟩:=Kd.R_slice HO204.out;subst eo17))
     go_ret
     exact ⟨by first|rfl|(simp[errW_none,errW_some] <;> rfl)|(simp[*,errW_none,errW_some] <;> rfl),upB HB.out⟩
   ·
    rw[if_neg c3] at H
    have c3b0:((t199.size:Int)==4072)=false:=beq_eq_false_iff_ne.mpr c3
    have c3b1:((t199.size:Int) != 4072)=true:=bne_iff_ne.mpr c3
    obtain rfl:=Option.some.inj H
    go_enter Tryd.func25,Tryd.ntmps25
    go_wp2_with (first|((with_reducible refine gate_dst (N:=7) rfl ?_);(try (refine gate_guard (by rfl) ?_;dsimp only));refine Kd.R_lit k58 _ 58 ?hg (N:=7) ?hd (xs:=([(⟨(⟨#[97]⟩:ByteArray),(⟨#[49]⟩:ByteArray)⟩:S58)]:List (S58))) (inner:=[.string (⟨#[97]⟩:ByteArray),.string (⟨#[49]⟩:ByteArray)]) (ok:=fun _=>True) (okp:=fun _=>True) ?hr ?hp (fun _ hk=>hk) trivial (Below.refl _ _) (Nat.le_refl _) (by simp) ?_;(case hd=>rfl);(case hg=>rfl);(case hr=>first|(go_simp;done)|(go_simp;rfl));(case hp=>exact (Reps.c2 (show Kd.M k58 _ _ _ (⟨(⟨#[97]⟩:ByteArray),(⟨#[49]⟩:ByteArray)⟩:S58) [.string (⟨#[97]⟩:ByteArray),.string (⟨#[49]⟩:ByteArray)] from (k58_mkM _ _ _ (⟨(⟨#[97]⟩:ByteArray),(⟨#[49]⟩:ByteArray)⟩:S58))) (Reps.none _ _)));intro v197 w18 ho19 hb hg_ hnew_;clear hg_ hnew_;(first|rw[←Ny196.out] at ho19|(simp only[Int.reduceToNat] at ho19;rw[←Ny196.out] at ho19));have n0_:=Aside0.mk (Kd.R_lower ho19 (below_size (upB HB.out)));have n1_:=Aside0.mk (below_step (upB HB.out) hb);clear HB;have HO198:=n0_;have HB:=n1_;clear n0_ n1_;clear hb ho19;obtain⟨Ao20,co20,eo20⟩:=Kd.R_slice HO198.out;subst eo20)|((with_reducible refine gate_callee (f:=21) rfl ?_);refine goesL_ (some 8) rfl rfl Tryd.func21 (by kernel_rfl) rfl #[.slice Ao20 y196.length co20] rfl (by (try simp only[ml_]);first|done|rfl|(simp only[List.length_drop,List.length_take];rfl)) ?_;(with_reducible refine (leaf_Encode.calls k E _ _ y196 t199 none _ ?side1 ?side2 ?side3 A1.out).mono ?_);(case side1=>exact (Glob.below HG.out (upB HB.out)));(case side2=>exact upC (Kd.R_reads' HO198.out).2.2);(case side3=>exact (Kd.R_reads' HO198.out).2.1);rintro e w21 ⟨rfl,hb⟩;refine ⟨_,rfl,?_⟩;have n0_:=Aside0.mk (Kd.R_below (upK HO198.out) hb);have n1_:=Aside0.mk (below_step (upB HB.out) hb);clear HO198;clear HB;have HO198:=n0_;have HB:=n1_;clear n0_ n1_;(try clear hb);(try clear hb2);(try clear hk);(try clear hi);(try simp only[errW_none,errW_some]))|((with_reducible refine gate_callee (f:=23) rfl ?_);refine goesL_ (some 13) rfl rfl Tryd.func23 (by kernel_rfl) rfl #[.int .i64 1,.string t199] rfl (by (try simp only[ml_]);first|done|rfl|(simp only[List.length_drop,List.length_take];rfl)) ?_;(with_reducible refine (leaf_Decode.calls k E 1 t199 t201 none _ ?side1 A2.out).mono ?_);(case side1=>exact (Glob.below HG.out (upB HB.out)));rintro e w22 ⟨v203,rfl,ho0,hb⟩;refine ⟨_,rfl,?_⟩;have n0_:=Aside0.mk (Kd.R_elder' (upK HO198.out) (Kd.R_base ho0) hb);have n1_:=Aside0.mk (Kd.R_lower (Kd.R_new' ho0 (Kd.R_lt (upK HO198.out))) (below_size (upB HB.out)));have n2_:=Aside0.mk (below_step (upB HB.out) hb);clear HO198;clear HB;have HO198:=n0_;have HO204:=n1_;have HB:=n2_;clear n0_ n1_ n2_;(try clear hb);(try clear hb2);(try clear hk);(try clear hi);(try clear ho0);(try simp only[errW_none,errW_some])))
    go_ret
    exact ⟨by first|rfl|(simp[errW_none,errW_some] <;> rfl)|(simp[*,errW_none,errW_some] <;> rfl),upB HB.out⟩
  ·
   have H1:(some false)=some r:=by rw[if_neg (show ¬ (some q206).isNone=true by simp)] at H;exact H
   clear H
   have H:=H1
   clear H1
   try simp only[errW_none,errW_some]
   obtain rfl:=Option.some.inj H
   go_enter Tryd.func25,Tryd.ntmps25
   go_wp2_with (first|((with_reducible refine gate_dst (N:=7) rfl ?_);(try (refine gate_guard (by rfl) ?_;dsimp only));refine Kd.R_lit k58 _ 58 ?hg (N:=7) ?hd (xs:=([(⟨(⟨#[97]⟩:ByteArray),(⟨#[49]⟩:ByteArray)⟩:S58)]:List (S58))) (inner:=[.string (⟨#[97]⟩:ByteArray),.string (⟨#[49]⟩:ByteArray)]) (ok:=fun _=>True) (okp:=fun _=>True) ?hr ?hp (fun _ hk=>hk) trivial (Below.refl _ _) (Nat.le_refl _) (by simp) ?_;(case hd=>rfl);(case hg=>rfl);(case hr=>first|(go_simp;done)|(go_simp;rfl));(case hp=>exact (Reps.c2 (show Kd.M k58 _ _ _ (⟨(⟨#[97]⟩:ByteArray),(⟨#[49]⟩:ByteArray)⟩:S58) [.string (⟨#[97]⟩:ByteArray),.string (⟨#[49]⟩:ByteArray)] from (k58_mkM _ _ _ (⟨(⟨#[97]⟩:ByteArray),(⟨#[49]⟩:ByteArray)⟩:S58))) (Reps.none _ _)));intro v197 w23 ho24 hb hg_ hnew_;clear hg_ hnew_;(first|rw[←Ny196.out] at ho24|(simp only[Int.reduceToNat] at ho24;rw[←Ny196.out] at ho24));have n0_:=Aside0.mk (Kd.R_lower ho24 (below_size (upB HB.out)));have n1_:=Aside0.mk (below_step (upB HB.out) hb);clear HB;have HO198:=n0_;have HB:=n1_;clear n0_ n1_;clear hb ho24;obtain⟨Ao25,co25,eo25⟩:=Kd.R_slice HO198.out;subst eo25)|((with_reducible refine gate_callee (f:=21) rfl ?_);refine goesL_ (some 8) rfl rfl Tryd.func21 (by kernel_rfl) rfl #[.slice Ao25 y196.length co25] rfl (by (try simp only[ml_]);first|done|rfl|(simp only[List.length_drop,List.length_take];rfl)) ?_;(with_reducible refine (leaf_Encode.calls k E _ _ y196 t199 none _ ?side1 ?side2 ?side3 A1.out).mono ?_);(case side1=>exact (Glob.below HG.out (upB HB.out)));(case side2=>exact upC (Kd.R_reads' HO198.out).2.2);(case side3=>exact (Kd.R_reads' HO198.out).2.1);rintro e w26 ⟨rfl,hb⟩;refine ⟨_,rfl,?_⟩;have n0_:=Aside0.mk (Kd.R_below (upK HO198.out) hb);have n1_:=Aside0.mk (below_step (upB HB.out) hb);clear HO198;clear HB;have HO198:=n0_;have HB:=n1_;clear n0_ n1_;(try clear hb);(try clear hb2);(try clear hk);(try clear hi);(try simp only[errW_none,errW_some]))|((with_reducible refine gate_callee (f:=23) rfl ?_);refine goesL_ (some 13) rfl rfl Tryd.func23 (by kernel_rfl) rfl #[.int .i64 1,.string t199] rfl (by (try simp only[ml_]);first|done|rfl|(simp only[List.length_drop,List.length_take];rfl)) ?_;(with_reducible refine (leaf_Decode.calls k E 1 t199 t201 (some q206) _ ?side1 A2.out).mono ?_);(case side1=>exact (Glob.below HG.out (upB HB.out)));rintro e w27 ⟨v203,rfl,ho0,hb⟩;refine ⟨_,rfl,?_⟩;have n0_:=Aside0.mk (Kd.R_elder' (upK HO198.out) (Kd.R_base ho0) hb);have n1_:=Aside0.mk (Kd.R_lower (Kd.R_new' ho0 (Kd.R_lt (upK HO198.out))) (below_size (upB HB.out)));have n2_:=Aside0.mk (below_step (upB HB.out) hb);clear HO198;clear HB;have HO198:=n0_;have HO204:=n1_;have HB:=n2_;clear n0_ n1_ n2_;(try clear hb);(try clear hb2);(try clear hk);(try clear hi);(try clear ho0);(try simp only[errW_none,errW_some])))
   go_ret
   exact ⟨by first|rfl|(simp[errW_none,errW_some] <;> rfl)|(simp[*,errW_none,errW_some] <;> rfl),upB HB.out⟩
 ·
  have H1:(some false)=some r:=by rw[if_neg (show ¬ (some q205).isNone=true by simp)] at H;exact H
  clear H
  have H:=H1
  clear H1
  try simp only[errW_none,errW_some]
  obtain rfl:=Option.some.inj H
  go_enter Tryd.func25,Tryd.ntmps25
  go_wp2_with (first|((with_reducible refine gate_dst (N:=7) rfl ?_);(try (refine gate_guard (by rfl) ?_;dsimp only));refine Kd.R_lit k58 _ 58 ?hg (N:=7) ?hd (xs:=([(⟨(⟨#[97]⟩:ByteArray),(⟨#[49]⟩:ByteArray)⟩:S58)]:List (S58))) (inner:=[.string (⟨#[97]⟩:ByteArray),.string (⟨#[49]⟩:ByteArray)]) (ok:=fun _=>True) (okp:=fun _=>True) ?hr ?hp (fun _ hk=>hk) trivial (Below.refl _ _) (Nat.le_refl _) (by simp) ?_;(case hd=>rfl);(case hg=>rfl);(case hr=>first|(go_simp;done)|(go_simp;rfl));(case hp=>exact (Reps.c2 (show Kd.M k58 _ _ _ (⟨(⟨#[97]⟩:ByteArray),(⟨#[49]⟩:ByteArray)⟩:S58) [.string (⟨#[97]⟩:ByteArray),.string (⟨#[49]⟩:ByteArray)] from (k58_mkM _ _ _ (⟨(⟨#[97]⟩:ByteArray),(⟨#[49]⟩:ByteArray)⟩:S58))) (Reps.none _ _)));intro v197 w28 ho29 hb hg_ hnew_;clear hg_ hnew_;(first|rw[←Ny196.out] at ho29|(simp only[Int.reduceToNat] at ho29;rw[←Ny196.out] at ho29));have n0_:=Aside0.mk (Kd.R_lower ho29 (below_size (upB HB.out)));have n1_:=Aside0.mk (below_step (upB HB.out) hb);clear HB;have HO198:=n0_;have HB:=n1_;clear n0_ n1_;clear hb ho29;obtain⟨Ao30,co30,eo30⟩:=Kd.R_slice HO198.out;subst eo30)|((with_reducible refine gate_callee (f:=21) rfl ?_);refine goesL_ (some 8) rfl rfl Tryd.func21 (by kernel_rfl) rfl #[.slice Ao30 y196.length co30] rfl (by (try simp only[ml_]);first|done|rfl|(simp only[List.length_drop,List.length_take];rfl)) ?_;(with_reducible refine (leaf_Encode.calls k E _ _ y196 t199 (some q205) _ ?side1 ?side2 ?side3 A1.out).mono ?_);(case side1=>exact (Glob.below HG.out (upB HB.out)));(case side2=>exact upC (Kd.R_reads' HO198.out).2.2);(case side3=>exact (Kd.R_reads' HO198.out).2.1);rintro e w31 ⟨rfl,hb⟩;refine ⟨_,rfl,?_⟩;have n0_:=Aside0.mk (Kd.R_below (upK HO198.out) hb);have n1_:=Aside0.mk (below_step (upB HB.out) hb);clear HO198;clear HB;have HO198:=n0_;have HB:=n1_;clear n0_ n1_;(try clear hb);(try clear hb2);(try clear hk);(try clear hi);(try simp only[errW_none,errW_some]))|((with_reducible refine gate_callee (f:=23) rfl ?_);refine goesL_ (some 13) rfl rfl Tryd.func23 (by kernel_rfl) rfl #[.int .i64 1,.string t199] rfl (by (try simp only[ml_]);first|done|rfl|(simp only[List.length_drop,List.length_take];rfl)) ?_;(with_reducible refine (leaf_Decode.calls k E 1 t199 t201 t202 _ ?side1 A2.out).mono ?_);(case side1=>exact (Glob.below HG.out (upB HB.out)));rintro e w32 ⟨v203,rfl,ho0,hb⟩;refine ⟨_,rfl,?_⟩;have n0_:=Aside0.mk (Kd.R_elder' (upK HO198.out) (Kd.R_base ho0) hb);have n1_:=Aside0.mk (Kd.R_lower (Kd.R_new' ho0 (Kd.R_lt (upK HO198.out))) (below_size (upB HB.out)));have n2_:=Aside0.mk (below_step (upB HB.out) hb);clear HO198;clear HB;have HO198:=n0_;have HO204:=n1_;have HB:=n2_;clear n0_ n1_ n2_;(try clear hb);(try clear hb2);(try clear hk);(try clear hi);(try clear ho0);(try simp only[errW_none,errW_some])))
  go_ret
  exact ⟨by first|rfl|(simp[errW_none,errW_some] <;> rfl)|(simp[*,errW_none,errW_some] <;> rfl),upB HB.out⟩

/-! ### copsekit_Head: function 46 -/
def copsekit_Head.f (a0:ByteArray) (a1:Int):Option (ByteArray):=if a1<1 then (some (⟨#[]⟩:ByteArray)) else (if a1≥(a0.size:Int) then (some a0) else (if 0≤a1 then (if a1≤(a0.size:Int) then (some (a0.extract 0 (a1:Int).toNat)) else (none)) else (none)))
set_option maxHeartbeats 8000000 in
set_option maxRecDepth 100000 in
theorem copsekit_Head.calls (a0:ByteArray) (a1:Int) (r:ByteArray) (w:World) (h:copsekit_Head.f a0 a1=some r) :
  Calls Tryd.prog 46 #[.string a0,.int .i64 a1] w fun e w'=>e=.returned (.string r)∧Drawn0 w w':=by
 have H:(if a1<1 then (some (⟨#[]⟩:ByteArray)) else (if a1≥(a0.size:Int) then (some a0) else (if 0≤a1 then (if a1≤(a0.size:Int) then (some (a0.extract 0 (a1:Int).toNat)) else (none)) else (none))))=some r:=h
 clear h
 by_cases c3:a1<1
 ·
  rw[if_pos c3] at H
  have c3b0:decide (a1<1)=true:=decide_eq_true c3
  clear c3
  obtain rfl:=Option.some.inj H
  go_enter Tryd.func46,Tryd.ntmps46
  go_wp2
  go_ret
  exact ⟨by first|rfl|(simp;done)|(simp[*];done),by repeat (first|exact Drawn0.refl _|apply Drawn0.step)⟩
 ·
  rw[if_neg c3] at H
  have c3b0:decide (a1<1)=false:=decide_eq_false c3
  clear c3
  by_cases c4:a1≥(a0.size:Int)
  ·
   rw[if_pos c4] at H
   have c4b0:decide ((a0.size:Int)≤a1)=true:=decide_eq_true c4
   clear c4
   obtain rfl:=Option.some.inj H
   go_enter Tryd.func46,Tryd.ntmps46
   go_wp2
   go_ret
   exact ⟨by first|rfl|(simp;done)|(simp[*];done),by repeat (first|exact Drawn0.refl _|apply Drawn0.step)⟩
  ·
   rw[if_neg c4] at H
   have c4b0:decide ((a0.size:Int)≤a1)=false:=decide_eq_false c4
   clear c4
   by_cases c5:0≤a1
   ·
    rw[if_pos c5] at H
    have c5b0:=eq_true c5
    have c5b1:decide (0≤a1)=true:=decide_eq_true c5
    clear c5
    by_cases c6:a1≤(a0.size:Int)
    ·
     rw[if_pos c6] at H
     have c6b0:=eq_true c6
     have c6b1:decide (a1≤(a0.size:Int))=true:=decide_eq_true c6
     clear c6
     obtain rfl:=Option.some.inj H
     go_enter Tryd.func46,Tryd.ntmps46
     go_wp2
     go_ret
     exact ⟨by first|rfl|(simp;done)|(simp[*];done),by repeat (first|exact Drawn0.refl _|apply Drawn0.step)⟩
    ·
     rw[if_neg c6] at H
     exact absurd H (by simp)
   ·
    rw[if_neg c5] at H
    exact absurd H (by simp)

end Go.Proofs.YtdailhlghlledaaDoor.XLeafNew
