-- Printed for this claim by a program (wip/printx) that builds on the kit's print. Not trusted: Lean checks it.
-- slim
import Derived.Test.YtdailhlghlledaaDoorXLeafNewx0
namespace Go.Proofs.YtdailhlghlledaaDoor.XLeafNew
open Go.RowKit Go.Proofs.YtdailhlghlledaaDoorW.PrintWords Go.Proofs.YtdailhlghlledaaDoorW.PrintLast Go.Proofs.YtdailhlghlledaaDoorW.PrintMore
attribute [local go_sem] max2_int min2_int max_two min_two max_three min_three max_four min_four   -- for this text's walks alone
set_option linter.unusedVariables false
set_option linter.unusedSimpArgs false

/-! ### copsekit_Bytes: function 52 -/
def copsekit_Bytes.l0:Nat→ByteArray→List Int→Int→Option (List Int)
 |0,_,_,_=>none
 |k+1,x0,x3,x4=>if x4<(x0.size:Int) then (if 0≤x4 then (if x3.length<140737488355328 then (copsekit_Bytes.l0 k x0 (x3++[bt x0 x4]) (wrap64 (x4+1))) else (none)) else (none)) else (some x3)
def copsekit_Bytes.f (k:Nat) (a0:ByteArray):Option (List Int):=copsekit_Bytes.l0 k a0 ([]:List Int) 0
theorem copsekit_Bytes.mono_l : ∀ k,(∀ y0 y1 y2,LeO (copsekit_Bytes.l0 k y0 y1 y2) (copsekit_Bytes.l0 (k+1) y0 y1 y2))
 |0=>fun _ _ _ r h=>by simp[copsekit_Bytes.l0] at h
 |k+1=>by
  have ih0:=copsekit_Bytes.mono_l k
  ·
   intro y0 y1 y2
   unfold copsekit_Bytes.l0
   repeat' first
   |(with_reducible exact ih0 _ _ _)
   |(with_reducible exact LeO.refl _)
   |(with_reducible exact LeO.none _)
   |(with_reducible refine LeO.ite ?_ ?_)
   |(with_reducible refine LeO.bind ?_ (fun _=>?_))
   |exact ih0 _ _ _
   |exact LeO.none _
   |refine LeO.ite ?_ ?_
   |refine LeO.bind ?_ (fun _=>?_)
theorem copsekit_Bytes.mono : ∀ a0 k,LeO (copsekit_Bytes.f k a0) (copsekit_Bytes.f (k+1) a0):=by
 intro a0 k
 have ih0:=copsekit_Bytes.mono_l k
 unfold copsekit_Bytes.f
 repeat' first
   |(with_reducible exact ih0 _ _ _)
   |(with_reducible exact LeO.refl _)
   |(with_reducible exact LeO.none _)
   |(with_reducible refine LeO.ite ?_ ?_)
   |(with_reducible refine LeO.bind ?_ (fun _=>?_))
   |exact ih0 _ _ _
   |exact LeO.none _
   |refine LeO.ite ?_ ?_
   |refine LeO.bind ?_ (fun _=>?_)
set_option maxHeartbeats 8000000 in
set_option maxRecDepth 100000 in
theorem copsekit_Bytes.calls (k:Nat) (a0:ByteArray) (r:List Int) (w:World) (h:copsekit_Bytes.f k a0=some r) :
  Calls Tryd.prog 52 #[.string a0] w fun e w'=>∃ v0_:Value,e=.returned (v0_)∧Kd.R (Kd.int .u8) 5 w' w.heap.size (fun _=>True) v0_ r∧Below w.heap.size w w':=by
 have HB:=Aside0.mk (Below.refl w.heap.size w)
 have H:(copsekit_Bytes.l0 k a0 ([]:List Int) 0)=some r:=h
 clear h
 have H':=Aside0.mk H
 clear H
 go_enter Tryd.func52,Tryd.ntmps52
 go_wp2
 go_loopg [3,4] k (fun kq v3 v4 w'=>∃ (x3_1:List Int) (x4_1:Int),v4=.int .i64 x4_1∧Aside0 (copsekit_Bytes.l0 kq a0 x3_1 x4_1=some r)∧Aside0 (kq≤k)∧Aside0 (Kd.R (Kd.int .u8) 5 w' w.heap.size (fun _=>True) v3 x3_1)∧Aside0 (Below w.heap.size w w'))
 case atStart=>exact ⟨(([]:List Int)),(0),(by first|rfl|(simp;done)|(simp[*];done)),H',⟨Nat.le_refl _⟩,⟨by first|exact Kd.R_nil _ _ _ _ _|exact Kd.N_nil _ _ _ _ _|exact Kd.V_nil _ _ _ _ _|exact Kd.Q_nil _ _ _ _ _|exact Kd.S_nil _ _ _ _ _⟩,⟨upB HB.out⟩⟩
 case round=>
  clear H'
  obtain⟨x3_1,x4_1,rfl,HA,HK1,HO_3,HB⟩:=hrel
  cases gk with
  |zero=>exact absurd HA.out (by simp[copsekit_Bytes.l0])
  |succ k1=>
   have H:=HA.out
   clear HA
   simp only[copsekit_Bytes.l0] at H
   by_cases c2:x4_1<(a0.size:Int)
   ·
    rw[if_pos c2] at H
    have c2b0:decide (x4_1<(a0.size:Int))=true:=decide_eq_true c2
    clear c2
    by_cases c3:0≤x4_1
    ·
     rw[if_pos c3] at H
     have c3b0:decide (0≤x4_1)=true:=decide_eq_true c3
     clear c3
     by_cases c5:x3_1.length<140737488355328
     ·
      rw[if_pos c5] at H
      have LMc5:=Aside0.mk c5
      clear c5
      obtain⟨y101,hy101⟩ : ∃ y_:List Int,y_=(x3_1++[bt a0 x4_1]):=⟨_,rfl⟩
      replace H:(copsekit_Bytes.l0 k1 a0 y101 (wrap64 (x4_1+1)))=some r:=by first|(rw[hy101];with_reducible exact H)|(have H2_:=(Option.bind_some _ _).symm.trans H;rw[hy101];with_reducible exact H2_)|(have H2_:=(Option.bind_some _ _).symm.trans H;with_reducible exact H2_)|with_reducible exact H|(rw[hy101];exact H)|exact H
      have Ny101:=Aside0.mk hy101
      clear hy101
      have H':=Aside0.mk H
      clear H
      have p4:0≤(x4_1:Int):=of_decide_eq_true (by assumption)
      have q4:x4_1<(a0.size:Int):=of_decide_eq_true (by assumption)
      have hx4:=bt_at a0 x4_1
      replace p4:=eq_true p4
      replace q4:=eq_true q4
      go_wp2_with (first|((with_reducible refine gate_builtin (b:=.append) (xs:=#[.tmp 11,.tmp 15]) rfl ?_);at_builtin;refine Kd.R_append (Kd.int .u8) (w0:=w) w.heap.size rfl (.tmp 11) (.tmp 15) 83 5 (.int .u8 0) 1 rfl Tryd.underlying83 info5 rfl (by decide) (by omega) u3 x3_1 (bt a0 x4_1) [.int .u8 (bt a0 x4_1)] (fun _=>True) (fun _=>False) rfl rfl ?aP (fun _ hk=>hk.elim) ?aF ?aO ?aB ?aS ?aL ?_;(case aP=>exact rfl);(case aB=>exact (upB HB.out));(case aF=>exact (fun _ _=>trivial));(case aO=>exact (upK HO_3.out));(case aS=>exact (below_size (upB HB.out)));(case aL=>have:=LMc5.out;omega);intro v102 w6 ho hb hg hat;rw[←Ny101.out] at ho;have n0_:=Aside0.mk (hb);have n1_:=Aside0.mk (ho);clear HB;clear HO_3;have HB:=n0_;have HO103:=n1_;clear n0_ n1_;clear ho hb hg hat))
      go_roundg k1
      case measure=>have:=HK1.out;omega
      case rel=>exact ⟨(y101),(wrap64 (x4_1+1)),(by first|rfl|(simp;done)|(simp[*];done)),H',⟨by have:=HK1.out;omega⟩,⟨by (with_reducible repeat (first|apply Kd.R_alloc|apply Kd.R_drewN|apply Kd.R_drew));exact HO103.out⟩,⟨upB HB.out⟩⟩
     ·
      rw[if_neg c5] at H
      exact absurd H (by simp)
    ·
     rw[if_neg c3] at H
     exact absurd H (by simp)
   ·
    rw[if_neg c2] at H
    have c2b0:decide (x4_1<(a0.size:Int))=false:=decide_eq_false c2
    clear c2
    obtain rfl:=Option.some.inj H
    go_wp2
    go_ret
    exact ⟨_,by first|rfl|(simp[errW_none,errW_some] <;> rfl)|(simp[*,errW_none,errW_some] <;> rfl),by (with_reducible repeat (first|apply Kd.R_alloc|apply Kd.R_drewN|apply Kd.R_drew));exact HO_3.out,upB HB.out⟩

/-! ### copselaw7_mark: function 32 -/
def copselaw7_mark.f (k:Nat) (a0:Int):Option (ByteArray×ByteArray):=(copsekit_Bytes.f k (⟨#[48,49,50,51,52,53,54,55,56,57]⟩:ByteArray)).bind fun t105=>(if 0≤(Int.tmod a0 10) then (if (Int.tmod a0 10)≤(wrap64 ((Int.tmod a0 10)+1)) then (if (wrap64 ((Int.tmod a0 10)+1))≤(t105.length:Int) then (some ((⟨#[109,97,114,107]⟩:ByteArray),strOfNums ((t105.take ((wrap64 ((Int.tmod a0 10)+1)):Int).toNat).drop ((Int.tmod a0 10):Int).toNat))) else (none)) else (none)) else (none))
theorem copselaw7_mark.mono : ∀ a0 k,LeO (copselaw7_mark.f k a0) (copselaw7_mark.f (k+1) a0):=by
 intro a0 k
 unfold copselaw7_mark.f
 repeat' first
   |(with_reducible exact copsekit_Bytes.mono _ _)
   |(with_reducible exact LeO.refl _)
   |(with_reducible exact LeO.none _)
   |(with_reducible refine LeO.ite ?_ ?_)
   |(with_reducible refine LeO.bind ?_ (fun _=>?_))
   |exact copsekit_Bytes.mono _ _
   |exact LeO.none _
   |refine LeO.ite ?_ ?_
   |refine LeO.bind ?_ (fun _=>?_)
set_option maxHeartbeats 8000000 in
set_option maxRecDepth 100000 in
theorem copselaw7_mark.calls (k:Nat) (a0:Int) (r1:ByteArray) (r2:ByteArray) (w:World) (h:copselaw7_mark.f k a0=some (r1,r2)) :
  Calls Tryd.prog 32 #[.int .i64 a0] w fun e w'=>e=.returned (.agg #[.string r1,.string r2])∧Below w.heap.size w w':=by
 have hu58:=Tryd.underlying58
 have HB:=Aside0.mk (Below.refl w.heap.size w)
 have H:((copsekit_Bytes.f k (⟨#[48,49,50,51,52,53,54,55,56,57]⟩:ByteArray)).bind fun t105=>(if 0≤(Int.tmod a0 10) then (if (Int.tmod a0 10)≤(wrap64 ((Int.tmod a0 10)+1)) then (if (wrap64 ((Int.tmod a0 10)+1))≤(t105.length:Int) then (some ((⟨#[109,97,114,107]⟩:ByteArray),strOfNums ((t105.take ((wrap64 ((Int.tmod a0 10)+1)):Int).toNat).drop ((Int.tmod a0 10):Int).toNat))) else (none)) else (none)) else (none)))=some (r1,r2):=h
 clear h
 replace H:=Option.bind_eq_some_iff.mp H
 obtain⟨t105,A20,H⟩:=H
 try dsimp only at H
 have A2:=Aside0.mk A20
 clear A20
 obtain⟨ji3,hji3⟩ : ∃ j_:Int,(Int.tmod a0 10)=j_:=⟨_,rfl⟩
 replace H:(if 0≤(ji3) then (if (ji3)≤(wrap64 ((ji3)+1)) then (if (wrap64 ((ji3)+1))≤(t105.length:Int) then (some ((⟨#[109,97,114,107]⟩:ByteArray),strOfNums ((t105.take ((wrap64 ((ji3)+1)):Int).toNat).drop ((ji3):Int).toNat))) else (none)) else (none)) else (none))=some (r1,r2):=by first|(rw[hji3] at H;exact H)|(simp only[hji3] at H ⊢;exact H)
 (try rw[hji3] at A2)
 by_cases c4:0≤(ji3)
 ·
  rw[if_pos c4] at H
  have c4b0:=eq_true c4
  have c4b1:decide (0≤(ji3))=true:=decide_eq_true c4
  clear c4
  by_cases c5:(ji3)≤(wrap64 ((ji3)+1))
  ·
   rw[if_pos c5] at H
   have c5b0:=eq_true c5
   have c5b1:decide ((ji3)≤(wrap64 ((ji3)+1)))=true:=decide_eq_true c5
   by_cases c6:(wrap64 ((ji3)+1))≤(t105.length:Int)
   ·
    rw[if_pos c6] at H
    have c6b0:=eq_true c6
    have c6b1:decide ((wrap64 ((ji3)+1))≤(t105.length:Int))=true:=decide_eq_true c6
    obtain⟨y108,hy108⟩ : ∃ y_:List Int,y_=((t105.take ((wrap64 ((ji3)+1)):Int).toNat).drop ((ji3):Int).toNat):=⟨_,rfl⟩
    replace H:(some ((⟨#[109,97,114,107]⟩:ByteArray),strOfNums y108))=some (r1,r2):=by first|(rw[hy108];with_reducible exact H)|(have H2_:=(Option.bind_some _ _).symm.trans H;rw[hy108];with_reducible exact H2_)|(have H2_:=(Option.bind_some _ _).symm.trans H;with_reducible exact H2_)|with_reducible exact H|(rw[hy108];exact H)|exact H
    have Ny108:=Aside0.mk hy108
    clear hy108
    simp only[Option.some.injEq,Prod.mk.injEq] at H
    obtain⟨rfl,rfl⟩:=H
    go_enter Tryd.func32,Tryd.ntmps32
    go_wp2_with (first|((with_reducible refine gate_dst (N:=2) rfl ?_);refine box_event ?hg (N:=2) ?hd (cs:=#[.string (⟨#[]⟩:ByteArray),.string (⟨#[]⟩:ByteArray)]) (t:=58) ?hr ?_;(case hd=>rfl);(case hg=>rfl);(case hr=>first|(go_simp;done)|(go_simp;rfl));intro gb104 hg w7 hbox hb;have n0_:=Aside0.mk (below_step (upB HB.out) hb);have n1_:=Aside0.mk (hbox);have n2_:=Aside0.mk ((by rw[hg];exact (below_size (upB HB.out)):w.heap.size≤gb104));have n3_:=Aside0.mk ((by rw[hg];exact (below_size (upB HB.out)):w.heap.size≤gb104));clear HB;have HB:=n0_;have BK104:=n1_;have GW104:=n2_;have GE104:=n3_;clear n0_ n1_ n2_ n3_;clear hb hbox hg)|((with_reducible refine gate_callee (f:=52) rfl ?_);refine goesL_ (some 3) rfl rfl Tryd.func52 (by kernel_rfl) rfl #[.string (⟨#[48,49,50,51,52,53,54,55,56,57]⟩:ByteArray)] rfl (by (try simp only[ml_]);first|done|rfl|(simp only[List.length_drop,List.length_take];rfl)) ?_;(with_reducible refine (copsekit_Bytes.calls k (⟨#[48,49,50,51,52,53,54,55,56,57]⟩:ByteArray) t105 _ A2.out).mono ?_);rintro e w8 ⟨v106,rfl,ho0,hb⟩;refine ⟨_,rfl,?_⟩;have n0_:=Aside0.mk (Kd.R_lower ho0 (below_size (by repeat (first|exact upB HB.out|refine below_set ?_ GE104.out))));have n1_:=Aside0.mk (blk_below (g:=gb104) (o:=.cells #[.string (⟨#[]⟩:ByteArray),.string (⟨#[]⟩:ByteArray)] 58 (0,0)) (upX BK104.out) hb);have n2_:=Aside0.mk (below_step (by repeat (first|exact upB HB.out|refine below_set ?_ GE104.out)) hb);clear BK104;clear HB;have HO107:=n0_;have BK104:=n1_;have HB:=n2_;clear n0_ n1_ n2_;(try clear hb);(try clear hb2);(try clear hk);(try clear hi);(try clear ho0);obtain⟨Ao10,co10,eo10⟩:=Kd.R_slice HO107.out;subst eo10;have q9:((wrap64 ((ji3)+1)):Int)≤((t105.length:Int):Int):=of_decide_eq_true (by assumption);obtain⟨i09,hi09,_,hsz9,_⟩:=info_parts info5;have hroom9:t105.length≤co10:=(Kd.R_reads' HO107.out).2.1;have hC9:Kd.C (Kd.int .u8) _ Ao10 t105.length t105:=(Kd.R_reads' HO107.out).2.2;have ql9:((ji3):Int)≤((wrap64 ((ji3)+1)):Int):=of_decide_eq_true (by assumption);have q09:(0:Int)≤((ji3):Int):=of_decide_eq_true (by assumption);have hcut9:=cut_mid (P:=Tryd.prog) 83 5 .i64 .i64 Tryd.underlying83 hi09 1 hsz9 Ao10 t105.length co10 (ji3) (wrap64 ((ji3)+1)) q09 ql9 q9 hroom9;have hr9:=Kd.C_mid (lo:=((ji3):Int).toNat) (hi:=((wrap64 ((ji3)+1)):Int).toNat) (c:=co10) hC9 (by omega) (by omega) hroom9;obtain⟨A9,hA9⟩ : ∃ A1,A1=(if co10=((ji3):Int).toNat then Ao10 else (Ao10:Option Addr).map (·.add (((ji3):Int).toNat*1))):=⟨_,rfl⟩;obtain⟨c9,hc9⟩ : ∃ c1,c1=co10 - ((ji3):Int).toNat:=⟨_,rfl⟩;have hy9:y108.length=((wrap64 ((ji3)+1)):Int).toNat - ((ji3):Int).toNat:=(by rw[Ny108.out,List.length_drop,List.length_take] <;> omega);rw[show ((t105).take ((wrap64 ((ji3)+1)):Int).toNat).drop ((ji3):Int).toNat=y108 from Ny108.out.symm] at hr9;replace hr9:Kd.C (Kd.int .u8) _ A9 y108.length y108:=(by rw[hA9];exact hr9);rw[←hy9,←hA9,←hc9] at hcut9;have HR111:=Aside0.mk hr9;have HC111:=Aside0.mk (show y108.length≤c9 from by rw[hy9,hc9];exact Nat.sub_le_sub_right (Nat.le_trans (by omega) hroom9) _);clear hr9 hC9 hroom9 hi09 hsz9 hc9;have KY9:=Aside0.mk hy9;have KA9:=Aside0.mk hA9;clear hy9 hA9;have KL9:=Aside0.mk (show ((wrap64 ((ji3)+1)):Int).toNat≤t105.length from by omega);have KM9:=Aside0.mk (show ((ji3):Int).toNat≤((wrap64 ((ji3)+1)):Int).toNat from by omega);replace q9:=eq_true q9;have hcv11:=Kd.C_string (P:=Tryd.prog) (A:=A9) (c:=c9) Tryd.underlying83 Tryd.underlying5 Tryd.underlying9 HR111.out;have hcz12_0:w8.cell? ⟨gb104,0,none⟩=some (.string (⟨#[]⟩:ByteArray)):=(blk_cell BK104.out 0).trans rfl;have hcz12_1:w8.cell? ⟨gb104,1,none⟩=some (.string (⟨#[]⟩:ByteArray)):=(blk_cell BK104.out 1).trans rfl;have hfz12_0:=blk_frozen BK104.out 0;have hfz12_1:=blk_frozen BK104.out 1))
    refine bodyPost_ret (results_cell_row rfl _ _ gb104 58 #[.string (⟨#[109,97,114,107]⟩:ByteArray),.string (strOfNums y108)] (0,0) _ rfl (by (with_reducible repeat (first|refine blk_drewN ?_ _|refine blk_drew ?_|refine blk_alloc ?_ _));refine blk_put (cs:=#[.string (⟨#[109,97,114,107]⟩:ByteArray),.string (⟨#[]⟩:ByteArray)]) ?_ 1 _ rfl;(with_reducible repeat (first|refine blk_drewN ?_ _|refine blk_drew ?_|refine blk_alloc ?_ _));refine blk_put (cs:=#[.string (⟨#[]⟩:ByteArray),.string (⟨#[]⟩:ByteArray)]) ?_ 0 _ rfl;(with_reducible repeat (first|refine blk_drewN ?_ _|refine blk_drew ?_|refine blk_alloc ?_ _));exact BK104.out) Tryd.underlying58 rfl (by kernel_rfl)) rfl ?_
    exact ⟨by first|rfl|(simp[errW_none,errW_some] <;> rfl)|(simp only[←hji3];first|rfl|(simp[errW_none,errW_some] <;> rfl))|(simp[*,errW_none,errW_some] <;> rfl),by repeat (first|exact upB HB.out|refine below_set ?_ GE104.out|apply pw_below_drewN)⟩
   ·
    rw[if_neg c6] at H
    exact absurd H (by simp)
  ·
   rw[if_neg c5] at H
   exact absurd H (by simp)
 ·
  rw[if_neg c4] at H
  exact absurd H (by simp)

/-! ### copselaw7_pairs: function 11 -/
mutual
def copselaw7_pairs.l0:Nat→List (S58)→List (S58)→Int→Option ((List (S58)))
 |0,_,_,_=>none
 |k+1,x0,x3,x4=>if x4<(x0.length:Int) then (if 0≤x4 then (if x3.length<4398046511104 then (copselaw7_pairs.l0 k x0 (x3++[(⟨(rd_T58 x0 x4).f0,(rd_T58 x0 x4).f1⟩:S58)]) (wrap64 (x4+1))) else (none)) else (none)) else (copselaw7_pairs.l1 k x3 0)
def copselaw7_pairs.l1:Nat→List (S58)→Int→Option ((List (S58)))
 |0,_,_=>none
 |k+1,x3,x5=>if x5<64 then ((copselaw7_mark.f k x5).bind fun bt116=>(if x3.length<4398046511104 then (copselaw7_pairs.l1 k (x3++[(⟨bt116.1,bt116.2⟩:S58)]) (wrap64 (x5+1))) else (none))) else (some x3)
end
def copselaw7_pairs.f (k:Nat) (l0:List (S58)):Option ((List (S58))):=copselaw7_pairs.l0 k l0 ([]:List (S58)) 0
theorem copselaw7_pairs.mono_l : ∀ k,(∀ y0 y1 y2,LeO (copselaw7_pairs.l0 k y0 y1 y2) (copselaw7_pairs.l0 (k+1) y0 y1 y2))∧(∀ y0 y1,LeO (copselaw7_pairs.l1 k y0 y1) (copselaw7_pairs.l1 (k+1) y0 y1))
 |0=>⟨fun _ _ _ r h=>by simp[copselaw7_pairs.l0] at h,fun _ _ r h=>by simp[copselaw7_pairs.l1] at h⟩
 |k+1=>by
  obtain⟨ih0,ih1⟩:=copselaw7_pairs.mono_l k
  refine ⟨?_,?_⟩
  ·
   intro y0 y1 y2
   unfold copselaw7_pairs.l0
   repeat' first
   |(with_reducible exact ih0 _ _ _)
   |(with_reducible exact ih1 _ _)
   |(with_reducible exact copselaw7_mark.mono _ _)
   |(with_reducible exact LeO.refl _)
   |(with_reducible exact LeO.none _)
   |(with_reducible refine LeO.ite ?_ ?_)
   |(with_reducible refine LeO.bind ?_ (fun _=>?_))
   |exact ih0 _ _ _
   |exact ih1 _ _
   |exact copselaw7_mark.mono _ _
   |exact LeO.none _
   |refine LeO.ite ?_ ?_
   |refine LeO.bind ?_ (fun _=>?_)
  ·
   intro y0 y1
   unfold copselaw7_pairs.l1
   repeat' first
   |(with_reducible exact ih0 _ _ _)
   |(with_reducible exact ih1 _ _)
   |(with_reducible exact copselaw7_mark.mono _ _)
   |(with_reducible exact LeO.refl _)
   |(with_reducible exact LeO.none _)
   |(with_reducible refine LeO.ite ?_ ?_)
   |(with_reducible refine LeO.bind ?_ (fun _=>?_))
   |exact ih0 _ _ _
   |exact ih1 _ _
   |exact copselaw7_mark.mono _ _
   |exact LeO.none _
   |refine LeO.ite ?_ ?_
   |refine LeO.bind ?_ (fun _=>?_)
theorem copselaw7_pairs.mono : ∀ a0 k,LeO (copselaw7_pairs.f k a0) (copselaw7_pairs.f (k+1) a0):=by
 intro a0 k
 obtain⟨ih0,ih1⟩:=copselaw7_pairs.mono_l k
 unfold copselaw7_pairs.f
 repeat' first
   |(with_reducible exact ih0 _ _ _)
   |(with_reducible exact ih1 _ _)
   |(with_reducible exact copselaw7_mark.mono _ _)
   |(with_reducible exact LeO.refl _)
   |(with_reducible exact LeO.none _)
   |(with_reducible refine LeO.ite ?_ ?_)
   |(with_reducible refine LeO.bind ?_ (fun _=>?_))
   |exact ih0 _ _ _
   |exact ih1 _ _
   |exact copselaw7_mark.mono _ _
   |exact LeO.none _
   |refine LeO.ite ?_ ?_
   |refine LeO.bind ?_ (fun _=>?_)
set_option maxHeartbeats 8000000 in
set_option maxRecDepth 100000 in
theorem copselaw7_pairs.calls (k:Nat) (A0:Option Addr) (c0:Nat) (l0:List (S58)) (r:List (S58)) (w:World) (hr0:Kd.C k58 w A0 l0.length l0) (hc0:l0.length≤c0) (h:copselaw7_pairs.f k l0=some r) :
  Calls Tryd.prog 11 #[.slice A0 l0.length c0] w fun e w'=>∃ v0_:Value,e=.returned (v0_)∧Kd.R k58 58 w' w.heap.size (fun _=>True) v0_ r∧Below w.heap.size w w':=by
 have hu58:=Tryd.underlying58
 have HR0:=Aside0.mk hr0
 have HC0:=Aside0.mk hc0
 clear hr0 hc0
 have HB:=Aside0.mk (Below.refl w.heap.size w)
 have H:(copselaw7_pairs.l0 k l0 ([]:List (S58)) 0)=some r:=h
 clear h
 have H':=Aside0.mk H
 clear H
 go_enter Tryd.func11,Tryd.ntmps11
 go_wp2
 go_loopg [3,4] k (fun kq v3 v4 w'=>∃ (x3_1:List (S58)) (x4_1:Int),v4=.int .i64 x4_1∧Aside0 (copselaw7_pairs.l0 kq l0 x3_1 x4_1=some r)∧Aside0 (kq≤k)∧Aside0 (Kd.R k58 58 w' w.heap.size (fun _=>True) v3 x3_1)∧Aside0 (Below w.heap.size w w'))
 case atStart=>exact ⟨(([]:List (S58))),(0),(by first|rfl|(simp;done)|(simp[*];done)),H',⟨Nat.le_refl _⟩,⟨by first|exact Kd.R_nil _ _ _ _ _|exact Kd.N_nil _ _ _ _ _|exact Kd.V_nil _ _ _ _ _|exact Kd.Q_nil _ _ _ _ _|exact Kd.S_nil _ _ _ _ _⟩,⟨upB HB.out⟩⟩
 case round=>
  clear H'
  try clear c1
  obtain⟨x3_1,x4_1,rfl,HA,HK1,HO_3,HB⟩:=hrel
  cases gk with
  |zero=>exact absurd HA.out (by simp[copselaw7_pairs.l0])
  |succ k1=>
   have H:=HA.out
   clear HA
   simp only[copselaw7_pairs.l0] at H
   by_cases c2:x4_1<(l0.length:Int)
   ·
    rw[if_pos c2] at H
    have c2b0:decide (x4_1<(l0.length:Int))=true:=decide_eq_true c2
    clear c2
    by_cases c3:0≤x4_1
    ·
     rw[if_pos c3] at H
     have c3b0:decide (0≤x4_1)=true:=decide_eq_true c3
     clear c3
     by_cases c4:x3_1.length<4398046511104
     ·
      rw[if_pos c4] at H
      have LMc4:=Aside0.mk c4
      clear c4
      obtain⟨y113,hy113⟩ : ∃ y_:List (S58),y_=(x3_1++[(⟨(rd_T58 l0 x4_1).f0,(rd_T58 l0 x4_1).f1⟩:S58)]):=⟨_,rfl⟩
      replace H:(copselaw7_pairs.l0 k1 l0 y113 (wrap64 (x4_1+1)))=some r:=by first|(rw[hy113];with_reducible exact H)|(have H2_:=(Option.bind_some _ _).symm.trans H;rw[hy113];with_reducible exact H2_)|(have H2_:=(Option.bind_some _ _).symm.trans H;with_reducible exact H2_)|with_reducible exact H|(rw[hy113];exact H)|exact H
      have Ny113:=Aside0.mk hy113
      clear hy113
      have H':=Aside0.mk H
      clear H
      have p112:0≤(x4_1:Int):=of_decide_eq_true (by assumption)
      have q112:x4_1<(l0.length:Int):=of_decide_eq_true (by assumption)
      obtain⟨ad112,e112,hx112_0,hx112_1⟩:=at_T58 HR0.out x4_1 p112 q112
      cases e112
      replace hx112_0:=(HB.out.cell (World.block_lt_of_cell? w _ hx112_0)).trans hx112_0
      replace hx112_1:=(HB.out.cell (World.block_lt_of_cell? w _ hx112_1)).trans hx112_1
      replace p112:=eq_true p112
      replace q112:=eq_true q112
      go_wp2_with (first|((with_reducible refine gate_builtin (b:=.append) (xs:=#[.tmp 12,.tmp 17]) rfl ?_);at_builtin;refine Kd.R_append k58 (w0:=w) w.heap.size rfl (.tmp 12) (.tmp 17) 22 58 (.agg #[(.string ⟨#[]⟩),(.string ⟨#[]⟩)]) 32 rfl Tryd.underlying22 info58 rfl (by decide) (by omega) u3 x3_1 (⟨(rd_T58 l0 x4_1).f0,(rd_T58 l0 x4_1).f1⟩:S58) [.string ((rd_T58 l0 x4_1).f0),.string ((rd_T58 l0 x4_1).f1)] (fun _=>True) (fun _=>False) rfl rfl ?aP (fun _ hk=>hk.elim) ?aF ?aO ?aB ?aS ?aL ?_;(case aP=>exact k58_mkM _ _ _ (⟨(rd_T58 l0 x4_1).f0,(rd_T58 l0 x4_1).f1⟩:S58));(case aB=>exact (upB HB.out));(case aF=>exact (fun _ _=>trivial));(case aO=>exact (upK HO_3.out));(case aS=>exact (below_size (upB HB.out)));(case aL=>have:=LMc4.out;omega);intro v114 w5 ho hb hg hat;rw[←Ny113.out] at ho;have n0_:=Aside0.mk (hb);have n1_:=Aside0.mk (ho);clear HB;clear HO_3;have HB:=n0_;have HO115:=n1_;clear n0_ n1_;clear ho hb hg hat))
      go_roundg k1
      case measure=>have:=HK1.out;omega
      case rel=>exact ⟨(y113),(wrap64 (x4_1+1)),(by first|rfl|(simp;done)|(simp[*];done)),H',⟨by have:=HK1.out;omega⟩,⟨by (with_reducible repeat (first|apply Kd.R_alloc|apply Kd.R_drewN|apply Kd.R_drew));exact HO115.out⟩,⟨upB HB.out⟩⟩
     ·
      rw[if_neg c4] at H
      exact absurd H (by simp)
    ·
     rw[if_neg c3] at H
     exact absurd H (by simp)
   ·
    rw[if_neg c2] at H
    have c2b0:decide (x4_1<(l0.length:Int))=false:=decide_eq_false c2
    clear c2
    have H':=Aside0.mk H
    clear H
    go_wp2
    go_loopg [3,5] k1 (fun kq v3 v5 w'=>∃ (x3_2:List (S58)) (x5_2:Int),v5=.int .i64 x5_2∧Aside0 (copselaw7_pairs.l1 kq x3_2 x5_2=some r)∧Aside0 (kq≤k1)∧Aside0 (Kd.R k58 58 w' w.heap.size (fun _=>True) v3 x3_2)∧Aside0 (Below w.heap.size w w'))
    case atStart=>exact ⟨(x3_1),(0),(by first|rfl|(simp;done)|(simp[*];done)),H',⟨Nat.le_refl _⟩,⟨by (with_reducible repeat (first|apply Kd.R_alloc|apply Kd.R_drewN|apply Kd.R_drew));exact HO_3.out⟩,⟨upB HB.out⟩⟩
    case round=>
     clear H'
     try clear c1
     try clear p1
     try clear q1
     try clear hx1
     try clear c2
     try clear c2b0
     try clear p2
     try clear c3
     try clear c3b0
     try clear c4
     try clear hx112_0
     try clear hx112_1
     try clear p112
     try clear q112
     obtain⟨x3_2,x5_2,rfl,HA,HK2,HO_3,HB⟩:=hrel
     cases gk with
     |zero=>exact absurd HA.out (by simp[copselaw7_pairs.l1])
     |succ k2=>
      have H:=HA.out
      clear HA
      simp only[copselaw7_pairs.l1] at H
      by_cases c6:x5_2<64
      ·
       rw[if_pos c6] at H
       have c6b0:decide (x5_2<64)=true:=decide_eq_true c6
       clear c6
       replace H:=Option.bind_eq_some_iff.mp H
       obtain⟨⟨t116,t117⟩,A70,H⟩:=H
       try dsimp only at H
       have A7:=Aside0.mk A70
       clear A70
       by_cases c8:x3_2.length<4398046511104
       ·
        rw[if_pos c8] at H
        have LMc8:=Aside0.mk c8
        clear c8
        obtain⟨y118,hy118⟩ : ∃ y_:List (S58),y_=(x3_2++[(⟨t116,t117⟩:S58)]):=⟨_,rfl⟩
        replace H:(copselaw7_pairs.l1 k2 y118 (wrap64 (x5_2+1)))=some r:=by first|(rw[hy118];with_reducible exact H)|(have H2_:=(Option.bind_some _ _).symm.trans H;rw[hy118];with_reducible exact H2_)|(have H2_:=(Option.bind_some _ _).symm.trans H;with_reducible exact H2_)|with_reducible exact H|(rw[hy118];exact H)|exact H
        have Ny118:=Aside0.mk hy118
        clear hy118
        have H':=Aside0.mk H
        clear H
        go_wp2_with (first|((with_reducible refine gate_callee (f:=32) rfl ?_);refine goesL_ (some 25) rfl rfl Tryd.func32 (by kernel_rfl) rfl #[.int .i64 x5_2] rfl (by (try simp only[ml_]);first|done|rfl|(simp only[List.length_drop,List.length_take];rfl)) ?_;(with_reducible refine (copselaw7_mark.calls k2 x5_2 t116 t117 _ A7.out).mono ?_);rintro e w9 ⟨rfl,hb⟩;refine ⟨_,rfl,?_⟩;have n0_:=Aside0.mk (Kd.R_below (upK HO_3.out) hb);have n1_:=Aside0.mk (below_step (upB HB.out) hb);clear HO_3;clear HB;have HO_3:=n0_;have HB:=n1_;clear n0_ n1_;(try clear hb);(try clear hb2);(try clear hk);(try clear hi))|((with_reducible refine gate_builtin (b:=.append) (xs:=#[.tmp 23,.tmp 26]) rfl ?_);at_builtin;refine Kd.R_append k58 (w0:=w) w.heap.size rfl (.tmp 23) (.tmp 26) 22 58 (.agg #[(.string ⟨#[]⟩),(.string ⟨#[]⟩)]) 32 rfl Tryd.underlying22 info58 rfl (by decide) (by omega) u3 x3_2 (⟨t116,t117⟩:S58) [.string t116,.string t117] (fun _=>True) (fun _=>False) rfl rfl ?aP (fun _ hk=>hk.elim) ?aF ?aO ?aB ?aS ?aL ?_;(case aP=>exact k58_mkM _ _ _ (⟨t116,t117⟩:S58));(case aB=>exact (upB HB.out));(case aF=>exact (fun _ _=>trivial));(case aO=>exact (upK HO_3.out));(case aS=>exact (below_size (upB HB.out)));(case aL=>have:=LMc8.out;omega);intro v119 w10 ho hb hg hat;rw[←Ny118.out] at ho;have n0_:=Aside0.mk (hb);have n1_:=Aside0.mk (ho);clear HB;clear HO_3;have HB:=n0_;have HO120:=n1_;clear n0_ n1_;clear ho hb hg hat))
        go_roundg k2
        case measure=>have:=HK1.out;have:=HK2.out;omega
        case rel=>exact ⟨(y118),(wrap64 (x5_2+1)),(by first|rfl|(simp;done)|(simp[*];done)),H',⟨by have:=HK1.out;have:=HK2.out;omega⟩,⟨by (with_reducible repeat (first|apply Kd.R_alloc|apply Kd.R_drewN|apply Kd.R_drew));exact HO120.out⟩,⟨upB HB.out⟩⟩
       ·
        rw[if_neg c8] at H
        exact absurd H (by simp)
      ·
       rw[if_neg c6] at H
       have c6b0:decide (x5_2<64)=false:=decide_eq_false c6
       clear c6
       obtain rfl:=Option.some.inj H
       go_wp2
       go_ret
       exact ⟨_,by first|rfl|(simp[errW_none,errW_some] <;> rfl)|(simp[*,errW_none,errW_some] <;> rfl),by (with_reducible repeat (first|apply Kd.R_alloc|apply Kd.R_drewN|apply Kd.R_drew));exact HO_3.out,upB HB.out⟩

/-! ### leaf_cost: function 33 -/
def leaf_cost.f (a0_0:ByteArray) (a0_1:ByteArray):Option (Int):=some (wrap64 ((wrap64 (5+(a0_0.size:Int)))+(a0_1.size:Int)))
set_option maxHeartbeats 8000000 in
set_option maxRecDepth 100000 in
theorem leaf_cost.calls (a0_0:ByteArray) (a0_1:ByteArray) (r:Int) (w:World) (h:leaf_cost.f a0_0 a0_1=some r) :
  Calls Tryd.prog 33 #[.agg #[.string a0_0,.string a0_1]] w fun e w'=>e=.returned (.int .i64 r)∧Below w.heap.size w w':=by
 have hu58:=Tryd.underlying58
 have HB:=Aside0.mk (Below.refl w.heap.size w)
 have H:(some (wrap64 ((wrap64 (5+(a0_0.size:Int)))+(a0_1.size:Int))))=some r:=h
 clear h
 obtain rfl:=Option.some.inj H
 go_enter Tryd.func33,Tryd.ntmps33
 go_wp2_with (first|((with_reducible refine gate_dst (N:=1) rfl ?_);refine box_event ?hg (N:=1) ?hd (cs:=#[.string a0_0,.string a0_1]) (t:=58) ?hr ?_;(case hd=>rfl);(case hg=>rfl);(case hr=>first|(go_simp;done)|(go_simp;rfl));intro gb121 hg w2 hbox hb;have n0_:=Aside0.mk (below_step (upB HB.out) hb);have n1_:=Aside0.mk (hbox);have n2_:=Aside0.mk ((by rw[hg];exact (below_size (upB HB.out)):w.heap.size≤gb121));have n3_:=Aside0.mk ((by rw[hg];exact (below_size (upB HB.out)):w.heap.size≤gb121));clear HB;have HB:=n0_;have BK121:=n1_;have GW121:=n2_;have GE121:=n3_;clear n0_ n1_ n2_ n3_;clear hb hbox hg;have hcz3_0:w2.cell? ⟨gb121,0,none⟩=some (.string a0_0):=(blk_cell BK121.out 0).trans rfl;have hcz3_1:w2.cell? ⟨gb121,1,none⟩=some (.string a0_1):=(blk_cell BK121.out 1).trans rfl;have hfz3_0:=blk_frozen BK121.out 0;have hfz3_1:=blk_frozen BK121.out 1))
 go_ret
 exact ⟨by first|rfl|(simp[errW_none,errW_some] <;> rfl)|(simp[*,errW_none,errW_some] <;> rfl),by repeat (first|exact upB HB.out|refine below_set ?_ GE121.out|apply pw_below_drewN)⟩

/-! ### cells_check: function 53 -/
def cells_check.l0:Nat→Int→List Int→Int→Int→Option (Int×Option Int)
 |0,_,_,_,_=>none
 |k+1,x6,x14,x15,x16=>if x16<x15 then (if 0≤x16 then (if x16<(x14.length:Int) then (if (rd x14 x16)<1 then (some (0,some 1)) else (if (rd x14 x16) > 4072 then (some (0,some 1)) else (cells_check.l0 k (wrap64 (x6+(rd x14 x16))) x14 x15 (wrap64 (x16+1))))) else (none)) else (none)) else (some (x6,none))
def cells_check.f (k:Nat) (l0:List Int) (a1:Int):Option (Int×Option Int):=if (l0.length:Int)<a1 then (some (0,some 4)) else (cells_check.l0 k 0 l0 (l0.length:Int) 0)
theorem cells_check.mono_l : ∀ k,(∀ y0 y1 y2 y3,LeO (cells_check.l0 k y0 y1 y2 y3) (cells_check.l0 (k+1) y0 y1 y2 y3))
 |0=>fun _ _ _ _ r h=>by simp[cells_check.l0] at h
 |k+1=>by
  have ih0:=cells_check.mono_l k
  ·
   intro y0 y1 y2 y3
   unfold cells_check.l0
   repeat' first
   |(with_reducible exact ih0 _ _ _ _)
   |(with_reducible exact LeO.refl _)
   |(with_reducible exact LeO.none _)
   |(with_reducible refine LeO.ite ?_ ?_)
   |(with_reducible refine LeO.bind ?_ (fun _=>?_))
   |exact ih0 _ _ _ _
   |exact LeO.none _
   |refine LeO.ite ?_ ?_
   |refine LeO.bind ?_ (fun _=>?_)
theorem cells_check.mono : ∀ a0 a1 k,LeO (cells_check.f k a0 a1) (cells_check.f (k+1) a0 a1):=by
 intro a0 a1 k
 have ih0:=cells_check.mono_l k
 unfold cells_check.f
 repeat' first
   |(with_reducible exact ih0 _ _ _ _)
   |(with_reducible exact LeO.refl _)
   |(with_reducible exact LeO.none _)
   |(with_reducible refine LeO.ite ?_ ?_)
   |(with_reducible refine LeO.bind ?_ (fun _=>?_))
   |exact ih0 _ _ _ _
   |exact LeO.none _
   |refine LeO.ite ?_ ?_
   |refine LeO.bind ?_ (fun _=>?_)
set_option maxHeartbeats 8000000 in
set_option maxRecDepth 100000 in
theorem cells_check.calls (k:Nat) (E:Int→Addr) (A0:Option Addr) (c0:Nat) (l0:List Int) (a1:Int) (r1:Int) (r2:Option Int) (w:World) (hG:Glob E w) (hr0:Kd.C (Kd.int .i64) w A0 l0.length l0) (hc0:l0.length≤c0) (h:cells_check.f k l0 a1=some (r1,r2)) :
  Calls Tryd.prog 53 #[.slice A0 l0.length c0,.int .i64 a1] w fun e w'=>e=.returned (.tuple #[.int .i64 r1,errW E r2])∧Drawn0 w w':=by
 have HR0:=Aside0.mk hr0
 have HC0:=Aside0.mk hc0
 clear hr0 hc0
 have HG:=Aside0.mk hG
 clear hG
 have H:(if (l0.length:Int)<a1 then (some (0,some 4)) else (cells_check.l0 k 0 l0 (l0.length:Int) 0))=some (r1,r2):=h
 clear h
 by_cases c3:(l0.length:Int)<a1
 ·
  rw[if_pos c3] at H
  have c3b0:decide ((l0.length:Int)<a1)=true:=decide_eq_true c3
  clear c3
  simp only[Option.some.injEq,Prod.mk.injEq] at H
  obtain⟨rfl,rfl⟩:=H
  have hx4:w.cell? ⟨3,0,none⟩=some (errW E (some 4)):=Glob.c3 (upG HG.out)
  simp only[errW_some] at hx4
  go_enter Tryd.func53,Tryd.ntmps53
  go_wp2
  repeat (go_quiet (fail);try go_wp2)
  go_ret2
  exact ⟨by first|rfl|(simp;done)|(simp[*];done),by repeat (first|exact Drawn0.refl _|apply Drawn0.step)⟩
 ·
  rw[if_neg c3] at H
  have c3b0:decide ((l0.length:Int)<a1)=false:=decide_eq_false c3
  clear c3
  have H':=Aside0.mk H
  clear H
  go_enter Tryd.func53,Tryd.ntmps53
  go_wp2
  repeat (go_quiet (fail);try go_wp2)
  go_loopg [6,16] k (fun kq v6 v16 w'=>∃ (x6_1:Int) (x16_1:Int),v6=.int .i64 x6_1∧v16=.int .i64 x16_1∧Aside0 (cells_check.l0 kq x6_1 l0 (l0.length:Int) x16_1=some (r1,r2))∧Aside0 (kq≤k)∧Drawn0 w w')
  case atStart=>exact ⟨(0),(0),(by first|rfl|(simp;done)|(simp[*];done)),(by first|rfl|(simp;done)|(simp[*];done)),H',⟨Nat.le_refl _⟩,by repeat (first|exact Drawn0.refl _|apply Drawn0.step)⟩
  case round=>
   clear H'
   try clear p2
   try clear c3
   try clear c3b0
   try clear hx4
   obtain⟨x6_1,x16_1,rfl,rfl,HA,HK1,⟨m1,rfl⟩⟩:=hrel
   cases gk with
   |zero=>exact absurd HA.out (by simp[cells_check.l0])
   |succ k1=>
    have H:=HA.out
    clear HA
    simp only[cells_check.l0] at H
    by_cases c5:x16_1<(l0.length:Int)
    ·
     rw[if_pos c5] at H
     have c5b0:decide (x16_1<(l0.length:Int))=true:=decide_eq_true c5
     clear c5
     by_cases c6:0≤x16_1
     ·
      rw[if_pos c6] at H
      have c6b0:decide (0≤x16_1)=true:=decide_eq_true c6
      clear c6
      by_cases c7:x16_1<(l0.length:Int)
      ·
       rw[if_pos c7] at H
       have c7b0:decide (x16_1<(l0.length:Int))=true:=decide_eq_true c7
       clear c7
       by_cases c8:(rd l0 x16_1)<1
       ·
        rw[if_pos c8] at H
        have c8b0:decide ((rd l0 x16_1)<1)=true:=decide_eq_true c8
        clear c8
        simp only[Option.some.injEq,Prod.mk.injEq] at H
        obtain⟨rfl,rfl⟩:=H
        have p122:0≤(x16_1:Int):=of_decide_eq_true (by assumption)
        have q122:x16_1<(l0.length:Int):=of_decide_eq_true (by assumption)
        obtain⟨ad122,e122,hx122_0⟩:=Kd.at_int HR0.out x16_1 p122 q122
        cases e122
        replace p122:=eq_true p122
        replace q122:=eq_true q122
        have hx9:w.cell? ⟨0,0,none⟩=some (errW E (some 1)):=Glob.c0 (upG HG.out)
        simp only[errW_some] at hx9
        go_wp2
        repeat (go_quiet (fail);try go_wp2)
        go_ret2
        exact ⟨by first|rfl|(simp;done)|(simp[*];done),by repeat (first|exact Drawn0.refl _|apply Drawn0.step)⟩
       ·
        rw[if_neg c8] at H
        have c8b0:decide ((rd l0 x16_1)<1)=false:=decide_eq_false c8
        clear c8
        by_cases c10:(rd l0 x16_1) > 4072
        ·
         rw[if_pos c10] at H
         have c10b0:decide (4072<(rd l0 x16_1))=true:=decide_eq_true c10
         clear c10
         simp only[Option.some.injEq,Prod.mk.injEq] at H
         obtain⟨rfl,rfl⟩:=H
         have p122:0≤(x16_1:Int):=of_decide_eq_true (by assumption)
         have q122:x16_1<(l0.length:Int):=of_decide_eq_true (by assumption)
         obtain⟨ad122,e122,hx122_0⟩:=Kd.at_int HR0.out x16_1 p122 q122
         cases e122
         replace p122:=eq_true p122
         replace q122:=eq_true q122
         have hx11:w.cell? ⟨0,0,none⟩=some (errW E (some 1)):=Glob.c0 (upG HG.out)
         simp only[errW_some] at hx11
         go_wp2
         repeat (go_quiet (fail);try go_wp2)
         go_ret2
         exact ⟨by first|rfl|(simp;done)|(simp[*];done),by repeat (first|exact Drawn0.refl _|apply Drawn0.step)⟩
        ·
         rw[if_neg c10] at H
         have c10b0:decide (4072<(rd l0 x16_1))=false:=decide_eq_false c10
         clear c10
         have H':=Aside0.mk H
         clear H
         have p122:0≤(x16_1:Int):=of_decide_eq_true (by assumption)
         have q122:x16_1<(l0.length:Int):=of_decide_eq_true (by assumption)
         obtain⟨ad122,e122,hx122_0⟩:=Kd.at_int HR0.out x16_1 p122 q122
         cases e122
         replace p122:=eq_true p122
         replace q122:=eq_true q122
         go_wp2
         repeat (go_quiet (fail);try go_wp2)
         go_roundg k1
         case measure=>have:=HK1.out;omega
         case rel=>exact ⟨(wrap64 (x6_1+(rd l0 x16_1))),(wrap64 (x16_1+1)),(by first|rfl|(simp;done)|(simp[*];done)),(by first|rfl|(simp;done)|(simp[*];done)),H',⟨by have:=HK1.out;omega⟩,by repeat (first|exact Drawn0.refl _|apply Drawn0.step)⟩
      ·
       rw[if_neg c7] at H
       exact absurd H (by simp)
     ·
      rw[if_neg c6] at H
      exact absurd H (by simp)
    ·
     rw[if_neg c5] at H
     have c5b0:decide (x16_1<(l0.length:Int))=false:=decide_eq_false c5
     clear c5
     simp only[Option.some.injEq,Prod.mk.injEq] at H
     obtain⟨rfl,rfl⟩:=H
     go_wp2
     repeat (go_quiet (fail);try go_wp2)
     go_ret2
     exact ⟨by first|rfl|(simp;done)|(simp[*];done),by repeat (first|exact Drawn0.refl _|apply Drawn0.step)⟩

-- NOT PRINTED: function 54 (cells_nearest)

/-! ### cells_Cut: function 36 -/
def cells_nearest.abs (w:Int):Int:=if w<0 then wrap64 (-w) else w
def cells_nearest.l (g:Int→Int→Int):Nat→List Int→Int→Int→Int→Int→Int→Option Int
 |0,_,_,_,_,_,_=>none
 |k+1,xs,last,best,least,ahead,i=>if i≤last then (if 0≤i∧i<(xs.length:Int) then
   (if best=0∨cells_nearest.abs (g ahead (rd xs i))<least then cells_nearest.l g k xs last i (cells_nearest.abs (g ahead (rd xs i))) (wrap64 (ahead+rd xs i)) (wrap64 (i+1))
    else cells_nearest.l g k xs last best least (wrap64 (ahead+rd xs i)) (wrap64 (i+1))) else none) else some best
def cells_nearest.f (g:Int→Int→Int) (k:Nat) (xs:List Int) (last:Int):Option Int:=if 0<(xs.length:Int) then cells_nearest.l g k xs last 0 0 (rd xs 0) 1 else none
theorem cells_nearest.mono_l (g:Int→Int→Int) : ∀ k y0 y1 y2 y3 y4 y5,LeO (cells_nearest.l g k y0 y1 y2 y3 y4 y5) (cells_nearest.l g (k+1) y0 y1 y2 y3 y4 y5)
 |0=>fun _ _ _ _ _ _ r h=>by simp[cells_nearest.l] at h
 |k+1=>by
  have ih:=cells_nearest.mono_l g k
  intro y0 y1 y2 y3 y4 y5
  unfold cells_nearest.l
  repeat' first
   |(with_reducible exact ih _ _ _ _ _ _)
   |(with_reducible exact LeO.refl _)
   |(with_reducible exact LeO.none _)
   |(with_reducible refine LeO.ite ?_ ?_)
theorem cells_nearest.mono (g:Int→Int→Int) (a0 a1) (k:Nat):LeO (cells_nearest.f g k a0 a1) (cells_nearest.f g (k+1) a0 a1):=by
 unfold cells_nearest.f
 exact LeO.ite (cells_nearest.mono_l g k _ _ _ _ _ _) (LeO.refl _)
theorem cell_new_ (w:World) (v:Value) (t:Nat):(w.alloc (.cells #[v] t)).cell? ⟨w.heap.size,0,none⟩=some v:=by
 have h:=heap_alloc_new w (.cells #[v] t)
 unfold World.cell?
 simp only[h]
 rfl
theorem cells_Cut.clo (all ah ow:Int) (b:Nat) (w:World) (hv:w.cell? ⟨b,0,none⟩=some (.int .i64 all)) :
  Calls Tryd.prog 55 #[.int .i64 ah,.int .i64 ow,.pointer (some ⟨b,0,none⟩)] w fun e w'=>e=.returned (.int .i64 (wrap64 (wrap64 (2*ah) - all)))∧w'=w:=by
 go_enter Tryd.func55,Tryd.ntmps55
 go_wp2
 go_ret
 exact ⟨by simp,rfl⟩
set_option maxHeartbeats 8000000 in
set_option maxRecDepth 100000 in
theorem cells_Cut.near (all:Int) (b:Nat) (k:Nat) (A0:Option Addr) (c0:Nat) (l0:List Int) (a1:Int) (r:Int) (w:World) (hv:w.cell? ⟨b,0,none⟩=some (.int .i64 all)) (hr0:Kd.C (Kd.int .i64) w A0 l0.length l0)
  (h:cells_nearest.f (fun ah ow=>wrap64 (wrap64 (2*ah) - all)) k l0 a1=some r) :
  Calls Tryd.prog 54 #[.slice A0 l0.length c0,.int .i64 a1,.func (.func 55) #[] #[.pointer (some ⟨b,0,none⟩)]] w fun e w'=>e=.returned (.int .i64 r)∧w'=w:=by
 have HR0:=Aside0.mk hr0
 have HV:=Aside0.mk hv
 clear hr0 hv
 unfold cells_nearest.f at h
 by_cases c1:0<(l0.length:Int)
 ·
  rw[if_pos c1] at h
  have H':=Aside0.mk h
  clear h
  obtain⟨ad,e,hx⟩:=Kd.at_int HR0.out 0 (by omega) c1
  cases e
  rw[show ad.add (Int.toNat 0)=ad from by unfold Addr.add;simp] at hx
  have c1b:decide (0<(l0.length:Int))=true:=decide_eq_true c1
  go_enter Tryd.func54,Tryd.ntmps54
  go_wp2
  go_loopg [7,8,9,10] k (fun kq v7 v8 v9 v10 w'=>∃ (x7 x8 x9 x10:Int),v7=.int .i64 x7∧v8=.int .i64 x8∧v9=.int .i64 x9∧v10=.int .i64 x10∧Aside0 (cells_nearest.l (fun ah ow=>wrap64 (wrap64 (2*ah) - all)) kq l0 a1 x7 x8 x9 x10=some r)∧w'=w)
  case atStart=>exact ⟨_,_,_,_,rfl,rfl,rfl,rfl,H',rfl⟩
  case round=>
   clear H'
   obtain⟨x7,x8,x9,x10,rfl,rfl,rfl,rfl,HA,rfl⟩:=hrel
   cases gk with
   |zero=>exact absurd HA.out (by simp[cells_nearest.l])
   |succ k1=>
    have H:=HA.out
    clear HA
    simp only[cells_nearest.l] at H
    by_cases c2:x10≤a1
    ·
     rw[if_pos c2] at H
     have c2b:decide (x10≤a1)=true:=decide_eq_true c2
     by_cases c3:0≤x10∧x10<(l0.length:Int)
     ·
      rw[if_pos c3] at H
      obtain⟨c3,c4⟩:=c3
      have c3b:decide (0≤x10)=true:=decide_eq_true c3
      have c4b:decide (x10<(l0.length:Int))=true:=decide_eq_true c4
      obtain⟨ad2,e2,hx2⟩:=Kd.at_int HR0.out x10 c3 c4
      cases e2
      have hv:=HV.out
      obtain⟨gv,hgv⟩ : ∃ gv,wrap64 (wrap64 (2*x9) - all)=gv:=⟨_,rfl⟩
      rw[hgv] at H
      by_cases c5:gv<0
      ·
       have c5b:decide (gv<0)=true:=decide_eq_true c5
       rw[show cells_nearest.abs gv=wrap64 (-gv) from if_pos c5] at H
       by_cases c6:x7=0
       ·
        have c6b:(x7==0)=true:=beq_iff_eq.mpr c6
        rw[if_pos (.inl c6)] at H
        have H':=Aside0.mk H
        clear H
        go_wp2_with (first|(go_at_call 55;refine (cells_Cut.clo all _ _ b _ hv).mono ?_;rintro e w1 ⟨rfl,rfl⟩))
        go_roundg k1
        case measure=>omega
        case rel=>exact ⟨_,_,_,_,rfl,rfl,rfl,rfl,H',rfl⟩
       ·
        have c6b:(x7==0)=false:=beq_eq_false_iff_ne.mpr c6
        by_cases c7:wrap64 (-gv)<x8
        ·
         have c7b:decide (wrap64 (-gv)<x8)=true:=decide_eq_true c7
         rw[if_pos (.inr c7)] at H
         have H':=Aside0.mk H
         clear H
         go_wp2_with (first|(go_at_call 55;refine (cells_Cut.clo all _ _ b _ hv).mono ?_;rintro e w1 ⟨rfl,rfl⟩))
         go_roundg k1
         case measure=>omega
         case rel=>exact ⟨_,_,_,_,rfl,rfl,rfl,rfl,H',rfl⟩
        ·
         have c7b:decide (wrap64 (-gv)<x8)=false:=decide_eq_false c7
         rw[if_neg (fun h=>h.elim c6 c7)] at H
         have H':=Aside0.mk H
         clear H
         go_wp2_with (first|(go_at_call 55;refine (cells_Cut.clo all _ _ b _ hv).mono ?_;rintro e w1 ⟨rfl,rfl⟩))
         go_roundg k1
         case measure=>omega
         case rel=>exact ⟨_,_,_,_,rfl,rfl,rfl,rfl,H',rfl⟩
      ·
       have c5b:decide (gv<0)=false:=decide_eq_false c5
       rw[show cells_nearest.abs gv=gv from if_neg c5] at H
       by_cases c6:x7=0
       ·
        have c6b:(x7==0)=true:=beq_iff_eq.mpr c6
        rw[if_pos (.inl c6)] at H
        have H':=Aside0.mk H
        clear H
        go_wp2_with (first|(go_at_call 55;refine (cells_Cut.clo all _ _ b _ hv).mono ?_;rintro e w1 ⟨rfl,rfl⟩))
        go_roundg k1
        case measure=>omega
        case rel=>exact ⟨_,_,_,_,rfl,rfl,rfl,rfl,H',rfl⟩
       ·
        have c6b:(x7==0)=false:=beq_eq_false_iff_ne.mpr c6
        by_cases c7:gv<x8
        ·
         have c7b:decide (gv<x8)=true:=decide_eq_true c7
         rw[if_pos (.inr c7)] at H
         have H':=Aside0.mk H
         clear H
         go_wp2_with (first|(go_at_call 55;refine (cells_Cut.clo all _ _ b _ hv).mono ?_;rintro e w1 ⟨rfl,rfl⟩))
         go_roundg k1
         case measure=>omega
         case rel=>exact ⟨_,_,_,_,rfl,rfl,rfl,rfl,H',rfl⟩
        ·
         have c7b:decide (gv<x8)=false:=decide_eq_false c7
         rw[if_neg (fun h=>h.elim c6 c7)] at H
         have H':=Aside0.mk H
         clear H
         go_wp2_with (first|(go_at_call 55;refine (cells_Cut.clo all _ _ b _ hv).mono ?_;rintro e w1 ⟨rfl,rfl⟩))
         go_roundg k1
         case measure=>omega
         case rel=>exact ⟨_,_,_,_,rfl,rfl,rfl,rfl,H',rfl⟩
     ·
      rw[if_neg c3] at H
      exact absurd H (by simp)
    ·
     rw[if_neg c2] at H
     have c2b:decide (x10≤a1)=false:=decide_eq_false c2
     obtain rfl:=Option.some.inj H
     go_wp2
     go_ret
     exact ⟨rfl,rfl⟩
 ·
  rw[if_neg c1] at h
  exact absurd h (by simp)
def cells_Cut.f (k:Nat) (l0:List Int):Option (Int×Option Int):=(cells_check.f k l0 2).bind fun t=>if t.2.isNone=true then (cells_nearest.f (fun ah ow=>wrap64 (wrap64 (2*ah) - t.1)) k l0 (wrap64 ((l0.length:Int) - 1))).bind fun n=>some (n,none) else some (0,t.2)
theorem cells_Cut.mono : ∀ a0 k,LeO (cells_Cut.f k a0) (cells_Cut.f (k+1) a0):=by
 intro a0 k
 unfold cells_Cut.f
 exact LeO.bind (cells_check.mono _ _ _) (fun _=>LeO.ite (LeO.bind (cells_nearest.mono _ _ _ _) (fun _=>LeO.refl _)) (LeO.refl _))
set_option maxHeartbeats 8000000 in
set_option maxRecDepth 100000 in
theorem cells_Cut.calls (k:Nat) (E:Int→Addr) (A0:Option Addr) (c0:Nat) (l0:List Int) (r1:Int) (r2:Option Int) (w:World) (hG:Glob E w) (hr0:Kd.C (Kd.int .i64) w A0 l0.length l0) (hc0:l0.length≤c0) (h:cells_Cut.f k l0=some (r1,r2)) :
  Calls Tryd.prog 36 #[.slice A0 l0.length c0] w fun e w'=>e=.returned (.tuple #[.int .i64 r1,errW E r2])∧Below w.heap.size w w':=by
 have hu28:=Tryd.underlying28
 have HB:=Aside0.mk (Below.refl w.heap.size w)
 unfold cells_Cut.f at h
 obtain⟨⟨all,e2⟩,hA,h⟩:=Option.bind_eq_some_iff.mp h
 have hmf : ∀ (fn:Fn) (first cap:Array Value) (w:World),(Instr.makeFunc fn first cap).run Tryd.prog w=.ok (.func fn first cap) w:=fun _ _ _ _=>rfl
 have HR0:=Aside0.mk hr0
 have HG:=Aside0.mk hG
 have HC0:=Aside0.mk hc0
 have HA:=Aside0.mk hA
 clear hr0 hG hc0 hA
 rcases e2 with _|q
 ·
  simp only[Option.isNone_none,↓reduceIte] at h
  obtain⟨n,hN,h⟩:=Option.bind_eq_some_iff.mp h
  simp only[Option.some.injEq,Prod.mk.injEq] at h
  obtain⟨rfl,rfl⟩:=h
  have HN:=Aside0.mk hN
  clear hN
  go_enter Tryd.func36,Tryd.ntmps36
  go_wp2_with (first|(go_at_call 53;refine (cells_check.calls k E _ _ l0 2 all none _ HG.out HR0.out HC0.out HA.out).mono ?_;rintro e w1 ⟨rfl,hd⟩;have HD:=Aside0.mk hd;clear hd;simp only[errW_none])|(go_at_call 54;refine (cells_Cut.near all w1.heap.size k _ c0 l0 _ n _ ?hv ?hr HN.out).mono ?_;(case hv=>exact cell_new_ _ _ _);(case hr=>exact Kd.C_below HR0.out (below_alloc HD.out.below _));rintro e w2 ⟨rfl,rfl⟩))
  go_ret2
  exact ⟨rfl,below_alloc HD.out.below _⟩
 ·
  simp only[Option.isNone_some,Bool.false_eq_true,↓reduceIte] at h
  simp only[Option.some.injEq,Prod.mk.injEq] at h
  obtain⟨rfl,rfl⟩:=h
  go_enter Tryd.func36,Tryd.ntmps36
  go_wp2_with (first|(go_at_call 53;refine (cells_check.calls k E _ _ l0 2 all (some q) _ HG.out HR0.out HC0.out HA.out).mono ?_;rintro e w1 ⟨rfl,hd⟩;have HD:=Aside0.mk hd;clear hd;simp only[errW_some]))
  go_ret2
  exact ⟨rfl,below_alloc HD.out.below _⟩

end Go.Proofs.YtdailhlghlledaaDoor.XLeafNew
