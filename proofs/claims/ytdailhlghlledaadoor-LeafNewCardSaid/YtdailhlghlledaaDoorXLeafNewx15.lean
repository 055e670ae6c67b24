-- Printed for this claim by a program (wip/printx) that builds on the kit's print. Not trusted: Lean checks it.
-- slim
import Derived.Test.YtdailhlghlledaaDoorXLeafNewx0
import Derived.Test.YtdailhlghlledaaDoorXLeafNewx2
namespace Go.Proofs.YtdailhlghlledaaDoor.XLeafNew
open Go.RowKit Go.Proofs.YtdailhlghlledaaDoorW.PrintWords Go.Proofs.YtdailhlghlledaaDoorW.PrintLast Go.Proofs.YtdailhlghlledaaDoorW.PrintMore
attribute [local go_sem] max2_int min2_int max_two min_two max_three min_three max_four min_four   -- for this text's walks alone
set_option linter.unusedVariables false
set_option linter.unusedSimpArgs false

/-! ### copselaw7_own: function 31 -/
def copselaw7_own.f (k:Nat) (a0:Int):Option (ByteArray×ByteArray):=(copsekit_Bytes.f k (⟨#[97,98,99,100,101,102,103,104,105,106,107,108,109,110]⟩:ByteArray)).bind fun t452=>(if 0≤a0 then (if a0≤(wrap64 (a0+1)) then (if (wrap64 (a0+1))≤(t452.length:Int) then (some ((⟨#[111,119,110]⟩:ByteArray),strOfNums ((t452.take ((wrap64 (a0+1)):Int).toNat).drop (a0:Int).toNat))) else (none)) else (none)) else (none))
theorem copselaw7_own.mono : ∀ a0 k,LeO (copselaw7_own.f k a0) (copselaw7_own.f (k+1) a0):=by
 intro a0 k
 unfold copselaw7_own.f
 repeat' first
   |(with_reducible exact copsekit_Bytes.mono _ _)
   |(with_reducible exact LeO.refl _)
   |(with_reducible exact LeO.none _)
   |(with_reducible refine LeO.ite ?_ ?_)
   |(with_reducible refine LeO.bind ?_ (fun _=>?_))
   |exact copsekit_Bytes.mono _ _
   |exact LeO.none _
   |refine LeO.ite ?_ ?_
   |refine LeO.bind ?_ (fun _=>?_)
set_option maxHeartbeats 8000000 in
set_option maxRecDepth 100000 in
theorem copselaw7_own.calls (k:Nat) (a0:Int) (r1:ByteArray) (r2:ByteArray) (w:World) (h:copselaw7_own.f k a0=some (r1,r2)) :
  Calls Tryd.prog 31 #[.int .i64 a0] w fun e w'=>e=.returned (.agg #[.string r1,.string r2])∧Below w.heap.size w w':=by
 have hu58:=Tryd.underlying58
 have HB:=Aside0.mk (Below.refl w.heap.size w)
 have H:((copsekit_Bytes.f k (⟨#[97,98,99,100,101,102,103,104,105,106,107,108,109,110]⟩:ByteArray)).bind fun t452=>(if 0≤a0 then (if a0≤(wrap64 (a0+1)) then (if (wrap64 (a0+1))≤(t452.length:Int) then (some ((⟨#[111,119,110]⟩:ByteArray),strOfNums ((t452.take ((wrap64 (a0+1)):Int).toNat).drop (a0:Int).toNat))) else (none)) else (none)) else (none)))=some (r1,r2):=h
 clear h
 replace H:=Option.bind_eq_some_iff.mp H
 obtain⟨t452,A20,H⟩:=H
 try dsimp only at H
 have A2:=Aside0.mk A20
 clear A20
 by_cases c3:0≤a0
 ·
  rw[if_pos c3] at H
  have c3b0:=eq_true c3
  have c3b1:decide (0≤a0)=true:=decide_eq_true c3
  clear c3
  by_cases c4:a0≤(wrap64 (a0+1))
  ·
   rw[if_pos c4] at H
   have c4b0:=eq_true c4
   have c4b1:decide (a0≤(wrap64 (a0+1)))=true:=decide_eq_true c4
   by_cases c5:(wrap64 (a0+1))≤(t452.length:Int)
   ·
    rw[if_pos c5] at H
    have c5b0:=eq_true c5
    have c5b1:decide ((wrap64 (a0+1))≤(t452.length:Int))=true:=decide_eq_true c5
    obtain⟨y455,hy455⟩ : ∃ y_:List Int,y_=((t452.take ((wrap64 (a0+1)):Int).toNat).drop (a0:Int).toNat):=⟨_,rfl⟩
    replace H:(some ((⟨#[111,119,110]⟩:ByteArray),strOfNums y455))=some (r1,r2):=by first|(rw[hy455];with_reducible exact H)|(have H2_:=(Option.bind_some _ _).symm.trans H;rw[hy455];with_reducible exact H2_)|(have H2_:=(Option.bind_some _ _).symm.trans H;with_reducible exact H2_)|with_reducible exact H|(rw[hy455];exact H)|exact H
    have Ny455:=Aside0.mk hy455
    clear hy455
    simp only[Option.some.injEq,Prod.mk.injEq] at H
    obtain⟨rfl,rfl⟩:=H
    go_enter Tryd.func31,Tryd.ntmps31
    go_wp2_with (first|((with_reducible refine gate_dst (N:=2) rfl ?_);refine box_event ?hg (N:=2) ?hd (cs:=#[.string (⟨#[]⟩:ByteArray),.string (⟨#[]⟩:ByteArray)]) (t:=58) ?hr ?_;(case hd=>rfl);(case hg=>rfl);(case hr=>first|(go_simp;done)|(go_simp;rfl));intro gb451 hg w6 hbox hb;have n0_:=Aside0.mk (below_step (upB HB.out) hb);have n1_:=Aside0.mk (hbox);have n2_:=Aside0.mk ((by rw[hg];exact (below_size (upB HB.out)):w.heap.size≤gb451));have n3_:=Aside0.mk ((by rw[hg];exact (below_size (upB HB.out)):w.heap.size≤gb451));clear HB;have HB:=n0_;have BK451:=n1_;have GW451:=n2_;have GE451:=n3_;clear n0_ n1_ n2_ n3_;clear hb hbox hg)|((with_reducible refine gate_callee (f:=52) rfl ?_);refine goesL_ (some 3) rfl rfl Tryd.func52 (by kernel_rfl) rfl #[.string (⟨#[97,98,99,100,101,102,103,104,105,106,107,108,109,110]⟩:ByteArray)] rfl (by (try simp only[ml_]);first|done|rfl|(simp only[List.length_drop,List.length_take];rfl)) ?_;(with_reducible refine (copsekit_Bytes.calls k (⟨#[97,98,99,100,101,102,103,104,105,106,107,108,109,110]⟩:ByteArray) t452 _ A2.out).mono ?_);rintro e w7 ⟨v453,rfl,ho0,hb⟩;refine ⟨_,rfl,?_⟩;have n0_:=Aside0.mk (Kd.R_lower ho0 (below_size (by repeat (first|exact upB HB.out|refine below_set ?_ GE451.out))));have n1_:=Aside0.mk (blk_below (g:=gb451) (o:=.cells #[.string (⟨#[]⟩:ByteArray),.string (⟨#[]⟩:ByteArray)] 58 (0,0)) (upX BK451.out) hb);have n2_:=Aside0.mk (below_step (by repeat (first|exact upB HB.out|refine below_set ?_ GE451.out)) hb);clear BK451;clear HB;have HO454:=n0_;have BK451:=n1_;have HB:=n2_;clear n0_ n1_ n2_;(try clear hb);(try clear hb2);(try clear hk);(try clear hi);(try clear ho0);obtain⟨Ao9,co9,eo9⟩:=Kd.R_slice HO454.out;subst eo9;have q8:((wrap64 (a0+1)):Int)≤((t452.length:Int):Int):=of_decide_eq_true (by assumption);obtain⟨i08,hi08,_,hsz8,_⟩:=info_parts info5;have hroom8:t452.length≤co9:=(Kd.R_reads' HO454.out).2.1;have hC8:Kd.C (Kd.int .u8) _ Ao9 t452.length t452:=(Kd.R_reads' HO454.out).2.2;have ql8:(a0:Int)≤((wrap64 (a0+1)):Int):=of_decide_eq_true (by assumption);have q08:(0:Int)≤(a0:Int):=of_decide_eq_true (by assumption);have hcut8:=cut_mid (P:=Tryd.prog) 83 5 .i64 .i64 Tryd.underlying83 hi08 1 hsz8 Ao9 t452.length co9 a0 (wrap64 (a0+1)) q08 ql8 q8 hroom8;have hr8:=Kd.C_mid (lo:=(a0:Int).toNat) (hi:=((wrap64 (a0+1)):Int).toNat) (c:=co9) hC8 (by omega) (by omega) hroom8;obtain⟨A8,hA8⟩ : ∃ A1,A1=(if co9=(a0:Int).toNat then Ao9 else (Ao9:Option Addr).map (·.add ((a0:Int).toNat*1))):=⟨_,rfl⟩;obtain⟨c8,hc8⟩ : ∃ c1,c1=co9 - (a0:Int).toNat:=⟨_,rfl⟩;have hy8:y455.length=((wrap64 (a0+1)):Int).toNat - (a0:Int).toNat:=(by rw[Ny455.out,List.length_drop,List.length_take] <;> omega);rw[show ((t452).take ((wrap64 (a0+1)):Int).toNat).drop (a0:Int).toNat=y455 from Ny455.out.symm] at hr8;replace hr8:Kd.C (Kd.int .u8) _ A8 y455.length y455:=(by rw[hA8];exact hr8);rw[←hy8,←hA8,←hc8] at hcut8;have HR458:=Aside0.mk hr8;have HC458:=Aside0.mk (show y455.length≤c8 from by rw[hy8,hc8];exact Nat.sub_le_sub_right (Nat.le_trans (by omega) hroom8) _);clear hr8 hC8 hroom8 hi08 hsz8 hc8;have KY8:=Aside0.mk hy8;have KA8:=Aside0.mk hA8;clear hy8 hA8;have KL8:=Aside0.mk (show ((wrap64 (a0+1)):Int).toNat≤t452.length from by omega);have KM8:=Aside0.mk (show (a0:Int).toNat≤((wrap64 (a0+1)):Int).toNat from by omega);replace q8:=eq_true q8;have hcv10:=Kd.C_string (P:=Tryd.prog) (A:=A8) (c:=c8) Tryd.underlying83 Tryd.underlying5 Tryd.underlying9 HR458.out;have hcz11_0:w7.cell? ⟨gb451,0,none⟩=some (.string (⟨#[]⟩:ByteArray)):=(blk_cell BK451.out 0).trans rfl;have hcz11_1:w7.cell? ⟨gb451,1,none⟩=some (.string (⟨#[]⟩:ByteArray)):=(blk_cell BK451.out 1).trans rfl;have hfz11_0:=blk_frozen BK451.out 0;have hfz11_1:=blk_frozen BK451.out 1))
    refine bodyPost_ret (results_cell_row rfl _ _ gb451 58 #[.string (⟨#[111,119,110]⟩:ByteArray),.string (strOfNums y455)] (0,0) _ rfl (by (with_reducible repeat (first|refine blk_drewN ?_ _|refine blk_drew ?_|refine blk_alloc ?_ _));refine blk_put (cs:=#[.string (⟨#[111,119,110]⟩:ByteArray),.string (⟨#[]⟩:ByteArray)]) ?_ 1 _ rfl;(with_reducible repeat (first|refine blk_drewN ?_ _|refine blk_drew ?_|refine blk_alloc ?_ _));refine blk_put (cs:=#[.string (⟨#[]⟩:ByteArray),.string (⟨#[]⟩:ByteArray)]) ?_ 0 _ rfl;(with_reducible repeat (first|refine blk_drewN ?_ _|refine blk_drew ?_|refine blk_alloc ?_ _));exact BK451.out) Tryd.underlying58 rfl (by kernel_rfl)) rfl ?_
    exact ⟨by first|rfl|(simp[errW_none,errW_some] <;> rfl)|(simp[*,errW_none,errW_some] <;> rfl),by repeat (first|exact upB HB.out|refine below_set ?_ GE451.out|apply pw_below_drewN)⟩
   ·
    rw[if_neg c5] at H
    exact absurd H (by simp)
  ·
   rw[if_neg c4] at H
   exact absurd H (by simp)
 ·
  rw[if_neg c3] at H
  exact absurd H (by simp)

end Go.Proofs.YtdailhlghlledaaDoor.XLeafNew
