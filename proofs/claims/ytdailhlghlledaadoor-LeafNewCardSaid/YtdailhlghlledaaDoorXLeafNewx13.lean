-- Printed for this claim by a program (wip/printx) that builds on the kit's print. Not trusted: Lean checks it.
-- slim
import Derived.Test.YtdailhlghlledaaDoorXLeafNewx0
import Derived.Test.YtdailhlghlledaaDoorXLeafNewx10
import Derived.Test.YtdailhlghlledaaDoorXLeafNewx12
namespace Go.Proofs.YtdailhlghlledaaDoor.XLeafNew
open Go.RowKit Go.Proofs.YtdailhlghlledaaDoorW.PrintWords Go.Proofs.YtdailhlghlledaaDoorW.PrintLast Go.Proofs.YtdailhlghlledaaDoorW.PrintMore
attribute [local go_sem] max2_int min2_int max_two min_two max_three min_three max_four min_four   -- for this text's walks alone
set_option linter.unusedVariables false
set_option linter.unusedSimpArgs false

/-! ### copseref7_Encode: function 22 -/
def copseref7_Encode.l0:Nat→List (S58)→List ByteArray→Int→Option (ByteArray×Int)
 |0,_,_,_=>none
 |k+1,x0,x5,x6=>if x6<(x0.length:Int) then (if 0≤x6 then ((copseref7_cell.f k ((rd_T58 x0 x6).f0) ((rd_T58 x0 x6).f1)).bind fun t340=>(if x5.length<8796093022208 then (copseref7_Encode.l0 k x0 (x5++[t340]) (wrap64 (x6+1))) else (none))) else (none)) else ((copseref6_Lay.f k x5).bind fun bt344=>(some (bt344.1,bt344.2)))
def copseref7_Encode.f (k:Nat) (l0:List (S58)):Option (ByteArray×Int):=(copseref7_Check.f k l0 true).bind fun t338=>(if t338=0 then (copseref7_Encode.l0 k l0 ([]:List ByteArray) 0) else (some ((⟨#[]⟩:ByteArray),t338)))
theorem copseref7_Encode.mono_l : ∀ k,(∀ y0 y1 y2,LeO (copseref7_Encode.l0 k y0 y1 y2) (copseref7_Encode.l0 (k+1) y0 y1 y2))
 |0=>fun _ _ _ r h=>by simp[copseref7_Encode.l0] at h
 |k+1=>by
  have ih0:=copseref7_Encode.mono_l k
  ·
   intro y0 y1 y2
   unfold copseref7_Encode.l0
   repeat' first
   |(with_reducible exact ih0 _ _ _)
   |(with_reducible exact copseref6_Lay.mono _ _)
   |(with_reducible exact copseref7_Check.mono _ _ _)
   |(with_reducible exact copseref7_cell.mono _ _ _)
   |(with_reducible exact LeO.refl _)
   |(with_reducible exact LeO.none _)
   |(with_reducible refine LeO.ite ?_ ?_)
   |(with_reducible refine LeO.bind ?_ (fun _=>?_))
   |exact ih0 _ _ _
   |exact copseref6_Lay.mono _ _
   |exact copseref7_Check.mono _ _ _
   |exact copseref7_cell.mono _ _ _
   |exact LeO.none _
   |refine LeO.ite ?_ ?_
   |refine LeO.bind ?_ (fun _=>?_)
theorem copseref7_Encode.mono : ∀ a0 k,LeO (copseref7_Encode.f k a0) (copseref7_Encode.f (k+1) a0):=by
 intro a0 k
 have ih0:=copseref7_Encode.mono_l k
 unfold copseref7_Encode.f
 repeat' first
   |(with_reducible exact ih0 _ _ _)
   |(with_reducible exact copseref6_Lay.mono _ _)
   |(with_reducible exact copseref7_Check.mono _ _ _)
   |(with_reducible exact copseref7_cell.mono _ _ _)
   |(with_reducible exact LeO.refl _)
   |(with_reducible exact LeO.none _)
   |(with_reducible refine LeO.ite ?_ ?_)
   |(with_reducible refine LeO.bind ?_ (fun _=>?_))
   |exact ih0 _ _ _
   |exact copseref6_Lay.mono _ _
   |exact copseref7_Check.mono _ _ _
   |exact copseref7_cell.mono _ _ _
   |exact LeO.none _
   |refine LeO.ite ?_ ?_
   |refine LeO.bind ?_ (fun _=>?_)
set_option maxHeartbeats 8000000 in
set_option maxRecDepth 100000 in
theorem copseref7_Encode.calls (k:Nat) (A0:Option Addr) (c0:Nat) (l0:List (S58)) (r1:ByteArray) (r2:Int) (w:World) (hr0:Kd.C k58 w A0 l0.length l0) (hc0:l0.length≤c0) (h:copseref7_Encode.f k l0=some (r1,r2)) :
  Calls Tryd.prog 22 #[.slice A0 l0.length c0] w fun e w'=>e=.returned (.tuple #[.string r1,.int .i64 r2])∧Below w.heap.size w w':=by
 have hu58:=Tryd.underlying58
 have HR0:=Aside0.mk hr0
 have HC0:=Aside0.mk hc0
 clear hr0 hc0
 have HB:=Aside0.mk (Below.refl w.heap.size w)
 have H:((copseref7_Check.f k l0 true).bind fun t338=>(if t338=0 then (copseref7_Encode.l0 k l0 ([]:List ByteArray) 0) else (some ((⟨#[]⟩:ByteArray),t338))))=some (r1,r2):=h
 clear h
 replace H:=Option.bind_eq_some_iff.mp H
 obtain⟨t338,A20,H⟩:=H
 try dsimp only at H
 have A2:=Aside0.mk A20
 clear A20
 by_cases c3:t338=0
 ·
  rw[if_pos c3] at H
  have c3b0:(t338==0)=true:=beq_iff_eq.mpr c3
  have c3b1:(t338 != 0)=false:=bne_eq_false_iff_eq.mpr c3
  clear c3
  have H':=Aside0.mk H
  clear H
  go_enter Tryd.func22,Tryd.ntmps22
  go_wp2_with (first|((with_reducible refine gate_callee (f:=17) rfl ?_);refine goesL_ (some 8) rfl rfl Tryd.func17 (by kernel_rfl) rfl #[.slice A0 l0.length c0,.bool true] rfl (by (try simp only[ml_]);first|done|rfl|(simp only[List.length_drop,List.length_take];rfl)) ?_;(with_reducible refine (copseref7_Check.calls k _ _ l0 true t338 _ ?side1 ?side2 A2.out).mono ?_);(case side1=>exact upC HR0.out);(case side2=>exact HC0.out);rintro e w4 ⟨rfl,hb⟩;refine ⟨_,rfl,?_⟩;have n0_:=Aside0.mk (below_step (upB HB.out) hb);clear HB;have HB:=n0_;clear n0_;(try clear hb);(try clear hb2);(try clear hk);(try clear hi)))
  go_loopg [5,6] k (fun kq v5 v6 w'=>∃ (x5_1:List ByteArray) (x6_1:Int),v6=.int .i64 x6_1∧Aside0 (copseref7_Encode.l0 kq l0 x5_1 x6_1=some (r1,r2))∧Aside0 (kq≤k)∧Aside0 (Kd.R Kd.string 9 w' w.heap.size (fun _=>True) v5 x5_1)∧Aside0 (Below w.heap.size w w'))
  case atStart=>exact ⟨(([]:List ByteArray)),(0),(by first|rfl|(simp;done)|(simp[*];done)),H',⟨Nat.le_refl _⟩,⟨by first|exact Kd.R_nil _ _ _ _ _|exact Kd.N_nil _ _ _ _ _|exact Kd.V_nil _ _ _ _ _|exact Kd.Q_nil _ _ _ _ _|exact Kd.S_nil _ _ _ _ _⟩,⟨upB HB.out⟩⟩
  case round=>
   clear H'
   try clear c1
   try clear c2
   try clear p2
   try clear c3
   try clear c3b0
   try clear c3b1
   obtain⟨x5_1,x6_1,rfl,HA,HK1,HO_5,HB⟩:=hrel
   cases gk with
   |zero=>exact absurd HA.out (by simp[copseref7_Encode.l0])
   |succ k1=>
    have H:=HA.out
    clear HA
    simp only[copseref7_Encode.l0] at H
    by_cases c5:x6_1<(l0.length:Int)
    ·
     rw[if_pos c5] at H
     have c5b0:decide (x6_1<(l0.length:Int))=true:=decide_eq_true c5
     clear c5
     by_cases c6:0≤x6_1
     ·
      rw[if_pos c6] at H
      have c6b0:decide (0≤x6_1)=true:=decide_eq_true c6
      clear c6
      replace H:=Option.bind_eq_some_iff.mp H
      obtain⟨t340,A70,H⟩:=H
      try dsimp only at H
      have A7:=Aside0.mk A70
      clear A70
      by_cases c8:x5_1.length<8796093022208
      ·
       rw[if_pos c8] at H
       have LMc8:=Aside0.mk c8
       clear c8
       obtain⟨y341,hy341⟩ : ∃ y_:List ByteArray,y_=(x5_1++[t340]):=⟨_,rfl⟩
       replace H:(copseref7_Encode.l0 k1 l0 y341 (wrap64 (x6_1+1)))=some (r1,r2):=by first|(rw[hy341];with_reducible exact H)|(have H2_:=(Option.bind_some _ _).symm.trans H;rw[hy341];with_reducible exact H2_)|(have H2_:=(Option.bind_some _ _).symm.trans H;with_reducible exact H2_)|with_reducible exact H|(rw[hy341];exact H)|exact H
       have Ny341:=Aside0.mk hy341
       clear hy341
       have H':=Aside0.mk H
       clear H
       have p339:0≤(x6_1:Int):=of_decide_eq_true (by assumption)
       have q339:x6_1<(l0.length:Int):=of_decide_eq_true (by assumption)
       obtain⟨ad339,e339,hx339_0,hx339_1⟩:=at_T58 HR0.out x6_1 p339 q339
       cases e339
       replace hx339_0:=(HB.out.cell (World.block_lt_of_cell? w _ hx339_0)).trans hx339_0
       replace hx339_1:=(HB.out.cell (World.block_lt_of_cell? w _ hx339_1)).trans hx339_1
       replace p339:=eq_true p339
       replace q339:=eq_true q339
       go_wp2_with (first|((with_reducible refine gate_callee (f:=40) rfl ?_);refine goesL_ (some 23) rfl rfl Tryd.func40 (by kernel_rfl) rfl #[.agg #[.string ((rd_T58 l0 x6_1).f0),.string ((rd_T58 l0 x6_1).f1)]] rfl (by (try simp only[ml_]);first|done|rfl|(simp only[List.length_drop,List.length_take];rfl)) ?_;(with_reducible refine (copseref7_cell.calls k1 ((rd_T58 l0 x6_1).f0) ((rd_T58 l0 x6_1).f1) t340 _ A7.out).mono ?_);rintro e w9 ⟨rfl,hb⟩;refine ⟨_,rfl,?_⟩;have n0_:=Aside0.mk (Kd.R_below (upK HO_5.out) hb);have n1_:=Aside0.mk (below_step (upB HB.out) hb);clear HO_5;clear HB;have HO_5:=n0_;have HB:=n1_;clear n0_ n1_;(try clear hb);(try clear hb2);(try clear hk);(try clear hi))|((with_reducible refine gate_builtin (b:=.append) (xs:=#[.tmp 18,.tmp 24]) rfl ?_);at_builtin;refine Kd.R_append Kd.string (w0:=w) w.heap.size rfl (.tmp 18) (.tmp 24) 70 9 (.string ⟨#[]⟩) 16 rfl Tryd.underlying70 info9 rfl (by decide) (by omega) u5 x5_1 t340 [.string t340] (fun _=>True) (fun _=>False) rfl rfl ?aP (fun _ hk=>hk.elim) ?aF ?aO ?aB ?aS ?aL ?_;(case aP=>exact rfl);(case aB=>exact (upB HB.out));(case aF=>exact (fun _ _=>trivial));(case aO=>exact (upK HO_5.out));(case aS=>exact (below_size (upB HB.out)));(case aL=>have:=LMc8.out;omega);intro v342 w10 ho hb hg hat;rw[←Ny341.out] at ho;have n0_:=Aside0.mk (hb);have n1_:=Aside0.mk (ho);clear HB;clear HO_5;have HB:=n0_;have HO343:=n1_;clear n0_ n1_;clear ho hb hg hat))
       go_roundg k1
       case measure=>have:=HK1.out;omega
       case rel=>exact ⟨(y341),(wrap64 (x6_1+1)),(by first|rfl|(simp;done)|(simp[*];done)),H',⟨by have:=HK1.out;omega⟩,⟨by (with_reducible repeat (first|apply Kd.R_alloc|apply Kd.R_drewN|apply Kd.R_drew));exact HO343.out⟩,⟨upB HB.out⟩⟩
      ·
       rw[if_neg c8] at H
       exact absurd H (by simp)
     ·
      rw[if_neg c6] at H
      exact absurd H (by simp)
    ·
     rw[if_neg c5] at H
     have c5b0:decide (x6_1<(l0.length:Int))=false:=decide_eq_false c5
     clear c5
     replace H:=Option.bind_eq_some_iff.mp H
     obtain⟨⟨t344,t345⟩,A110,H⟩:=H
     try dsimp only at H
     have A11:=Aside0.mk A110
     clear A110
     simp only[Option.some.injEq,Prod.mk.injEq] at H
     obtain⟨rfl,rfl⟩:=H
     obtain⟨Ao12,co12,eo12⟩:=Kd.R_slice HO_5.out
     subst eo12
     go_wp2_with (first|((with_reducible refine gate_callee (f:=41) rfl ?_);refine goesL_ (some 27) rfl rfl Tryd.func41 (by kernel_rfl) rfl #[.slice Ao12 x5_1.length co12] rfl (by (try simp only[ml_]);first|done|rfl|(simp only[List.length_drop,List.length_take];rfl)) ?_;(with_reducible refine (copseref6_Lay.calls k1 _ _ x5_1 t344 t345 _ ?side1 ?side2 A11.out).mono ?_);(case side1=>exact upC (Kd.R_reads' HO_5.out).2.2);(case side2=>exact (Kd.R_reads' HO_5.out).2.1);rintro e w13 ⟨rfl,hb⟩;refine ⟨_,rfl,?_⟩;have n0_:=Aside0.mk (Kd.R_below (upK HO_5.out) hb);have n1_:=Aside0.mk (below_step (upB HB.out) hb);clear HO_5;clear HB;have HO_5:=n0_;have HB:=n1_;clear n0_ n1_;(try clear hb);(try clear hb2);(try clear hk);(try clear hi)))
     go_ret2
     exact ⟨by first|rfl|(simp[errW_none,errW_some] <;> rfl)|(simp[*,errW_none,errW_some] <;> rfl),upB HB.out⟩
 ·
  rw[if_neg c3] at H
  have c3b0:(t338==0)=false:=beq_eq_false_iff_ne.mpr c3
  have c3b1:(t338 != 0)=true:=bne_iff_ne.mpr c3
  simp only[Option.some.injEq,Prod.mk.injEq] at H
  obtain⟨rfl,rfl⟩:=H
  go_enter Tryd.func22,Tryd.ntmps22
  go_wp2_with (first|((with_reducible refine gate_callee (f:=17) rfl ?_);refine goesL_ (some 8) rfl rfl Tryd.func17 (by kernel_rfl) rfl #[.slice A0 l0.length c0,.bool true] rfl (by (try simp only[ml_]);first|done|rfl|(simp only[List.length_drop,List.length_take];rfl)) ?_;(with_reducible refine (copseref7_Check.calls k _ _ l0 true t338 _ ?side1 ?side2 A2.out).mono ?_);(case side1=>exact upC HR0.out);(case side2=>exact HC0.out);rintro e w14 ⟨rfl,hb⟩;refine ⟨_,rfl,?_⟩;have n0_:=Aside0.mk (below_step (upB HB.out) hb);clear HB;have HB:=n0_;clear n0_;(try clear hb);(try clear hb2);(try clear hk);(try clear hi)))
  go_ret2
  exact ⟨by first|rfl|(simp[errW_none,errW_some] <;> rfl)|(simp[*,errW_none,errW_some] <;> rfl),upB HB.out⟩

/-! ### copseref7_Find: function 49 -/
def copseref7_Find.l0:Nat→List (S58)→ByteArray→Int→Option (Int×Bool)
 |0,_,_,_=>none
 |k+1,x0,x1,x6=>if x6<(x0.length:Int) then (if 0≤x6 then (if ((Op.bytesLess (((rd_T58 x0 x6).f0).toList) x1.toList)=true) then (copseref7_Find.l0 k x0 x1 (wrap64 (x6+1))) else (some (x6,(((rd_T58 x0 x6).f0).toList==x1.toList)))) else (none)) else (some ((x0.length:Int),false))
def copseref7_Find.f (k:Nat) (l0:List (S58)) (a1:ByteArray):Option (Int×Bool):=copseref7_Find.l0 k l0 a1 0
theorem copseref7_Find.mono_l : ∀ k,(∀ y0 y1 y2,LeO (copseref7_Find.l0 k y0 y1 y2) (copseref7_Find.l0 (k+1) y0 y1 y2))
 |0=>fun _ _ _ r h=>by simp[copseref7_Find.l0] at h
 |k+1=>by
  have ih0:=copseref7_Find.mono_l k
  ·
   intro y0 y1 y2
   unfold copseref7_Find.l0
   repeat' first
   |(with_reducible exact ih0 _ _ _)
   |(with_reducible exact LeO.refl _)
   |(with_reducible exact LeO.none _)
   |(with_reducible refine LeO.ite ?_ ?_)
   |(with_reducible refine LeO.bind ?_ (fun _=>?_))
   |exact ih0 _ _ _
   |exact LeO.none _
   |refine LeO.ite ?_ ?_
   |refine LeO.bind ?_ (fun _=>?_)
theorem copseref7_Find.mono : ∀ a0 a1 k,LeO (copseref7_Find.f k a0 a1) (copseref7_Find.f (k+1) a0 a1):=by
 intro a0 a1 k
 have ih0:=copseref7_Find.mono_l k
 unfold copseref7_Find.f
 repeat' first
   |(with_reducible exact ih0 _ _ _)
   |(with_reducible exact LeO.refl _)
   |(with_reducible exact LeO.none _)
   |(with_reducible refine LeO.ite ?_ ?_)
   |(with_reducible refine LeO.bind ?_ (fun _=>?_))
   |exact ih0 _ _ _
   |exact LeO.none _
   |refine LeO.ite ?_ ?_
   |refine LeO.bind ?_ (fun _=>?_)
set_option maxHeartbeats 8000000 in
set_option maxRecDepth 100000 in
theorem copseref7_Find.calls (k:Nat) (A0:Option Addr) (c0:Nat) (l0:List (S58)) (a1:ByteArray) (r1:Int) (r2:Bool) (w:World) (hr0:Kd.C k58 w A0 l0.length l0) (hc0:l0.length≤c0) (h:copseref7_Find.f k l0 a1=some (r1,r2)) :
  Calls Tryd.prog 49 #[.slice A0 l0.length c0,.string a1] w fun e w'=>e=.returned (.tuple #[.int .i64 r1,.bool r2])∧Drawn0 w w':=by
 have HR0:=Aside0.mk hr0
 have HC0:=Aside0.mk hc0
 clear hr0 hc0
 have H:(copseref7_Find.l0 k l0 a1 0)=some (r1,r2):=h
 clear h
 have H':=Aside0.mk H
 clear H
 go_enter Tryd.func49,Tryd.ntmps49
 go_wp2
 repeat (go_quiet (fail);try go_wp2)
 go_loopg [6] k (fun kq v6 w'=>∃ (x6_1:Int),v6=.int .i64 x6_1∧Aside0 (copseref7_Find.l0 kq l0 a1 x6_1=some (r1,r2))∧Aside0 (kq≤k)∧Drawn0 w w')
 case atStart=>exact ⟨(0),(by first|rfl|(simp;done)|(simp[*];done)),H',⟨Nat.le_refl _⟩,by repeat (first|exact Drawn0.refl _|apply Drawn0.step)⟩
 case round=>
  clear H'
  try clear p2
  obtain⟨x6_1,rfl,HA,HK1,⟨m1,rfl⟩⟩:=hrel
  cases gk with
  |zero=>exact absurd HA.out (by simp[copseref7_Find.l0])
  |succ k1=>
   have H:=HA.out
   clear HA
   simp only[copseref7_Find.l0] at H
   by_cases c3:x6_1<(l0.length:Int)
   ·
    rw[if_pos c3] at H
    have c3b0:decide (x6_1<(l0.length:Int))=true:=decide_eq_true c3
    clear c3
    by_cases c4:0≤x6_1
    ·
     rw[if_pos c4] at H
     have c4b0:decide (0≤x6_1)=true:=decide_eq_true c4
     clear c4
     by_cases c5:((Op.bytesLess (((rd_T58 l0 x6_1).f0).toList) a1.toList)=true)
     ·
      rw[if_pos c5] at H
      have c5b0:(Op.bytesLess (((rd_T58 l0 x6_1).f0).toList) a1.toList)=true:=c5
      clear c5
      have H':=Aside0.mk H
      clear H
      have p346:0≤(x6_1:Int):=of_decide_eq_true (by assumption)
      have q346:x6_1<(l0.length:Int):=of_decide_eq_true (by assumption)
      obtain⟨ad346,e346,hx346_0,hx346_1⟩:=at_T58 HR0.out x6_1 p346 q346
      cases e346
      replace p346:=eq_true p346
      replace q346:=eq_true q346
      go_wp2
      repeat (go_quiet (fail);try go_wp2)
      go_roundg k1
      case measure=>have:=HK1.out;omega
      case rel=>exact ⟨(wrap64 (x6_1+1)),(by first|rfl|(simp;done)|(simp[*];done)),H',⟨by have:=HK1.out;omega⟩,by repeat (first|exact Drawn0.refl _|apply Drawn0.step)⟩
     ·
      rw[if_neg c5] at H
      have c5b0:(Op.bytesLess (((rd_T58 l0 x6_1).f0).toList) a1.toList)=false:=by simpa using c5
      clear c5
      simp only[Option.some.injEq,Prod.mk.injEq] at H
      obtain⟨rfl,rfl⟩:=H
      have p346:0≤(x6_1:Int):=of_decide_eq_true (by assumption)
      have q346:x6_1<(l0.length:Int):=of_decide_eq_true (by assumption)
      obtain⟨ad346,e346,hx346_0,hx346_1⟩:=at_T58 HR0.out x6_1 p346 q346
      cases e346
      replace p346:=eq_true p346
      replace q346:=eq_true q346
      have p347:0≤(x6_1:Int):=of_decide_eq_true (by assumption)
      have q347:x6_1<(l0.length:Int):=of_decide_eq_true (by assumption)
      obtain⟨ad347,e347,hx347_0,hx347_1⟩:=at_T58 HR0.out x6_1 p347 q347
      obtain rfl:ad346=ad347:=(by injection e347)
      replace p347:=eq_true p347
      replace q347:=eq_true q347
      go_wp2
      repeat (go_quiet (fail);try go_wp2)
      go_ret2
      exact ⟨by first|rfl|(simp;done)|(simp[*];done),by repeat (first|exact Drawn0.refl _|apply Drawn0.step)⟩
    ·
     rw[if_neg c4] at H
     exact absurd H (by simp)
   ·
    rw[if_neg c3] at H
    have c3b0:decide (x6_1<(l0.length:Int))=false:=decide_eq_false c3
    clear c3
    simp only[Option.some.injEq,Prod.mk.injEq] at H
    obtain⟨rfl,rfl⟩:=H
    go_wp2
    repeat (go_quiet (fail);try go_wp2)
    go_ret2
    exact ⟨by first|rfl|(simp;done)|(simp[*];done),by repeat (first|exact Drawn0.refl _|apply Drawn0.step)⟩

/-! ### copseref7_Drop: function 50 -/
def copseref7_Drop.l0:Nat→List (S58)→Int→Bool→List (S58)→Int→Option ((List (S58))×Bool)
 |0,_,_,_,_,_=>none
 |k+1,x0,x6,x7,x8,x9=>if x9<(x0.length:Int) then (if x7=true then (if x9=x6 then (copseref7_Drop.l0 k x0 x6 x7 x8 (wrap64 (x9+1))) else (if 0≤x9 then (if x8.length<4398046511104 then (copseref7_Drop.l0 k x0 x6 x7 (x8++[(⟨(rd_T58 x0 x9).f0,(rd_T58 x0 x9).f1⟩:S58)]) (wrap64 (x9+1))) else (none)) else (none))) else (if 0≤x9 then (if x8.length<4398046511104 then (copseref7_Drop.l0 k x0 x6 x7 (x8++[(⟨(rd_T58 x0 x9).f0,(rd_T58 x0 x9).f1⟩:S58)]) (wrap64 (x9+1))) else (none)) else (none))) else (some (x8,x7))
def copseref7_Drop.f (k:Nat) (l0:List (S58)) (a1:ByteArray):Option ((List (S58))×Bool):=(copseref7_Find.f k l0 a1).bind fun bt348=>(copseref7_Drop.l0 k l0 bt348.1 bt348.2 ([]:List (S58)) 0)
theorem copseref7_Drop.mono_l : ∀ k,(∀ y0 y1 y2 y3 y4,LeO (copseref7_Drop.l0 k y0 y1 y2 y3 y4) (copseref7_Drop.l0 (k+1) y0 y1 y2 y3 y4))
 |0=>fun _ _ _ _ _ r h=>by simp[copseref7_Drop.l0] at h
 |k+1=>by
  have ih0:=copseref7_Drop.mono_l k
  ·
   intro y0 y1 y2 y3 y4
   unfold copseref7_Drop.l0
   repeat' first
   |(with_reducible exact ih0 _ _ _ _ _)
   |(with_reducible exact copseref7_Find.mono _ _ _)
   |(with_reducible exact LeO.refl _)
   |(with_reducible exact LeO.none _)
   |(with_reducible refine LeO.ite ?_ ?_)
   |(with_reducible refine LeO.bind ?_ (fun _=>?_))
   |exact ih0 _ _ _ _ _
   |exact copseref7_Find.mono _ _ _
   |exact LeO.none _
   |refine LeO.ite ?_ ?_
   |refine LeO.bind ?_ (fun _=>?_)
theorem copseref7_Drop.mono : ∀ a0 a1 k,LeO (copseref7_Drop.f k a0 a1) (copseref7_Drop.f (k+1) a0 a1):=by
 intro a0 a1 k
 have ih0:=copseref7_Drop.mono_l k
 unfold copseref7_Drop.f
 repeat' first
   |(with_reducible exact ih0 _ _ _ _ _)
   |(with_reducible exact copseref7_Find.mono _ _ _)
   |(with_reducible exact LeO.refl _)
   |(with_reducible exact LeO.none _)
   |(with_reducible refine LeO.ite ?_ ?_)
   |(with_reducible refine LeO.bind ?_ (fun _=>?_))
   |exact ih0 _ _ _ _ _
   |exact copseref7_Find.mono _ _ _
   |exact LeO.none _
   |refine LeO.ite ?_ ?_
   |refine LeO.bind ?_ (fun _=>?_)
set_option maxHeartbeats 8000000 in
set_option maxRecDepth 100000 in
theorem copseref7_Drop.calls (k:Nat) (A0:Option Addr) (c0:Nat) (l0:List (S58)) (a1:ByteArray) (r1:List (S58)) (r2:Bool) (w:World) (hr0:Kd.C k58 w A0 l0.length l0) (hc0:l0.length≤c0) (h:copseref7_Drop.f k l0 a1=some (r1,r2)) :
  Calls Tryd.prog 50 #[.slice A0 l0.length c0,.string a1] w fun e w'=>∃ v0_:Value,e=.returned (.tuple #[v0_,.bool r2])∧Kd.R k58 58 w' w.heap.size (fun _=>True) v0_ r1∧Below w.heap.size w w':=by
 have hu58:=Tryd.underlying58
 have HR0:=Aside0.mk hr0
 have HC0:=Aside0.mk hc0
 clear hr0 hc0
 have HB:=Aside0.mk (Below.refl w.heap.size w)
 have H:((copseref7_Find.f k l0 a1).bind fun bt348=>(copseref7_Drop.l0 k l0 bt348.1 bt348.2 ([]:List (S58)) 0))=some (r1,r2):=h
 clear h
 replace H:=Option.bind_eq_some_iff.mp H
 obtain⟨⟨t348,t349⟩,A30,H⟩:=H
 try dsimp only at H
 have A3:=Aside0.mk A30
 clear A30
 have H':=Aside0.mk H
 clear H
 go_enter Tryd.func50,Tryd.ntmps50
 go_wp2_with (first|((with_reducible refine gate_callee (f:=49) rfl ?_);refine goesL_ (some 13) rfl rfl Tryd.func49 (by kernel_rfl) rfl #[.slice A0 l0.length c0,.string a1] rfl (by (try simp only[ml_]);first|done|rfl|(simp only[List.length_drop,List.length_take];rfl)) ?_;(with_reducible refine (copseref7_Find.calls k _ _ l0 a1 t348 t349 _ ?side1 ?side2 A3.out).mono ?_);(case side1=>exact upC HR0.out);(case side2=>exact HC0.out);rintro e w' ⟨rfl,⟨nd,rfl⟩⟩;refine ⟨_,rfl,?_⟩))
 go_loopg [8,9] k (fun kq v8 v9 w'=>∃ (x8_1:List (S58)) (x9_1:Int),v9=.int .i64 x9_1∧Aside0 (copseref7_Drop.l0 kq l0 t348 t349 x8_1 x9_1=some (r1,r2))∧Aside0 (kq≤k)∧Aside0 (Kd.R k58 58 w' w.heap.size (fun _=>True) v8 x8_1)∧Aside0 (Below w.heap.size w w'))
 case atStart=>exact ⟨(([]:List (S58))),(0),(by first|rfl|(simp;done)|(simp[*];done)),H',⟨Nat.le_refl _⟩,⟨by first|exact Kd.R_nil _ _ _ _ _|exact Kd.N_nil _ _ _ _ _|exact Kd.V_nil _ _ _ _ _|exact Kd.Q_nil _ _ _ _ _|exact Kd.S_nil _ _ _ _ _⟩,⟨upB HB.out⟩⟩
 case round=>
  clear H'
  try clear p2
  obtain⟨x8_1,x9_1,rfl,HA,HK1,HO_8,HB⟩:=hrel
  cases gk with
  |zero=>exact absurd HA.out (by simp[copseref7_Drop.l0])
  |succ k1=>
   have H:=HA.out
   clear HA
   simp only[copseref7_Drop.l0] at H
   by_cases c4:x9_1<(l0.length:Int)
   ·
    rw[if_pos c4] at H
    have c4b0:decide (x9_1<(l0.length:Int))=true:=decide_eq_true c4
    clear c4
    by_cases c5:t349=true
    ·
     subst c5
     have H1:(if x9_1=t348 then (copseref7_Drop.l0 k1 l0 t348 true x8_1 (wrap64 (x9_1+1))) else (if 0≤x9_1 then (if x8_1.length<4398046511104 then (copseref7_Drop.l0 k1 l0 t348 true (x8_1++[(⟨(rd_T58 l0 x9_1).f0,(rd_T58 l0 x9_1).f1⟩:S58)]) (wrap64 (x9_1+1))) else (none)) else (none)))=some (r1,r2):=by rw[if_pos rfl] at H;exact H
     clear H
     have H:=H1
     clear H1
     by_cases c6:x9_1=t348
     ·
      rw[if_pos c6] at H
      have c6b0:(x9_1==t348)=true:=beq_iff_eq.mpr c6
      have c6b1:(x9_1 != t348)=false:=bne_eq_false_iff_eq.mpr c6
      clear c6
      have H':=Aside0.mk H
      clear H
      go_wp2
      go_roundg k1
      case measure=>have:=HK1.out;omega
      case rel=>exact ⟨(x8_1),(wrap64 (x9_1+1)),(by first|rfl|(simp;done)|(simp[*];done)),H',⟨by have:=HK1.out;omega⟩,⟨by (with_reducible repeat (first|apply Kd.R_alloc|apply Kd.R_drewN|apply Kd.R_drew));exact HO_8.out⟩,⟨upB HB.out⟩⟩
     ·
      rw[if_neg c6] at H
      have c6b0:(x9_1==t348)=false:=beq_eq_false_iff_ne.mpr c6
      have c6b1:(x9_1 != t348)=true:=bne_iff_ne.mpr c6
      by_cases c7:0≤x9_1
      ·
       rw[if_pos c7] at H
       have c7b0:decide (0≤x9_1)=true:=decide_eq_true c7
       clear c7
       by_cases c8:x8_1.length<4398046511104
       ·
        rw[if_pos c8] at H
        have LMc8:=Aside0.mk c8
        clear c8
        obtain⟨y351,hy351⟩ : ∃ y_:List (S58),y_=(x8_1++[(⟨(rd_T58 l0 x9_1).f0,(rd_T58 l0 x9_1).f1⟩:S58)]):=⟨_,rfl⟩
        replace H:(copseref7_Drop.l0 k1 l0 t348 true y351 (wrap64 (x9_1+1)))=some (r1,r2):=by first|(rw[hy351];with_reducible exact H)|(have H2_:=(Option.bind_some _ _).symm.trans H;rw[hy351];with_reducible exact H2_)|(have H2_:=(Option.bind_some _ _).symm.trans H;with_reducible exact H2_)|with_reducible exact H|(rw[hy351];exact H)|exact H
        have Ny351:=Aside0.mk hy351
        clear hy351
        have H':=Aside0.mk H
        clear H
        have p350:0≤(x9_1:Int):=of_decide_eq_true (by assumption)
        have q350:x9_1<(l0.length:Int):=of_decide_eq_true (by assumption)
        obtain⟨ad350,e350,hx350_0,hx350_1⟩:=at_T58 HR0.out x9_1 p350 q350
        cases e350
        replace hx350_0:=(HB.out.cell (World.block_lt_of_cell? w _ hx350_0)).trans hx350_0
        replace hx350_1:=(HB.out.cell (World.block_lt_of_cell? w _ hx350_1)).trans hx350_1
        replace p350:=eq_true p350
        replace q350:=eq_true q350
        go_wp2_with (first|((with_reducible refine gate_builtin (b:=.append) (xs:=#[.tmp 29,.tmp 34]) rfl ?_);at_builtin;refine Kd.R_append k58 (w0:=w) w.heap.size rfl (.tmp 29) (.tmp 34) 22 58 (.agg #[(.string ⟨#[]⟩),(.string ⟨#[]⟩)]) 32 rfl Tryd.underlying22 info58 rfl (by decide) (by omega) u8 x8_1 (⟨(rd_T58 l0 x9_1).f0,(rd_T58 l0 x9_1).f1⟩:S58) [.string ((rd_T58 l0 x9_1).f0),.string ((rd_T58 l0 x9_1).f1)] (fun _=>True) (fun _=>False) rfl rfl ?aP (fun _ hk=>hk.elim) ?aF ?aO ?aB ?aS ?aL ?_;(case aP=>exact k58_mkM _ _ _ (⟨(rd_T58 l0 x9_1).f0,(rd_T58 l0 x9_1).f1⟩:S58));(case aB=>exact (upB HB.out));(case aF=>exact (fun _ _=>trivial));(case aO=>exact (upK HO_8.out));(case aS=>exact (below_size (upB HB.out)));(case aL=>have:=LMc8.out;omega);intro v352 w9 ho hb hg hat;rw[←Ny351.out] at ho;have n0_:=Aside0.mk (hb);have n1_:=Aside0.mk (ho);clear HB;clear HO_8;have HB:=n0_;have HO353:=n1_;clear n0_ n1_;clear ho hb hg hat))
        go_roundg k1
        case measure=>have:=HK1.out;omega
        case rel=>exact ⟨(y351),(wrap64 (x9_1+1)),(by first|rfl|(simp;done)|(simp[*];done)),H',⟨by have:=HK1.out;omega⟩,⟨by (with_reducible repeat (first|apply Kd.R_alloc|apply Kd.R_drewN|apply Kd.R_drew));exact HO353.out⟩,⟨upB HB.out⟩⟩
       ·
        rw[if_neg c8] at H
        exact absurd H (by simp)
      ·
       rw[if_neg c7] at H
       exact absurd H (by simp)
    ·
     replace c5:=Bool.eq_false_iff.mpr c5
     subst c5
     have H1:(if 0≤x9_1 then (if x8_1.length<4398046511104 then (copseref7_Drop.l0 k1 l0 t348 false (x8_1++[(⟨(rd_T58 l0 x9_1).f0,(rd_T58 l0 x9_1).f1⟩:S58)]) (wrap64 (x9_1+1))) else (none)) else (none))=some (r1,r2):=by rw[if_neg (show ¬ (false=true) by decide)] at H;exact H
     clear H
     have H:=H1
     clear H1
     by_cases c10:0≤x9_1
     ·
      rw[if_pos c10] at H
      have c10b0:decide (0≤x9_1)=true:=decide_eq_true c10
      clear c10
      by_cases c11:x8_1.length<4398046511104
      ·
       rw[if_pos c11] at H
       have LMc11:=Aside0.mk c11
       clear c11
       obtain⟨y355,hy355⟩ : ∃ y_:List (S58),y_=(x8_1++[(⟨(rd_T58 l0 x9_1).f0,(rd_T58 l0 x9_1).f1⟩:S58)]):=⟨_,rfl⟩
       replace H:(copseref7_Drop.l0 k1 l0 t348 false y355 (wrap64 (x9_1+1)))=some (r1,r2):=by first|(rw[hy355];with_reducible exact H)|(have H2_:=(Option.bind_some _ _).symm.trans H;rw[hy355];with_reducible exact H2_)|(have H2_:=(Option.bind_some _ _).symm.trans H;with_reducible exact H2_)|with_reducible exact H|(rw[hy355];exact H)|exact H
       have Ny355:=Aside0.mk hy355
       clear hy355
       first|(have YEy355:=Aside0.mk (Ny355.out.trans Ny351.out.symm))|skip
       have H':=Aside0.mk H
       clear H
       have p354:0≤(x9_1:Int):=of_decide_eq_true (by assumption)
       have q354:x9_1<(l0.length:Int):=of_decide_eq_true (by assumption)
       obtain⟨ad354,e354,hx354_0,hx354_1⟩:=at_T58 HR0.out x9_1 p354 q354
       cases e354
       replace hx354_0:=(HB.out.cell (World.block_lt_of_cell? w _ hx354_0)).trans hx354_0
       replace hx354_1:=(HB.out.cell (World.block_lt_of_cell? w _ hx354_1)).trans hx354_1
       replace p354:=eq_true p354
       replace q354:=eq_true q354
       go_wp2_with (first|((with_reducible refine gate_builtin (b:=.append) (xs:=#[.tmp 29,.tmp 34]) rfl ?_);at_builtin;refine Kd.R_append k58 (w0:=w) w.heap.size rfl (.tmp 29) (.tmp 34) 22 58 (.agg #[(.string ⟨#[]⟩),(.string ⟨#[]⟩)]) 32 rfl Tryd.underlying22 info58 rfl (by decide) (by omega) u8 x8_1 (⟨(rd_T58 l0 x9_1).f0,(rd_T58 l0 x9_1).f1⟩:S58) [.string ((rd_T58 l0 x9_1).f0),.string ((rd_T58 l0 x9_1).f1)] (fun _=>True) (fun _=>False) rfl rfl ?aP (fun _ hk=>hk.elim) ?aF ?aO ?aB ?aS ?aL ?_;(case aP=>exact k58_mkM _ _ _ (⟨(rd_T58 l0 x9_1).f0,(rd_T58 l0 x9_1).f1⟩:S58));(case aB=>exact (upB HB.out));(case aF=>exact (fun _ _=>trivial));(case aO=>exact (upK HO_8.out));(case aS=>exact (below_size (upB HB.out)));(case aL=>have:=LMc11.out;omega);intro v356 w12 ho hb hg hat;rw[←Ny355.out] at ho;have n0_:=Aside0.mk (hb);have n1_:=Aside0.mk (ho);clear HB;clear HO_8;have HB:=n0_;have HO357:=n1_;clear n0_ n1_;clear ho hb hg hat))
       go_roundg k1
       case measure=>have:=HK1.out;omega
       case rel=>exact ⟨(y355),(wrap64 (x9_1+1)),(by first|rfl|(simp;done)|(simp[*];done)),H',⟨by have:=HK1.out;omega⟩,⟨by (with_reducible repeat (first|apply Kd.R_alloc|apply Kd.R_drewN|apply Kd.R_drew));exact HO357.out⟩,⟨upB HB.out⟩⟩
      ·
       rw[if_neg c11] at H
       exact absurd H (by simp)
     ·
      rw[if_neg c10] at H
      exact absurd H (by simp)
   ·
    rw[if_neg c4] at H
    have c4b0:decide (x9_1<(l0.length:Int))=false:=decide_eq_false c4
    clear c4
    simp only[Option.some.injEq,Prod.mk.injEq] at H
    obtain⟨rfl,rfl⟩:=H
    go_wp2
    go_ret2
    exact ⟨_,by first|rfl|(simp[errW_none,errW_some] <;> rfl)|(simp[*,errW_none,errW_some] <;> rfl),by (with_reducible repeat (first|apply Kd.R_alloc|apply Kd.R_drewN|apply Kd.R_drew));exact HO_8.out,upB HB.out⟩

/-! ### copseref7_Set: function 51 -/
mutual
def copseref7_Set.l0:Nat→List (S58)→ByteArray→ByteArray→Int→Bool→List (S58)→Int→Option ((List (S58)))
 |0,_,_,_,_,_,_,_=>none
 |k+1,x0,x1,x2,x7,x8,x9,x10=>if x10<x7 then (if 0≤x10 then (if x10<(x0.length:Int) then (if x9.length<4398046511104 then (copseref7_Set.l0 k x0 x1 x2 x7 x8 (x9++[(⟨(rd_T58 x0 x10).f0,(rd_T58 x0 x10).f1⟩:S58)]) (wrap64 (x10+1))) else (none)) else (none)) else (none)) else (if x9.length<4398046511104 then ((some (x9++[(⟨x1,x2⟩:S58)]:List (S58))).bind fun y364=>(if x8=true then (copseref7_Set.j1 k x0 (wrap64 (x7+1)) y364) else (copseref7_Set.j1 k x0 x7 y364))) else (none))
def copseref7_Set.j1:Nat→List (S58)→Int→List (S58)→Option ((List (S58)))
 |0,_,_,_=>none
 |k+1,x0,x7,x9=>copseref7_Set.l1 k x0 x9 x7
def copseref7_Set.l1:Nat→List (S58)→List (S58)→Int→Option ((List (S58)))
 |0,_,_,_=>none
 |k+1,x0,x9,x11=>if x11<(x0.length:Int) then (if 0≤x11 then (if x9.length<4398046511104 then (copseref7_Set.l1 k x0 (x9++[(⟨(rd_T58 x0 x11).f0,(rd_T58 x0 x11).f1⟩:S58)]) (wrap64 (x11+1))) else (none)) else (none)) else (some x9)
end
def copseref7_Set.f (k:Nat) (l0:List (S58)) (a1:ByteArray) (a2:ByteArray):Option ((List (S58))):=(copseref7_Find.f k l0 a1).bind fun bt358=>(copseref7_Set.l0 k l0 a1 a2 bt358.1 bt358.2 ([]:List (S58)) 0)
theorem copseref7_Set.mono_l : ∀ k,(∀ y0 y1 y2 y3 y4 y5 y6,LeO (copseref7_Set.l0 k y0 y1 y2 y3 y4 y5 y6) (copseref7_Set.l0 (k+1) y0 y1 y2 y3 y4 y5 y6))∧(∀ y0 y1 y2,LeO (copseref7_Set.j1 k y0 y1 y2) (copseref7_Set.j1 (k+1) y0 y1 y2))∧(∀ y0 y1 y2,LeO (copseref7_Set.l1 k y0 y1 y2) (copseref7_Set.l1 (k+1) y0 y1 y2))
 |0=>⟨fun _ _ _ _ _ _ _ r h=>by simp[copseref7_Set.l0] at h,fun _ _ _ r h=>by simp[copseref7_Set.j1] at h,fun _ _ _ r h=>by simp[copseref7_Set.l1] at h⟩
 |k+1=>by
  obtain⟨ih0,ih1,ih2⟩:=copseref7_Set.mono_l k
  refine ⟨?_,?_,?_⟩
  ·
   intro y0 y1 y2 y3 y4 y5 y6
   unfold copseref7_Set.l0
   repeat' first
   |(with_reducible exact ih0 _ _ _ _ _ _ _)
   |(with_reducible exact ih1 _ _ _)
   |(with_reducible exact ih2 _ _ _)
   |(with_reducible exact copseref7_Find.mono _ _ _)
   |(with_reducible exact LeO.refl _)
   |(with_reducible exact LeO.none _)
   |(with_reducible refine LeO.ite ?_ ?_)
   |(with_reducible refine LeO.bind ?_ (fun _=>?_))
   |exact ih0 _ _ _ _ _ _ _
   |exact ih1 _ _ _
   |exact ih2 _ _ _
   |exact copseref7_Find.mono _ _ _
   |exact LeO.none _
   |refine LeO.ite ?_ ?_
   |refine LeO.bind ?_ (fun _=>?_)
  ·
   intro y0 y1 y2
   unfold copseref7_Set.j1
   repeat' first
   |(with_reducible exact ih0 _ _ _ _ _ _ _)
   |(with_reducible exact ih1 _ _ _)
   |(with_reducible exact ih2 _ _ _)
   |(with_reducible exact copseref7_Find.mono _ _ _)
   |(with_reducible exact LeO.refl _)
   |(with_reducible exact LeO.none _)
   |(with_reducible refine LeO.ite ?_ ?_)
   |(with_reducible refine LeO.bind ?_ (fun _=>?_))
   |exact ih0 _ _ _ _ _ _ _
   |exact ih1 _ _ _
   |exact ih2 _ _ _
   |exact copseref7_Find.mono _ _ _
   |exact LeO.none _
   |refine LeO.ite ?_ ?_
   |refine LeO.bind ?_ (fun _=>?_)
  ·
   intro y0 y1 y2
   unfold copseref7_Set.l1
   repeat' first
   |(with_reducible exact ih0 _ _ _ _ _ _ _)
   |(with_reducible exact ih1 _ _ _)
   |(with_reducible exact ih2 _ _ _)
   |(with_reducible exact copseref7_Find.mono _ _ _)
   |(with_reducible exact LeO.refl _)
   |(with_reducible exact LeO.none _)
   |(with_reducible refine LeO.ite ?_ ?_)
   |(with_reducible refine LeO.bind ?_ (fun _=>?_))
   |exact ih0 _ _ _ _ _ _ _
   |exact ih1 _ _ _
   |exact ih2 _ _ _
   |exact copseref7_Find.mono _ _ _
   |exact LeO.none _
   |refine LeO.ite ?_ ?_
   |refine LeO.bind ?_ (fun _=>?_)
theorem copseref7_Set.mono : ∀ a0 a1 a2 k,LeO (copseref7_Set.f k a0 a1 a2) (copseref7_Set.f (k+1) a0 a1 a2):=by
 intro a0 a1 a2 k
 obtain⟨ih0,ih1,ih2⟩:=copseref7_Set.mono_l k
 unfold copseref7_Set.f
 repeat' first
   |(with_reducible exact ih0 _ _ _ _ _ _ _)
   |(with_reducible exact ih1 _ _ _)
   |(with_reducible exact ih2 _ _ _)
   |(with_reducible exact copseref7_Find.mono _ _ _)
   |(with_reducible exact LeO.refl _)
   |(with_reducible exact LeO.none _)
   |(with_reducible refine LeO.ite ?_ ?_)
   |(with_reducible refine LeO.bind ?_ (fun _=>?_))
   |exact ih0 _ _ _ _ _ _ _
   |exact ih1 _ _ _
   |exact ih2 _ _ _
   |exact copseref7_Find.mono _ _ _
   |exact LeO.none _
   |refine LeO.ite ?_ ?_
   |refine LeO.bind ?_ (fun _=>?_)
set_option maxHeartbeats 8000000 in
set_option maxRecDepth 100000 in
theorem copseref7_Set.calls (k:Nat) (A0:Option Addr) (c0:Nat) (l0:List (S58)) (a1:ByteArray) (a2:ByteArray) (r:List (S58)) (w:World) (hr0:Kd.C k58 w A0 l0.length l0) (hc0:l0.length≤c0) (h:copseref7_Set.f k l0 a1 a2=some r) :
  Calls Tryd.prog 51 #[.slice A0 l0.length c0,.string a1,.string a2] w fun e w'=>∃ v0_:Value,e=.returned (v0_)∧Kd.R k58 58 w' w.heap.size (fun _=>True) v0_ r∧Below w.heap.size w w':=by
 have hu58:=Tryd.underlying58
 have HR0:=Aside0.mk hr0
 have HC0:=Aside0.mk hc0
 clear hr0 hc0
 have HB:=Aside0.mk (Below.refl w.heap.size w)
 have H:((copseref7_Find.f k l0 a1).bind fun bt358=>(copseref7_Set.l0 k l0 a1 a2 bt358.1 bt358.2 ([]:List (S58)) 0))=some r:=h
 clear h
 replace H:=Option.bind_eq_some_iff.mp H
 obtain⟨⟨t358,t359⟩,A40,H⟩:=H
 try dsimp only at H
 have A4:=Aside0.mk A40
 clear A40
 have H':=Aside0.mk H
 clear H
 go_enter Tryd.func51,Tryd.ntmps51
 go_wp2_with (first|((with_reducible refine gate_callee (f:=49) rfl ?_);refine goesL_ (some 15) rfl rfl Tryd.func49 (by kernel_rfl) rfl #[.slice A0 l0.length c0,.string a1] rfl (by (try simp only[ml_]);first|done|rfl|(simp only[List.length_drop,List.length_take];rfl)) ?_;(with_reducible refine (copseref7_Find.calls k _ _ l0 a1 t358 t359 _ ?side1 ?side2 A4.out).mono ?_);(case side1=>exact upC HR0.out);(case side2=>exact HC0.out);rintro e w' ⟨rfl,⟨nd,rfl⟩⟩;refine ⟨_,rfl,?_⟩))
 go_loopg [9,10] k (fun kq v9 v10 w'=>∃ (x9_1:List (S58)) (x10_1:Int),v10=.int .i64 x10_1∧Aside0 (copseref7_Set.l0 kq l0 a1 a2 t358 t359 x9_1 x10_1=some r)∧Aside0 (kq≤k)∧Aside0 (Kd.R k58 58 w' w.heap.size (fun _=>True) v9 x9_1)∧Aside0 (Below w.heap.size w w'))
 case atStart=>exact ⟨(([]:List (S58))),(0),(by first|rfl|(simp;done)|(simp[*];done)),H',⟨Nat.le_refl _⟩,⟨by first|exact Kd.R_nil _ _ _ _ _|exact Kd.N_nil _ _ _ _ _|exact Kd.V_nil _ _ _ _ _|exact Kd.Q_nil _ _ _ _ _|exact Kd.S_nil _ _ _ _ _⟩,⟨upB HB.out⟩⟩
 case round=>
  clear H'
  try clear p2
  try clear c4
  obtain⟨x9_1,x10_1,rfl,HA,HK1,HO_9,HB⟩:=hrel
  cases gk with
  |zero=>exact absurd HA.out (by simp[copseref7_Set.l0])
  |succ k1=>
   have H:=HA.out
   clear HA
   simp only[copseref7_Set.l0] at H
   by_cases c5:x10_1<t358
   ·
    rw[if_pos c5] at H
    have c5b0:decide (x10_1<t358)=true:=decide_eq_true c5
    clear c5
    by_cases c6:0≤x10_1
    ·
     rw[if_pos c6] at H
     have c6b0:decide (0≤x10_1)=true:=decide_eq_true c6
     clear c6
     by_cases c7:x10_1<(l0.length:Int)
     ·
      rw[if_pos c7] at H
      have c7b0:decide (x10_1<(l0.length:Int))=true:=decide_eq_true c7
      clear c7
      by_cases c8:x9_1.length<4398046511104
      ·
       rw[if_pos c8] at H
       have LMc8:=Aside0.mk c8
       clear c8
       obtain⟨y361,hy361⟩ : ∃ y_:List (S58),y_=(x9_1++[(⟨(rd_T58 l0 x10_1).f0,(rd_T58 l0 x10_1).f1⟩:S58)]):=⟨_,rfl⟩
       replace H:(copseref7_Set.l0 k1 l0 a1 a2 t358 t359 y361 (wrap64 (x10_1+1)))=some r:=by first|(rw[hy361];with_reducible exact H)|(have H2_:=(Option.bind_some _ _).symm.trans H;rw[hy361];with_reducible exact H2_)|(have H2_:=(Option.bind_some _ _).symm.trans H;with_reducible exact H2_)|with_reducible exact H|(rw[hy361];exact H)|exact H
       have Ny361:=Aside0.mk hy361
       clear hy361
       have H':=Aside0.mk H
       clear H
       have p360:0≤(x10_1:Int):=of_decide_eq_true (by assumption)
       have q360:x10_1<(l0.length:Int):=of_decide_eq_true (by assumption)
       obtain⟨ad360,e360,hx360_0,hx360_1⟩:=at_T58 HR0.out x10_1 p360 q360
       cases e360
       replace hx360_0:=(HB.out.cell (World.block_lt_of_cell? w _ hx360_0)).trans hx360_0
       replace hx360_1:=(HB.out.cell (World.block_lt_of_cell? w _ hx360_1)).trans hx360_1
       replace p360:=eq_true p360
       replace q360:=eq_true q360
       go_wp2_with (first|((with_reducible refine gate_builtin (b:=.append) (xs:=#[.tmp 23,.tmp 28]) rfl ?_);at_builtin;refine Kd.R_append k58 (w0:=w) w.heap.size rfl (.tmp 23) (.tmp 28) 22 58 (.agg #[(.string ⟨#[]⟩),(.string ⟨#[]⟩)]) 32 rfl Tryd.underlying22 info58 rfl (by decide) (by omega) u9 x9_1 (⟨(rd_T58 l0 x10_1).f0,(rd_T58 l0 x10_1).f1⟩:S58) [.string ((rd_T58 l0 x10_1).f0),.string ((rd_T58 l0 x10_1).f1)] (fun _=>True) (fun _=>False) rfl rfl ?aP (fun _ hk=>hk.elim) ?aF ?aO ?aB ?aS ?aL ?_;(case aP=>exact k58_mkM _ _ _ (⟨(rd_T58 l0 x10_1).f0,(rd_T58 l0 x10_1).f1⟩:S58));(case aB=>exact (upB HB.out));(case aF=>exact (fun _ _=>trivial));(case aO=>exact (upK HO_9.out));(case aS=>exact (below_size (upB HB.out)));(case aL=>have:=LMc8.out;omega);intro v362 w9 ho hb hg hat;rw[←Ny361.out] at ho;have n0_:=Aside0.mk (hb);have n1_:=Aside0.mk (ho);clear HB;clear HO_9;have HB:=n0_;have HO363:=n1_;clear n0_ n1_;clear ho hb hg hat))
       go_roundg k1
       case measure=>have:=HK1.out;omega
       case rel=>exact ⟨(y361),(wrap64 (x10_1+1)),(by first|rfl|(simp;done)|(simp[*];done)),H',⟨by have:=HK1.out;omega⟩,⟨by (with_reducible repeat (first|apply Kd.R_alloc|apply Kd.R_drewN|apply Kd.R_drew));exact HO363.out⟩,⟨upB HB.out⟩⟩
      ·
       rw[if_neg c8] at H
       exact absurd H (by simp)
     ·
      rw[if_neg c7] at H
      exact absurd H (by simp)
    ·
     rw[if_neg c6] at H
     exact absurd H (by simp)
   ·
    rw[if_neg c5] at H
    have c5b0:decide (x10_1<t358)=false:=decide_eq_false c5
    clear c5
    by_cases c10:x9_1.length<4398046511104
    ·
     rw[if_pos c10] at H
     have LMc10:=Aside0.mk c10
     clear c10
     obtain⟨y364,hy364⟩ : ∃ y_:List (S58),y_=(x9_1++[(⟨a1,a2⟩:S58)]):=⟨_,rfl⟩
     replace H:(if t359=true then (copseref7_Set.j1 k1 l0 (wrap64 (t358+1)) y364) else (copseref7_Set.j1 k1 l0 t358 y364))=some r:=by first|(rw[hy364];with_reducible exact H)|(have H2_:=(Option.bind_some _ _).symm.trans H;rw[hy364];with_reducible exact H2_)|(have H2_:=(Option.bind_some _ _).symm.trans H;with_reducible exact H2_)|with_reducible exact H|(rw[hy364];exact H)|exact H
     have Ny364:=Aside0.mk hy364
     clear hy364
     have HC11:=Aside0.mk H
     clear H
     go_upto_if 36 with (first|((with_reducible refine gate_builtin (b:=.append) (xs:=#[.tmp 30,.tmp 34]) rfl ?_);at_builtin;refine Kd.R_append k58 (w0:=w) w.heap.size rfl (.tmp 30) (.tmp 34) 22 58 (.agg #[(.string ⟨#[]⟩),(.string ⟨#[]⟩)]) 32 rfl Tryd.underlying22 info58 rfl (by decide) (by omega) u9 x9_1 (⟨a1,a2⟩:S58) [.string a1,.string a2] (fun _=>True) (fun _=>False) rfl rfl ?aP (fun _ hk=>hk.elim) ?aF ?aO ?aB ?aS ?aL ?_;(case aP=>exact k58_mkM _ _ _ (⟨a1,a2⟩:S58));(case aB=>exact (upB HB.out));(case aF=>exact (fun _ _=>trivial));(case aO=>exact (upK HO_9.out));(case aS=>exact (below_size (upB HB.out)));(case aL=>have:=LMc10.out;omega);intro v365 w12 ho hb hg hat;rw[←Ny364.out] at ho;have n0_:=Aside0.mk (hb);have n1_:=Aside0.mk (ho);clear HB;clear HO_9;have HB:=n0_;have HO366:=n1_;clear n0_ n1_;clear ho hb hg hat))
     (try simp only[Act.put,List.setIfInBounds_toArray,List.set_cons_zero,List.set_cons_succ])
     go_cut [7] (fun v7 wc=>∃ (kq:Nat) (x7_10:Int),v7=.int .i64 x7_10∧Aside0 (copseref7_Set.j1 kq l0 x7_10 y364=some r)∧Aside0 (kq≤k1)∧Aside0 (Kd.R k58 58 wc w.heap.size (fun _=>True) v365 y364)∧Aside0 (Below w.heap.size w wc))
     case first=>
      have H:=HC11.out
      clear HC11
      by_cases c13:t359=true
      ·
       subst c13
       have H1:(copseref7_Set.j1 k1 l0 (wrap64 (t358+1)) y364)=some r:=by rw[if_pos rfl] at H;exact H
       clear H
       have H:=H1
       clear H1
       have H':=Aside0.mk H
       clear H
       go_wp2
       go_meet
       case rel=>exact ⟨_,(wrap64 (t358+1)),(by first|rfl|(simp;done)|(simp[*];done)),H',⟨by have:=HK1.out;first|omega|exact Nat.le_refl _⟩,⟨by (with_reducible repeat (first|apply Kd.R_alloc|apply Kd.R_drewN|apply Kd.R_drew));exact HO366.out⟩,⟨upB HB.out⟩⟩
      ·
       replace c13:=Bool.eq_false_iff.mpr c13
       subst c13
       have H1:(copseref7_Set.j1 k1 l0 t358 y364)=some r:=by rw[if_neg (show ¬ (false=true) by decide)] at H;exact H
       clear H
       have H:=H1
       clear H1
       have H':=Aside0.mk H
       clear H
       go_wp2
       go_meet
       case rel=>exact ⟨_,(t358),(by first|rfl|(simp;done)|(simp[*];done)),H',⟨by have:=HK1.out;first|omega|exact Nat.le_refl _⟩,⟨by (with_reducible repeat (first|apply Kd.R_alloc|apply Kd.R_drewN|apply Kd.R_drew));exact HO366.out⟩,⟨upB HB.out⟩⟩
     case rest=>
      clear HC11
      try clear c1
      try clear p2
      try clear p3
      try clear q3
      try clear hx3
      try clear c4
      try clear c5
      try clear c5b0
      try clear c6
      try clear c6b0
      try clear p6
      try clear c7
      try clear c7b0
      try clear c8
      try clear c10
      try clear c13
      try clear hx360_0
      try clear hx360_1
      try clear p2
      try clear p360
      try clear q360
      obtain⟨kq,x7_10,rfl,HA,HJ10,HO_9,HB⟩:=hcut
      cases kq with
      |zero=>exact absurd HA.out (by simp[copseref7_Set.j1])
      |succ kj10=>
       have H:=HA.out
       clear HA
       simp only[copseref7_Set.j1] at H
       have H':=Aside0.mk H
       clear H
       go_wp2
       go_loopg [9,11] kj10 (fun kq v9 v11 w'=>∃ (x9_3:List (S58)) (x11_3:Int),v11=.int .i64 x11_3∧Aside0 (copseref7_Set.l1 kq l0 x9_3 x11_3=some r)∧Aside0 (kq≤kj10)∧Aside0 (Kd.R k58 58 w' w.heap.size (fun _=>True) v9 x9_3)∧Aside0 (Below w.heap.size w w'))
       case atStart=>exact ⟨(y364),(x7_10),(by first|rfl|(simp;done)|(simp[*];done)),H',⟨Nat.le_refl _⟩,⟨by (with_reducible repeat (first|apply Kd.R_alloc|apply Kd.R_drewN|apply Kd.R_drew));exact HO_9.out⟩,⟨upB HB.out⟩⟩
       case round=>
        clear H'
        try clear c1
        try clear p2
        try clear p3
        try clear q3
        try clear hx3
        try clear c4
        try clear c5
        try clear c5b0
        try clear c6
        try clear c6b0
        try clear p6
        try clear c7
        try clear c7b0
        try clear c8
        try clear c10
        try clear c13
        try clear hx360_0
        try clear hx360_1
        try clear p2
        try clear p3
        try clear p360
        try clear p6
        try clear q3
        try clear q360
        obtain⟨x9_3,x11_3,rfl,HA,HK3,HO_9,HB⟩:=hrel
        cases gk with
        |zero=>exact absurd HA.out (by simp[copseref7_Set.l1])
        |succ k3=>
         have H:=HA.out
         clear HA
         simp only[copseref7_Set.l1] at H
         by_cases c14:x11_3<(l0.length:Int)
         ·
          rw[if_pos c14] at H
          have c14b0:decide (x11_3<(l0.length:Int))=true:=decide_eq_true c14
          clear c14
          by_cases c15:0≤x11_3
          ·
           rw[if_pos c15] at H
           have c15b0:decide (0≤x11_3)=true:=decide_eq_true c15
           clear c15
           by_cases c16:x9_3.length<4398046511104
           ·
            rw[if_pos c16] at H
            have LMc16:=Aside0.mk c16
            clear c16
            obtain⟨y368,hy368⟩ : ∃ y_:List (S58),y_=(x9_3++[(⟨(rd_T58 l0 x11_3).f0,(rd_T58 l0 x11_3).f1⟩:S58)]):=⟨_,rfl⟩
            replace H:(copseref7_Set.l1 k3 l0 y368 (wrap64 (x11_3+1)))=some r:=by first|(rw[hy368];with_reducible exact H)|(have H2_:=(Option.bind_some _ _).symm.trans H;rw[hy368];with_reducible exact H2_)|(have H2_:=(Option.bind_some _ _).symm.trans H;with_reducible exact H2_)|with_reducible exact H|(rw[hy368];exact H)|exact H
            have Ny368:=Aside0.mk hy368
            clear hy368
            have H':=Aside0.mk H
            clear H
            have p367:0≤(x11_3:Int):=of_decide_eq_true (by assumption)
            have q367:x11_3<(l0.length:Int):=of_decide_eq_true (by assumption)
            obtain⟨ad367,e367,hx367_0,hx367_1⟩:=at_T58 HR0.out x11_3 p367 q367
            cases e367
            replace hx367_0:=(HB.out.cell (World.block_lt_of_cell? w _ hx367_0)).trans hx367_0
            replace hx367_1:=(HB.out.cell (World.block_lt_of_cell? w _ hx367_1)).trans hx367_1
            replace p367:=eq_true p367
            replace q367:=eq_true q367
            go_wp2_with (first|((with_reducible refine gate_builtin (b:=.append) (xs:=#[.tmp 46,.tmp 51]) rfl ?_);at_builtin;refine Kd.R_append k58 (w0:=w) w.heap.size rfl (.tmp 46) (.tmp 51) 22 58 (.agg #[(.string ⟨#[]⟩),(.string ⟨#[]⟩)]) 32 rfl Tryd.underlying22 info58 rfl (by decide) (by omega) u9 x9_3 (⟨(rd_T58 l0 x11_3).f0,(rd_T58 l0 x11_3).f1⟩:S58) [.string ((rd_T58 l0 x11_3).f0),.string ((rd_T58 l0 x11_3).f1)] (fun _=>True) (fun _=>False) rfl rfl ?aP (fun _ hk=>hk.elim) ?aF ?aO ?aB ?aS ?aL ?_;(case aP=>exact k58_mkM _ _ _ (⟨(rd_T58 l0 x11_3).f0,(rd_T58 l0 x11_3).f1⟩:S58));(case aB=>exact (upB HB.out));(case aF=>exact (fun _ _=>trivial));(case aO=>exact (upK HO_9.out));(case aS=>exact (below_size (upB HB.out)));(case aL=>have:=LMc16.out;omega);intro v369 w17 ho hb hg hat;rw[←Ny368.out] at ho;have n0_:=Aside0.mk (hb);have n1_:=Aside0.mk (ho);clear HB;clear HO_9;have HB:=n0_;have HO370:=n1_;clear n0_ n1_;clear ho hb hg hat))
            go_roundg k3
            case measure=>have:=HK1.out;have:=HJ10.out;have:=HK3.out;omega
            case rel=>exact ⟨(y368),(wrap64 (x11_3+1)),(by first|rfl|(simp;done)|(simp[*];done)),H',⟨by have:=HK1.out;have:=HJ10.out;have:=HK3.out;omega⟩,⟨by (with_reducible repeat (first|apply Kd.R_alloc|apply Kd.R_drewN|apply Kd.R_drew));exact HO370.out⟩,⟨upB HB.out⟩⟩
           ·
            rw[if_neg c16] at H
            exact absurd H (by simp)
          ·
           rw[if_neg c15] at H
           exact absurd H (by simp)
         ·
          rw[if_neg c14] at H
          have c14b0:decide (x11_3<(l0.length:Int))=false:=decide_eq_false c14
          clear c14
          obtain rfl:=Option.some.inj H
          go_wp2
          go_ret
          exact ⟨_,by first|rfl|(simp[errW_none,errW_some] <;> rfl)|(simp[*,errW_none,errW_some] <;> rfl),by (with_reducible repeat (first|apply Kd.R_alloc|apply Kd.R_drewN|apply Kd.R_drew));exact HO_9.out,upB HB.out⟩
    ·
     rw[if_neg c10] at H
     exact absurd H (by simp)

end Go.Proofs.YtdailhlghlledaaDoor.XLeafNew
