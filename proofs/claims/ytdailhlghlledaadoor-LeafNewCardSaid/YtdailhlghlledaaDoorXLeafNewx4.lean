-- Printed for this claim by a program (wip/printx) that builds on the kit's print. Not trusted: Lean checks it.
-- slim
import Derived.Test.YtdailhlghlledaaDoorXLeafNewx0
import Derived.Test.YtdailhlghlledaaDoorXLeafNewx3
namespace Go.Proofs.YtdailhlghlledaaDoor.XLeafNew
open Go.RowKit Go.Proofs.YtdailhlghlledaaDoorW.PrintWords Go.Proofs.YtdailhlghlledaaDoorW.PrintLast Go.Proofs.YtdailhlghlledaaDoorW.PrintMore
attribute [local go_sem] max2_int min2_int max_two min_two max_three min_three max_four min_four   -- for this text's walks alone
set_option linter.unusedVariables false
set_option linter.unusedSimpArgs false

/-! ### leaf_Check: function 13 -/
mutual
def leaf_Check.l0:Nat→List (S58)→Bool→List (S58)→Int→Int→Option (Option Int)
 |0,_,_,_,_,_=>none
 |k+1,x0,x1,x10,x11,x12=>if x12<x11 then (if 0≤x12 then (if x12<(x10.length:Int) then (if (((rd_T58 x10 x12).f0).size:Int)<1 then (some (some 1)) else (if (((rd_T58 x10 x12).f0).size:Int) > 255 then (some (some 1)) else (if (((rd_T58 x10 x12).f1).size:Int) > 700 then (some (some 1)) else (leaf_Check.l0 k x0 x1 x10 x11 (wrap64 (x12+1)))))) else (none)) else (none)) else (leaf_Check.l1 k x0 x1 true (x0.length:Int) 0)
def leaf_Check.j2:Nat→List (S58)→Bool→Bool→Option (Option Int)
 |0,_,_,_=>none
 |k+1,x0,x1,x7=>(leaf_Size.f k x0).bind fun t153=>(if x7=true then (if t153 > 4072 then (some (some 3)) else (if (x0.length:Int)=0 then (some (some 4)) else (if x1=true then (some none) else (if t153<1556 then (some (some 4)) else (some none))))) else (some (some 12)))
def leaf_Check.l1:Nat→List (S58)→Bool→Bool→Int→Int→Option (Option Int)
 |0,_,_,_,_,_=>none
 |k+1,x0,x1,x7,x35,x36=>if x36<x35 then (if x36 > 0 then (if 0≤(wrap64 (x36 - 1)) then (if (wrap64 (x36 - 1))<(x0.length:Int) then (if 0≤x36 then (if x36<(x0.length:Int) then (if ((Op.bytesLess (((rd_T58 x0 (wrap64 (x36 - 1))).f0).toList) (((rd_T58 x0 x36).f0).toList))=true) then (leaf_Check.l1 k x0 x1 x7 x35 (wrap64 (x36+1))) else (leaf_Check.j2 k x0 x1 false)) else (none)) else (none)) else (none)) else (none)) else (leaf_Check.l1 k x0 x1 x7 x35 (wrap64 (x36+1)))) else (leaf_Check.j2 k x0 x1 x7)
end
def leaf_Check.f (k:Nat) (l0:List (S58)) (a1:Bool):Option (Option Int):=leaf_Check.l0 k l0 a1 l0 (l0.length:Int) 0
theorem leaf_Check.mono_l : ∀ k,(∀ y0 y1 y2 y3 y4,LeO (leaf_Check.l0 k y0 y1 y2 y3 y4) (leaf_Check.l0 (k+1) y0 y1 y2 y3 y4))∧(∀ y0 y1 y2,LeO (leaf_Check.j2 k y0 y1 y2) (leaf_Check.j2 (k+1) y0 y1 y2))∧(∀ y0 y1 y2 y3 y4,LeO (leaf_Check.l1 k y0 y1 y2 y3 y4) (leaf_Check.l1 (k+1) y0 y1 y2 y3 y4))
 |0=>⟨fun _ _ _ _ _ r h=>by simp[leaf_Check.l0] at h,fun _ _ _ r h=>by simp[leaf_Check.j2] at h,fun _ _ _ _ _ r h=>by simp[leaf_Check.l1] at h⟩
 |k+1=>by
  obtain⟨ih0,ih1,ih2⟩:=leaf_Check.mono_l k
  refine ⟨?_,?_,?_⟩
  ·
   intro y0 y1 y2 y3 y4
   unfold leaf_Check.l0
   repeat' first
   |(with_reducible exact ih0 _ _ _ _ _)
   |(with_reducible exact ih1 _ _ _)
   |(with_reducible exact ih2 _ _ _ _ _)
   |(with_reducible exact leaf_Size.mono _ _)
   |(with_reducible exact LeO.refl _)
   |(with_reducible exact LeO.none _)
   |(with_reducible refine LeO.ite ?_ ?_)
   |(with_reducible refine LeO.bind ?_ (fun _=>?_))
   |exact ih0 _ _ _ _ _
   |exact ih1 _ _ _
   |exact ih2 _ _ _ _ _
   |exact leaf_Size.mono _ _
   |exact LeO.none _
   |refine LeO.ite ?_ ?_
   |refine LeO.bind ?_ (fun _=>?_)
  ·
   intro y0 y1 y2
   unfold leaf_Check.j2
   repeat' first
   |(with_reducible exact ih0 _ _ _ _ _)
   |(with_reducible exact ih1 _ _ _)
   |(with_reducible exact ih2 _ _ _ _ _)
   |(with_reducible exact leaf_Size.mono _ _)
   |(with_reducible exact LeO.refl _)
   |(with_reducible exact LeO.none _)
   |(with_reducible refine LeO.ite ?_ ?_)
   |(with_reducible refine LeO.bind ?_ (fun _=>?_))
   |exact ih0 _ _ _ _ _
   |exact ih1 _ _ _
   |exact ih2 _ _ _ _ _
   |exact leaf_Size.mono _ _
   |exact LeO.none _
   |refine LeO.ite ?_ ?_
   |refine LeO.bind ?_ (fun _=>?_)
  ·
   intro y0 y1 y2 y3 y4
   unfold leaf_Check.l1
   repeat' first
   |(with_reducible exact ih0 _ _ _ _ _)
   |(with_reducible exact ih1 _ _ _)
   |(with_reducible exact ih2 _ _ _ _ _)
   |(with_reducible exact leaf_Size.mono _ _)
   |(with_reducible exact LeO.refl _)
   |(with_reducible exact LeO.none _)
   |(with_reducible refine LeO.ite ?_ ?_)
   |(with_reducible refine LeO.bind ?_ (fun _=>?_))
   |exact ih0 _ _ _ _ _
   |exact ih1 _ _ _
   |exact ih2 _ _ _ _ _
   |exact leaf_Size.mono _ _
   |exact LeO.none _
   |refine LeO.ite ?_ ?_
   |refine LeO.bind ?_ (fun _=>?_)
theorem leaf_Check.mono : ∀ a0 a1 k,LeO (leaf_Check.f k a0 a1) (leaf_Check.f (k+1) a0 a1):=by
 intro a0 a1 k
 obtain⟨ih0,ih1,ih2⟩:=leaf_Check.mono_l k
 unfold leaf_Check.f
 repeat' first
   |(with_reducible exact ih0 _ _ _ _ _)
   |(with_reducible exact ih1 _ _ _)
   |(with_reducible exact ih2 _ _ _ _ _)
   |(with_reducible exact leaf_Size.mono _ _)
   |(with_reducible exact LeO.refl _)
   |(with_reducible exact LeO.none _)
   |(with_reducible refine LeO.ite ?_ ?_)
   |(with_reducible refine LeO.bind ?_ (fun _=>?_))
   |exact ih0 _ _ _ _ _
   |exact ih1 _ _ _
   |exact ih2 _ _ _ _ _
   |exact leaf_Size.mono _ _
   |exact LeO.none _
   |refine LeO.ite ?_ ?_
   |refine LeO.bind ?_ (fun _=>?_)
set_option maxHeartbeats 8000000 in
set_option maxRecDepth 100000 in
theorem leaf_Check.calls (k:Nat) (E:Int→Addr) (A0:Option Addr) (c0:Nat) (l0:List (S58)) (a1:Bool) (r:Option Int) (w:World) (hG:Glob E w) (hr0:Kd.C k58 w A0 l0.length l0) (hc0:l0.length≤c0) (h:leaf_Check.f k l0 a1=some r) :
  Calls Tryd.prog 13 #[.slice A0 l0.length c0,.bool a1] w fun e w'=>e=.returned (errW E r)∧Below w.heap.size w w':=by
 have hu58:=Tryd.underlying58
 have HR0:=Aside0.mk hr0
 have HC0:=Aside0.mk hc0
 clear hr0 hc0
 have HB:=Aside0.mk (Below.refl w.heap.size w)
 have HG:=Aside0.mk hG
 clear hG
 have H:(leaf_Check.l0 k l0 a1 l0 (l0.length:Int) 0)=some r:=h
 clear h
 have H':=Aside0.mk H
 clear H
 go_enter Tryd.func13,Tryd.ntmps13
 try go_step3
 go_wp2
 try (go_step3;go_wp2)
 repeat (go_quiet (fail);try go_wp2)
 go_loopg [12] k (fun kq v12 w'=>∃ (x12_1:Int),v12=.int .i64 x12_1∧Aside0 (leaf_Check.l0 kq l0 a1 l0 (l0.length:Int) x12_1=some r)∧Aside0 (kq≤k)∧Aside0 (Below w.heap.size w w'))
 case atStart=>exact ⟨(0),(by first|rfl|(simp;done)|(simp[*];done)),H',⟨Nat.le_refl _⟩,⟨upB HB.out⟩⟩
 case round=>
  clear H'
  try clear c1
  try clear p2
  obtain⟨x12_1,rfl,HA,HK1,HB⟩:=hrel
  cases gk with
  |zero=>exact absurd HA.out (by simp[leaf_Check.l0])
  |succ k1=>
   have H:=HA.out
   clear HA
   simp only[leaf_Check.l0] at H
   by_cases c3:x12_1<(l0.length:Int)
   ·
    rw[if_pos c3] at H
    have c3b0:decide (x12_1<(l0.length:Int))=true:=decide_eq_true c3
    clear c3
    by_cases c4:0≤x12_1
    ·
     rw[if_pos c4] at H
     have c4b0:decide (0≤x12_1)=true:=decide_eq_true c4
     clear c4
     by_cases c5:x12_1<(l0.length:Int)
     ·
      rw[if_pos c5] at H
      have c5b0:decide (x12_1<(l0.length:Int))=true:=decide_eq_true c5
      clear c5
      by_cases c6:(((rd_T58 l0 x12_1).f0).size:Int)<1
      ·
       rw[if_pos c6] at H
       have c6b0:decide ((((rd_T58 l0 x12_1).f0).size:Int)<1)=true:=decide_eq_true c6
       have c6b1:decide (((rd_T58 l0 x12_1).f0).size<1)=true:=decide_eq_true (by omega)
       clear c6
       obtain rfl:=Option.some.inj H
       have p149:0≤(x12_1:Int):=of_decide_eq_true (by assumption)
       have q149:x12_1<(l0.length:Int):=of_decide_eq_true (by assumption)
       obtain⟨ad149,e149,hx149_0,hx149_1⟩:=at_T58 HR0.out x12_1 p149 q149
       cases e149
       replace hx149_0:=(HB.out.cell (World.block_lt_of_cell? w _ hx149_0)).trans hx149_0
       replace hx149_1:=(HB.out.cell (World.block_lt_of_cell? w _ hx149_1)).trans hx149_1
       replace p149:=eq_true p149
       replace q149:=eq_true q149
       go_wp2_with (first|((with_reducible refine gate_dst (N:=6) rfl ?_);(try (refine gate_guard (by rfl) ?_;dsimp only));refine box_event ?hg (N:=6) ?hd (cs:=#[.string (⟨#[]⟩:ByteArray),.string (⟨#[]⟩:ByteArray)]) (t:=58) ?hr ?_;(case hd=>rfl);(case hg=>rfl);(case hr=>first|(go_simp;done)|(go_simp;rfl));intro gb150 hg w7 hbox hb;have n0_:=Aside0.mk (below_step (upB HB.out) hb);have n1_:=Aside0.mk (hbox);have n2_:=Aside0.mk ((by rw[hg];exact (below_size (upB HB.out)):w.heap.size≤gb150));have n3_:=Aside0.mk ((by rw[hg];exact (below_size (upB HB.out)):w.heap.size≤gb150));clear HB;have HB:=n0_;have BK150:=n1_;have GW150:=n2_;have GE150:=n3_;clear n0_ n1_ n2_ n3_;clear hb hbox hg;have hcz8_0:w7.cell? ⟨gb150,0,none⟩=some (.string (⟨#[]⟩:ByteArray)):=(blk_cell BK150.out 0).trans rfl;have hcz8_1:w7.cell? ⟨gb150,1,none⟩=some (.string (⟨#[]⟩:ByteArray)):=(blk_cell BK150.out 1).trans rfl;have hfz8_0:=blk_frozen BK150.out 0;have hfz8_1:=blk_frozen BK150.out 1;have hx9:((w7.setCell ⟨gb150,0,none⟩ (.string ((rd_T58 l0 x12_1).f0))).setCell ⟨gb150,1,none⟩ (.string ((rd_T58 l0 x12_1).f1))).cell? ⟨0,0,none⟩=some (errW E (some 1)):=Glob.c0 (Glob.below HG.out (by repeat (first|exact upB HB.out|refine below_set ?_ GE150.out)));simp only[errW_some] at hx9))
       try (go_step3;go_wp2_with (first|((with_reducible refine gate_dst (N:=6) rfl ?_);(try (refine gate_guard (by rfl) ?_;dsimp only));refine box_event ?hg (N:=6) ?hd (cs:=#[.string (⟨#[]⟩:ByteArray),.string (⟨#[]⟩:ByteArray)]) (t:=58) ?hr ?_;(case hd=>rfl);(case hg=>rfl);(case hr=>first|(go_simp;done)|(go_simp;rfl));intro gb150 hg w7 hbox hb;have n0_:=Aside0.mk (below_step (upB HB.out) hb);have n1_:=Aside0.mk (hbox);have n2_:=Aside0.mk ((by rw[hg];exact (below_size (upB HB.out)):w.heap.size≤gb150));have n3_:=Aside0.mk ((by rw[hg];exact (below_size (upB HB.out)):w.heap.size≤gb150));clear HB;have HB:=n0_;have BK150:=n1_;have GW150:=n2_;have GE150:=n3_;clear n0_ n1_ n2_ n3_;clear hb hbox hg;have hcz8_0:w7.cell? ⟨gb150,0,none⟩=some (.string (⟨#[]⟩:ByteArray)):=(blk_cell BK150.out 0).trans rfl;have hcz8_1:w7.cell? ⟨gb150,1,none⟩=some (.string (⟨#[]⟩:ByteArray)):=(blk_cell BK150.out 1).trans rfl;have hfz8_0:=blk_frozen BK150.out 0;have hfz8_1:=blk_frozen BK150.out 1;have hx9:((w7.setCell ⟨gb150,0,none⟩ (.string ((rd_T58 l0 x12_1).f0))).setCell ⟨gb150,1,none⟩ (.string ((rd_T58 l0 x12_1).f1))).cell? ⟨0,0,none⟩=some (errW E (some 1)):=Glob.c0 (Glob.below HG.out (by repeat (first|exact upB HB.out|refine below_set ?_ GE150.out)));simp only[errW_some] at hx9)))
       repeat (go_quiet (first|((with_reducible refine gate_dst (N:=6) rfl ?_);(try (refine gate_guard (by rfl) ?_;dsimp only));refine box_event ?hg (N:=6) ?hd (cs:=#[.string (⟨#[]⟩:ByteArray),.string (⟨#[]⟩:ByteArray)]) (t:=58) ?hr ?_;(case hd=>rfl);(case hg=>rfl);(case hr=>first|(go_simp;done)|(go_simp;rfl));intro gb150 hg w7 hbox hb;have n0_:=Aside0.mk (below_step (upB HB.out) hb);have n1_:=Aside0.mk (hbox);have n2_:=Aside0.mk ((by rw[hg];exact (below_size (upB HB.out)):w.heap.size≤gb150));have n3_:=Aside0.mk ((by rw[hg];exact (below_size (upB HB.out)):w.heap.size≤gb150));clear HB;have HB:=n0_;have BK150:=n1_;have GW150:=n2_;have GE150:=n3_;clear n0_ n1_ n2_ n3_;clear hb hbox hg;have hcz8_0:w7.cell? ⟨gb150,0,none⟩=some (.string (⟨#[]⟩:ByteArray)):=(blk_cell BK150.out 0).trans rfl;have hcz8_1:w7.cell? ⟨gb150,1,none⟩=some (.string (⟨#[]⟩:ByteArray)):=(blk_cell BK150.out 1).trans rfl;have hfz8_0:=blk_frozen BK150.out 0;have hfz8_1:=blk_frozen BK150.out 1;have hx9:((w7.setCell ⟨gb150,0,none⟩ (.string ((rd_T58 l0 x12_1).f0))).setCell ⟨gb150,1,none⟩ (.string ((rd_T58 l0 x12_1).f1))).cell? ⟨0,0,none⟩=some (errW E (some 1)):=Glob.c0 (Glob.below HG.out (by repeat (first|exact upB HB.out|refine below_set ?_ GE150.out)));simp only[errW_some] at hx9));try go_wp2_with (first|((with_reducible refine gate_dst (N:=6) rfl ?_);(try (refine gate_guard (by rfl) ?_;dsimp only));refine box_event ?hg (N:=6) ?hd (cs:=#[.string (⟨#[]⟩:ByteArray),.string (⟨#[]⟩:ByteArray)]) (t:=58) ?hr ?_;(case hd=>rfl);(case hg=>rfl);(case hr=>first|(go_simp;done)|(go_simp;rfl));intro gb150 hg w7 hbox hb;have n0_:=Aside0.mk (below_step (upB HB.out) hb);have n1_:=Aside0.mk (hbox);have n2_:=Aside0.mk ((by rw[hg];exact (below_size (upB HB.out)):w.heap.size≤gb150));have n3_:=Aside0.mk ((by rw[hg];exact (below_size (upB HB.out)):w.heap.size≤gb150));clear HB;have HB:=n0_;have BK150:=n1_;have GW150:=n2_;have GE150:=n3_;clear n0_ n1_ n2_ n3_;clear hb hbox hg;have hcz8_0:w7.cell? ⟨gb150,0,none⟩=some (.string (⟨#[]⟩:ByteArray)):=(blk_cell BK150.out 0).trans rfl;have hcz8_1:w7.cell? ⟨gb150,1,none⟩=some (.string (⟨#[]⟩:ByteArray)):=(blk_cell BK150.out 1).trans rfl;have hfz8_0:=blk_frozen BK150.out 0;have hfz8_1:=blk_frozen BK150.out 1;have hx9:((w7.setCell ⟨gb150,0,none⟩ (.string ((rd_T58 l0 x12_1).f0))).setCell ⟨gb150,1,none⟩ (.string ((rd_T58 l0 x12_1).f1))).cell? ⟨0,0,none⟩=some (errW E (some 1)):=Glob.c0 (Glob.below HG.out (by repeat (first|exact upB HB.out|refine below_set ?_ GE150.out)));simp only[errW_some] at hx9)))
       try rw[Exit.noGoto_ret]
       go_ret
       exact ⟨by first|rfl|(simp[errW_none,errW_some] <;> rfl)|(simp[*,errW_none,errW_some] <;> rfl),by repeat (first|exact upB HB.out|refine below_set ?_ GE150.out|apply pw_below_drewN)⟩
      ·
       rw[if_neg c6] at H
       have c6b0:decide ((((rd_T58 l0 x12_1).f0).size:Int)<1)=false:=decide_eq_false c6
       have c6b1:decide (((rd_T58 l0 x12_1).f0).size<1)=false:=decide_eq_false (by omega)
       clear c6
       by_cases c10:(((rd_T58 l0 x12_1).f0).size:Int) > 255
       ·
        rw[if_pos c10] at H
        have c10b0:decide (255<(((rd_T58 l0 x12_1).f0).size:Int))=true:=decide_eq_true c10
        have c10b1:decide (255<((rd_T58 l0 x12_1).f0).size)=true:=decide_eq_true (by omega)
        clear c10
        obtain rfl:=Option.some.inj H
        have p149:0≤(x12_1:Int):=of_decide_eq_true (by assumption)
        have q149:x12_1<(l0.length:Int):=of_decide_eq_true (by assumption)
        obtain⟨ad149,e149,hx149_0,hx149_1⟩:=at_T58 HR0.out x12_1 p149 q149
        cases e149
        replace hx149_0:=(HB.out.cell (World.block_lt_of_cell? w _ hx149_0)).trans hx149_0
        replace hx149_1:=(HB.out.cell (World.block_lt_of_cell? w _ hx149_1)).trans hx149_1
        replace p149:=eq_true p149
        replace q149:=eq_true q149
        go_wp2_with (first|((with_reducible refine gate_dst (N:=6) rfl ?_);(try (refine gate_guard (by rfl) ?_;dsimp only));refine box_event ?hg (N:=6) ?hd (cs:=#[.string (⟨#[]⟩:ByteArray),.string (⟨#[]⟩:ByteArray)]) (t:=58) ?hr ?_;(case hd=>rfl);(case hg=>rfl);(case hr=>first|(go_simp;done)|(go_simp;rfl));intro gb150 hg w11 hbox hb;have n0_:=Aside0.mk (below_step (upB HB.out) hb);have n1_:=Aside0.mk (hbox);have n2_:=Aside0.mk ((by rw[hg];exact (below_size (upB HB.out)):w.heap.size≤gb150));have n3_:=Aside0.mk ((by rw[hg];exact (below_size (upB HB.out)):w.heap.size≤gb150));clear HB;have HB:=n0_;have BK150:=n1_;have GW150:=n2_;have GE150:=n3_;clear n0_ n1_ n2_ n3_;clear hb hbox hg;have hcz12_0:w11.cell? ⟨gb150,0,none⟩=some (.string (⟨#[]⟩:ByteArray)):=(blk_cell BK150.out 0).trans rfl;have hcz12_1:w11.cell? ⟨gb150,1,none⟩=some (.string (⟨#[]⟩:ByteArray)):=(blk_cell BK150.out 1).trans rfl;have hfz12_0:=blk_frozen BK150.out 0;have hfz12_1:=blk_frozen BK150.out 1;have hx13:((w11.setCell ⟨gb150,0,none⟩ (.string ((rd_T58 l0 x12_1).f0))).setCell ⟨gb150,1,none⟩ (.string ((rd_T58 l0 x12_1).f1))).cell? ⟨0,0,none⟩=some (errW E (some 1)):=Glob.c0 (Glob.below HG.out (by repeat (first|exact upB HB.out|refine below_set ?_ GE150.out)));simp only[errW_some] at hx13))
        try (go_step3;go_wp2_with (first|((with_reducible refine gate_dst (N:=6) rfl ?_);(try (refine gate_guard (by rfl) ?_;dsimp only));refine box_event ?hg (N:=6) ?hd (cs:=#[.string (⟨#[]⟩:ByteArray),.string (⟨#[]⟩:ByteArray)]) (t:=58) ?hr ?_;(case hd=>rfl);(case hg=>rfl);(case hr=>first|(go_simp;done)|(go_simp;rfl));intro gb150 hg w11 hbox hb;have n0_:=Aside0.mk (below_step (upB HB.out) hb);have n1_:=Aside0.mk (hbox);have n2_:=Aside0.mk ((by rw[hg];exact (below_size (upB HB.out)):w.heap.size≤gb150));have n3_:=Aside0.mk ((by rw[hg];exact (below_size (upB HB.out)):w.heap.size≤gb150));clear HB;have HB:=n0_;have BK150:=n1_;have GW150:=n2_;have GE150:=n3_;clear n0_ n1_ n2_ n3_;clear hb hbox hg;have hcz12_0:w11.cell? ⟨gb150,0,none⟩=some (.string (⟨#[]⟩:ByteArray)):=(blk_cell BK150.out 0).trans rfl;have hcz12_1:w11.cell? ⟨gb150,1,none⟩=some (.string (⟨#[]⟩:ByteArray)):=(blk_cell BK150.out 1).trans rfl;have hfz12_0:=blk_frozen BK150.out 0;have hfz12_1:=blk_frozen BK150.out 1;have hx13:((w11.setCell ⟨gb150,0,none⟩ (.string ((rd_T58 l0 x12_1).f0))).setCell ⟨gb150,1,none⟩ (.string ((rd_T58 l0 x12_1).f1))).cell? ⟨0,0,none⟩=some (errW E (some 1)):=Glob.c0 (Glob.below HG.out (by repeat (first|exact upB HB.out|refine below_set ?_ GE150.out)));simp only[errW_some] at hx13)))
        repeat (go_quiet (first|((with_reducible refine gate_dst (N:=6) rfl ?_);(try (refine gate_guard (by rfl) ?_;dsimp only));refine box_event ?hg (N:=6) ?hd (cs:=#[.string (⟨#[]⟩:ByteArray),.string (⟨#[]⟩:ByteArray)]) (t:=58) ?hr ?_;(case hd=>rfl);(case hg=>rfl);(case hr=>first|(go_simp;done)|(go_simp;rfl));intro gb150 hg w11 hbox hb;have n0_:=Aside0.mk (below_step (upB HB.out) hb);have n1_:=Aside0.mk (hbox);have n2_:=Aside0.mk ((by rw[hg];exact (below_size (upB HB.out)):w.heap.size≤gb150));have n3_:=Aside0.mk ((by rw[hg];exact (below_size (upB HB.out)):w.heap.size≤gb150));clear HB;have HB:=n0_;have BK150:=n1_;have GW150:=n2_;have GE150:=n3_;clear n0_ n1_ n2_ n3_;clear hb hbox hg;have hcz12_0:w11.cell? ⟨gb150,0,none⟩=some (.string (⟨#[]⟩:ByteArray)):=(blk_cell BK150.out 0).trans rfl;have hcz12_1:w11.cell? ⟨gb150,1,none⟩=some (.string (⟨#[]⟩:ByteArray)):=(blk_cell BK150.out 1).trans rfl;have hfz12_0:=blk_frozen BK150.out 0;have hfz12_1:=blk_frozen BK150.out 1;have hx13:((w11.setCell ⟨gb150,0,none⟩ (.string ((rd_T58 l0 x12_1).f0))).setCell ⟨gb150,1,none⟩ (.string ((rd_T58 l0 x12_1).f1))).cell? ⟨0,0,none⟩=some (errW E (some 1)):=Glob.c0 (Glob.below HG.out (by repeat (first|exact upB HB.out|refine below_set ?_ GE150.out)));simp only[errW_some] at hx13));try go_wp2_with (first|((with_reducible refine gate_dst (N:=6) rfl ?_);(try (refine gate_guard (by rfl) ?_;dsimp only));refine box_event ?hg (N:=6) ?hd (cs:=#[.string (⟨#[]⟩:ByteArray),.string (⟨#[]⟩:ByteArray)]) (t:=58) ?hr ?_;(case hd=>rfl);(case hg=>rfl);(case hr=>first|(go_simp;done)|(go_simp;rfl));intro gb150 hg w11 hbox hb;have n0_:=Aside0.mk (below_step (upB HB.out) hb);have n1_:=Aside0.mk (hbox);have n2_:=Aside0.mk ((by rw[hg];exact (below_size (upB HB.out)):w.heap.size≤gb150));have n3_:=Aside0.mk ((by rw[hg];exact (below_size (upB HB.out)):w.heap.size≤gb150));clear HB;have HB:=n0_;have BK150:=n1_;have GW150:=n2_;have GE150:=n3_;clear n0_ n1_ n2_ n3_;clear hb hbox hg;have hcz12_0:w11.cell? ⟨gb150,0,none⟩=some (.string (⟨#[]⟩:ByteArray)):=(blk_cell BK150.out 0).trans rfl;have hcz12_1:w11.cell? ⟨gb150,1,none⟩=some (.string (⟨#[]⟩:ByteArray)):=(blk_cell BK150.out 1).trans rfl;have hfz12_0:=blk_frozen BK150.out 0;have hfz12_1:=blk_frozen BK150.out 1;have hx13:((w11.setCell ⟨gb150,0,none⟩ (.string ((rd_T58 l0 x12_1).f0))).setCell ⟨gb150,1,none⟩ (.string ((rd_T58 l0 x12_1).f1))).cell? ⟨0,0,none⟩=some (errW E (some 1)):=Glob.c0 (Glob.below HG.out (by repeat (first|exact upB HB.out|refine below_set ?_ GE150.out)));simp only[errW_some] at hx13)))
        try rw[Exit.noGoto_ret]
        go_ret
        exact ⟨by first|rfl|(simp[errW_none,errW_some] <;> rfl)|(simp[*,errW_none,errW_some] <;> rfl),by repeat (first|exact upB HB.out|refine below_set ?_ GE150.out|apply pw_below_drewN)⟩
       ·
        rw[if_neg c10] at H
        have c10b0:decide (255<(((rd_T58 l0 x12_1).f0).size:Int))=false:=decide_eq_false c10
        have c10b1:decide (255<((rd_T58 l0 x12_1).f0).size)=false:=decide_eq_false (by omega)
        clear c10
        by_cases c14:(((rd_T58 l0 x12_1).f1).size:Int) > 700
        ·
         rw[if_pos c14] at H
         have c14b0:decide (700<(((rd_T58 l0 x12_1).f1).size:Int))=true:=decide_eq_true c14
         have c14b1:decide (700<((rd_T58 l0 x12_1).f1).size)=true:=decide_eq_true (by omega)
         clear c14
         obtain rfl:=Option.some.inj H
         have p149:0≤(x12_1:Int):=of_decide_eq_true (by assumption)
         have q149:x12_1<(l0.length:Int):=of_decide_eq_true (by assumption)
         obtain⟨ad149,e149,hx149_0,hx149_1⟩:=at_T58 HR0.out x12_1 p149 q149
         cases e149
         replace hx149_0:=(HB.out.cell (World.block_lt_of_cell? w _ hx149_0)).trans hx149_0
         replace hx149_1:=(HB.out.cell (World.block_lt_of_cell? w _ hx149_1)).trans hx149_1
         replace p149:=eq_true p149
         replace q149:=eq_true q149
         go_wp2_with (first|((with_reducible refine gate_dst (N:=6) rfl ?_);(try (refine gate_guard (by rfl) ?_;dsimp only));refine box_event ?hg (N:=6) ?hd (cs:=#[.string (⟨#[]⟩:ByteArray),.string (⟨#[]⟩:ByteArray)]) (t:=58) ?hr ?_;(case hd=>rfl);(case hg=>rfl);(case hr=>first|(go_simp;done)|(go_simp;rfl));intro gb150 hg w15 hbox hb;have n0_:=Aside0.mk (below_step (upB HB.out) hb);have n1_:=Aside0.mk (hbox);have n2_:=Aside0.mk ((by rw[hg];exact (below_size (upB HB.out)):w.heap.size≤gb150));have n3_:=Aside0.mk ((by rw[hg];exact (below_size (upB HB.out)):w.heap.size≤gb150));clear HB;have HB:=n0_;have BK150:=n1_;have GW150:=n2_;have GE150:=n3_;clear n0_ n1_ n2_ n3_;clear hb hbox hg;have hcz16_0:w15.cell? ⟨gb150,0,none⟩=some (.string (⟨#[]⟩:ByteArray)):=(blk_cell BK150.out 0).trans rfl;have hcz16_1:w15.cell? ⟨gb150,1,none⟩=some (.string (⟨#[]⟩:ByteArray)):=(blk_cell BK150.out 1).trans rfl;have hfz16_0:=blk_frozen BK150.out 0;have hfz16_1:=blk_frozen BK150.out 1;have hx17:((w15.setCell ⟨gb150,0,none⟩ (.string ((rd_T58 l0 x12_1).f0))).setCell ⟨gb150,1,none⟩ (.string ((rd_T58 l0 x12_1).f1))).cell? ⟨0,0,none⟩=some (errW E (some 1)):=Glob.c0 (Glob.below HG.out (by repeat (first|exact upB HB.out|refine below_set ?_ GE150.out)));simp only[errW_some] at hx17))
         try (go_step3;go_wp2_with (first|((with_reducible refine gate_dst (N:=6) rfl ?_);(try (refine gate_guard (by rfl) ?_;dsimp only));refine box_event ?hg (N:=6) ?hd (cs:=#[.string (⟨#[]⟩:ByteArray),.string (⟨#[]⟩:ByteArray)]) (t:=58) ?hr ?_;(case hd=>rfl);(case hg=>rfl);(case hr=>first|(go_simp;done)|(go_simp;rfl));intro gb150 hg w15 hbox hb;have n0_:=Aside0.mk (below_step (upB HB.out) hb);have n1_:=Aside0.mk (hbox);have n2_:=Aside0.mk ((by rw[hg];exact (below_size (upB HB.out)):w.heap.size≤gb150));have n3_:=Aside0.mk ((by rw[hg];exact (below_size (upB HB.out)):w.heap.size≤gb150));clear HB;have HB:=n0_;have BK150:=n1_;have GW150:=n2_;have GE150:=n3_;clear n0_ n1_ n2_ n3_;clear hb hbox hg;have hcz16_0:w15.cell? ⟨gb150,0,none⟩=some (.string (⟨#[]⟩:ByteArray)):=(blk_cell BK150.out 0).trans rfl;have hcz16_1:w15.cell? ⟨gb150,1,none⟩=some (.string (⟨#[]⟩:ByteArray)):=(blk_cell BK150.out 1).trans rfl;have hfz16_0:=blk_frozen BK150.out 0;have hfz16_1:=blk_frozen BK150.out 1;have hx17:((w15.setCell ⟨gb150,0,none⟩ (.string ((rd_T58 l0 x12_1).f0))).setCell ⟨gb150,1,none⟩ (.string ((rd_T58 l0 x12_1).f1))).cell? ⟨0,0,none⟩=some (errW E (some 1)):=Glob.c0 (Glob.below HG.out (by repeat (first|exact upB HB.out|refine below_set ?_ GE150.out)));simp only[errW_some] at hx17)))
         repeat (go_quiet (first|((with_reducible refine gate_dst (N:=6) rfl ?_);(try (refine gate_guard (by rfl) ?_;dsimp only));refine box_event ?hg (N:=6) ?hd (cs:=#[.string (⟨#[]⟩:ByteArray),.string (⟨#[]⟩:ByteArray)]) (t:=58) ?hr ?_;(case hd=>rfl);(case hg=>rfl);(case hr=>first|(go_simp;done)|(go_simp;rfl));intro gb150 hg w15 hbox hb;have n0_:=Aside0.mk (below_step (upB HB.out) hb);have n1_:=Aside0.mk (hbox);have n2_:=Aside0.mk ((by rw[hg];exact (below_size (upB HB.out)):w.heap.size≤gb150));have n3_:=Aside0.mk ((by rw[hg];exact (below_size (upB HB.out)):w.heap.size≤gb150));clear HB;have HB:=n0_;have BK150:=n1_;have GW150:=n2_;have GE150:=n3_;clear n0_ n1_ n2_ n3_;clear hb hbox hg;have hcz16_0:w15.cell? ⟨gb150,0,none⟩=some (.string (⟨#[]⟩:ByteArray)):=(blk_cell BK150.out 0).trans rfl;have hcz16_1:w15.cell? ⟨gb150,1,none⟩=some (.string (⟨#[]⟩:ByteArray)):=(blk_cell BK150.out 1).trans rfl;have hfz16_0:=blk_frozen BK150.out 0;have hfz16_1:=blk_frozen BK150.out 1;have hx17:((w15.setCell ⟨gb150,0,none⟩ (.string ((rd_T58 l0 x12_1).f0))).setCell ⟨gb150,1,none⟩ (.string ((rd_T58 l0 x12_1).f1))).cell? ⟨0,0,none⟩=some (errW E (some 1)):=Glob.c0 (Glob.below HG.out (by repeat (first|exact upB HB.out|refine below_set ?_ GE150.out)));simp only[errW_some] at hx17));try go_wp2_with (first|((with_reducible refine gate_dst (N:=6) rfl ?_);(try (refine gate_guard (by rfl) ?_;dsimp only));refine box_event ?hg (N:=6) ?hd (cs:=#[.string (⟨#[]⟩:ByteArray),.string (⟨#[]⟩:ByteArray)]) (t:=58) ?hr ?_;(case hd=>rfl);(case hg=>rfl);(case hr=>first|(go_simp;done)|(go_simp;rfl));intro gb150 hg w15 hbox hb;have n0_:=Aside0.mk (below_step (upB HB.out) hb);have n1_:=Aside0.mk (hbox);have n2_:=Aside0.mk ((by rw[hg];exact (below_size (upB HB.out)):w.heap.size≤gb150));have n3_:=Aside0.mk ((by rw[hg];exact (below_size (upB HB.out)):w.heap.size≤gb150));clear HB;have HB:=n0_;have BK150:=n1_;have GW150:=n2_;have GE150:=n3_;clear n0_ n1_ n2_ n3_;clear hb hbox hg;have hcz16_0:w15.cell? ⟨gb150,0,none⟩=some (.string (⟨#[]⟩:ByteArray)):=(blk_cell BK150.out 0).trans rfl;have hcz16_1:w15.cell? ⟨gb150,1,none⟩=some (.string (⟨#[]⟩:ByteArray)):=(blk_cell BK150.out 1).trans rfl;have hfz16_0:=blk_frozen BK150.out 0;have hfz16_1:=blk_frozen BK150.out 1;have hx17:((w15.setCell ⟨gb150,0,none⟩ (.string ((rd_T58 l0 x12_1).f0))).setCell ⟨gb150,1,none⟩ (.string ((rd_T58 l0 x12_1).f1))).cell? ⟨0,0,none⟩=some (errW E (some 1)):=Glob.c0 (Glob.below HG.out (by repeat (first|exact upB HB.out|refine below_set ?_ GE150.out)));simp only[errW_some] at hx17)))
         try rw[Exit.noGoto_ret]
         go_ret
         exact ⟨by first|rfl|(simp[errW_none,errW_some] <;> rfl)|(simp[*,errW_none,errW_some] <;> rfl),by repeat (first|exact upB HB.out|refine below_set ?_ GE150.out|apply pw_below_drewN)⟩
        ·
         rw[if_neg c14] at H
         have c14b0:decide (700<(((rd_T58 l0 x12_1).f1).size:Int))=false:=decide_eq_false c14
         have c14b1:decide (700<((rd_T58 l0 x12_1).f1).size)=false:=decide_eq_false (by omega)
         clear c14
         have H':=Aside0.mk H
         clear H
         have p149:0≤(x12_1:Int):=of_decide_eq_true (by assumption)
         have q149:x12_1<(l0.length:Int):=of_decide_eq_true (by assumption)
         obtain⟨ad149,e149,hx149_0,hx149_1⟩:=at_T58 HR0.out x12_1 p149 q149
         cases e149
         replace hx149_0:=(HB.out.cell (World.block_lt_of_cell? w _ hx149_0)).trans hx149_0
         replace hx149_1:=(HB.out.cell (World.block_lt_of_cell? w _ hx149_1)).trans hx149_1
         replace p149:=eq_true p149
         replace q149:=eq_true q149
         go_wp2_with (first|((with_reducible refine gate_dst (N:=6) rfl ?_);(try (refine gate_guard (by rfl) ?_;dsimp only));refine box_event ?hg (N:=6) ?hd (cs:=#[.string (⟨#[]⟩:ByteArray),.string (⟨#[]⟩:ByteArray)]) (t:=58) ?hr ?_;(case hd=>rfl);(case hg=>rfl);(case hr=>first|(go_simp;done)|(go_simp;rfl));intro gb150 hg w18 hbox hb;have n0_:=Aside0.mk (below_step (upB HB.out) hb);have n1_:=Aside0.mk (hbox);have n2_:=Aside0.mk ((by rw[hg];exact (below_size (upB HB.out)):w.heap.size≤gb150));have n3_:=Aside0.mk ((by rw[hg];exact (below_size (upB HB.out)):w.heap.size≤gb150));clear HB;have HB:=n0_;have BK150:=n1_;have GW150:=n2_;have GE150:=n3_;clear n0_ n1_ n2_ n3_;clear hb hbox hg;have hcz19_0:w18.cell? ⟨gb150,0,none⟩=some (.string (⟨#[]⟩:ByteArray)):=(blk_cell BK150.out 0).trans rfl;have hcz19_1:w18.cell? ⟨gb150,1,none⟩=some (.string (⟨#[]⟩:ByteArray)):=(blk_cell BK150.out 1).trans rfl;have hfz19_0:=blk_frozen BK150.out 0;have hfz19_1:=blk_frozen BK150.out 1))
         try (go_step3;go_wp2_with (first|((with_reducible refine gate_dst (N:=6) rfl ?_);(try (refine gate_guard (by rfl) ?_;dsimp only));refine box_event ?hg (N:=6) ?hd (cs:=#[.string (⟨#[]⟩:ByteArray),.string (⟨#[]⟩:ByteArray)]) (t:=58) ?hr ?_;(case hd=>rfl);(case hg=>rfl);(case hr=>first|(go_simp;done)|(go_simp;rfl));intro gb150 hg w18 hbox hb;have n0_:=Aside0.mk (below_step (upB HB.out) hb);have n1_:=Aside0.mk (hbox);have n2_:=Aside0.mk ((by rw[hg];exact (below_size (upB HB.out)):w.heap.size≤gb150));have n3_:=Aside0.mk ((by rw[hg];exact (below_size (upB HB.out)):w.heap.size≤gb150));clear HB;have HB:=n0_;have BK150:=n1_;have GW150:=n2_;have GE150:=n3_;clear n0_ n1_ n2_ n3_;clear hb hbox hg;have hcz19_0:w18.cell? ⟨gb150,0,none⟩=some (.string (⟨#[]⟩:ByteArray)):=(blk_cell BK150.out 0).trans rfl;have hcz19_1:w18.cell? ⟨gb150,1,none⟩=some (.string (⟨#[]⟩:ByteArray)):=(blk_cell BK150.out 1).trans rfl;have hfz19_0:=blk_frozen BK150.out 0;have hfz19_1:=blk_frozen BK150.out 1)))
         repeat (go_quiet (first|((with_reducible refine gate_dst (N:=6) rfl ?_);(try (refine gate_guard (by rfl) ?_;dsimp only));refine box_event ?hg (N:=6) ?hd (cs:=#[.string (⟨#[]⟩:ByteArray),.string (⟨#[]⟩:ByteArray)]) (t:=58) ?hr ?_;(case hd=>rfl);(case hg=>rfl);(case hr=>first|(go_simp;done)|(go_simp;rfl));intro gb150 hg w18 hbox hb;have n0_:=Aside0.mk (below_step (upB HB.out) hb);have n1_:=Aside0.mk (hbox);have n2_:=Aside0.mk ((by rw[hg];exact (below_size (upB HB.out)):w.heap.size≤gb150));have n3_:=Aside0.mk ((by rw[hg];exact (below_size (upB HB.out)):w.heap.size≤gb150));clear HB;have HB:=n0_;have BK150:=n1_;have GW150:=n2_;have GE150:=n3_;clear n0_ n1_ n2_ n3_;clear hb hbox hg;have hcz19_0:w18.cell? ⟨gb150,0,none⟩=some (.string (⟨#[]⟩:ByteArray)):=(blk_cell BK150.out 0).trans rfl;have hcz19_1:w18.cell? ⟨gb150,1,none⟩=some (.string (⟨#[]⟩:ByteArray)):=(blk_cell BK150.out 1).trans rfl;have hfz19_0:=blk_frozen BK150.out 0;have hfz19_1:=blk_frozen BK150.out 1));try go_wp2_with (first|((with_reducible refine gate_dst (N:=6) rfl ?_);(try (refine gate_guard (by rfl) ?_;dsimp only));refine box_event ?hg (N:=6) ?hd (cs:=#[.string (⟨#[]⟩:ByteArray),.string (⟨#[]⟩:ByteArray)]) (t:=58) ?hr ?_;(case hd=>rfl);(case hg=>rfl);(case hr=>first|(go_simp;done)|(go_simp;rfl));intro gb150 hg w18 hbox hb;have n0_:=Aside0.mk (below_step (upB HB.out) hb);have n1_:=Aside0.mk (hbox);have n2_:=Aside0.mk ((by rw[hg];exact (below_size (upB HB.out)):w.heap.size≤gb150));have n3_:=Aside0.mk ((by rw[hg];exact (below_size (upB HB.out)):w.heap.size≤gb150));clear HB;have HB:=n0_;have BK150:=n1_;have GW150:=n2_;have GE150:=n3_;clear n0_ n1_ n2_ n3_;clear hb hbox hg;have hcz19_0:w18.cell? ⟨gb150,0,none⟩=some (.string (⟨#[]⟩:ByteArray)):=(blk_cell BK150.out 0).trans rfl;have hcz19_1:w18.cell? ⟨gb150,1,none⟩=some (.string (⟨#[]⟩:ByteArray)):=(blk_cell BK150.out 1).trans rfl;have hfz19_0:=blk_frozen BK150.out 0;have hfz19_1:=blk_frozen BK150.out 1)))
         go_roundg k1
         case measure=>have:=HK1.out;omega
         case rel=>exact ⟨(wrap64 (x12_1+1)),(by first|rfl|(simp;done)|(simp[*];done)),H',⟨by have:=HK1.out;omega⟩,⟨by repeat (first|exact upB HB.out|refine below_set ?_ GE150.out|apply pw_below_drewN)⟩⟩
     ·
      rw[if_neg c5] at H
      exact absurd H (by simp)
    ·
     rw[if_neg c4] at H
     exact absurd H (by simp)
   ·
    rw[if_neg c3] at H
    have c3b0:decide (x12_1<(l0.length:Int))=false:=decide_eq_false c3
    clear c3
    have HC20:=Aside0.mk H
    clear H
    go_upto_block 2 with (fail)
    try (go_step3;go_upto_block 2 with (fail))
    repeat (go_quiet (fail);go_upto_block 2 with (fail))
    go_cut [7] (fun v7 wc=>∃ (kq:Nat) (x7_19:Bool),v7=.bool x7_19∧Aside0 (leaf_Check.j2 kq l0 a1 x7_19=some r)∧Aside0 (kq≤k1)∧Aside0 (Below w.heap.size w wc))
    case first=>
     have H:=HC20.out
     clear HC20
     have H':=Aside0.mk H
     clear H
     go_wp2
     try (go_step3;go_wp2)
     repeat (go_quiet (fail);try go_wp2)
     go_loopg [7,36] k1 (fun kq v7 v36 w'=>∃ (x7_2:Bool) (x36_2:Int),v7=.bool x7_2∧v36=.int .i64 x36_2∧Aside0 (leaf_Check.l1 kq l0 a1 x7_2 (l0.length:Int) x36_2=some r)∧Aside0 (kq≤k1)∧Aside0 (Below w.heap.size w w'))
     case atStart=>exact ⟨(true),(0),(by first|rfl|(simp;done)|(simp[*];done)),(by first|rfl|(simp;done)|(simp[*];done)),H',⟨Nat.le_refl _⟩,⟨upB HB.out⟩⟩
     case round=>
      clear H'
      try clear c1
      try clear p1
      try clear q1
      try clear hx1
      try clear p2
      try clear c3
      try clear c3b0
      try clear p3
      try clear c4
      try clear c4b0
      try clear c5
      try clear c5b0
      try clear c6
      try clear c6b0
      try clear c6b1
      try clear p6
      try clear hx9
      try clear c10
      try clear c10b0
      try clear c10b1
      try clear c13
      try clear hx13
      try clear c14
      try clear c14b0
      try clear c14b1
      try clear p14
      try clear q14
      try clear hx14
      try clear hx17
      try clear hcz12_0
      try clear hcz12_1
      try clear hcz16_0
      try clear hcz16_1
      try clear hcz19_0
      try clear hcz19_1
      try clear hcz8_0
      try clear hcz8_1
      try clear hfz12_0
      try clear hfz12_1
      try clear hfz16_0
      try clear hfz16_1
      try clear hfz19_0
      try clear hfz19_1
      try clear hfz8_0
      try clear hfz8_1
      try clear hx149_0
      try clear hx149_1
      try clear p149
      try clear p2
      try clear q149
      obtain⟨x7_2,x36_2,rfl,rfl,HA,HK2,HB⟩:=hrel
      cases gk with
      |zero=>exact absurd HA.out (by simp[leaf_Check.l1])
      |succ k2=>
       have H:=HA.out
       clear HA
       simp only[leaf_Check.l1] at H
       by_cases c21:x36_2<(l0.length:Int)
       ·
        rw[if_pos c21] at H
        have c21b0:decide (x36_2<(l0.length:Int))=true:=decide_eq_true c21
        clear c21
        (first|rw[c21b0]|(simp only[i64_w,i32_w];rw[c21b0])|skip)
        by_cases c22:x36_2 > 0
        ·
         rw[if_pos c22] at H
         have c22b0:decide (0<x36_2)=true:=decide_eq_true c22
         clear c22
         obtain⟨ji23,hji23⟩ : ∃ j_:Int,(wrap64 (x36_2 - 1))=j_:=⟨_,rfl⟩
         replace H:(if 0≤(ji23) then (if (ji23)<(l0.length:Int) then (if 0≤x36_2 then (if x36_2<(l0.length:Int) then (if ((Op.bytesLess (((rd_T58 l0 (ji23)).f0).toList) (((rd_T58 l0 x36_2).f0).toList))=true) then (leaf_Check.l1 k2 l0 a1 x7_2 (l0.length:Int) (wrap64 (x36_2+1))) else (leaf_Check.j2 k2 l0 a1 false)) else (none)) else (none)) else (none)) else (none))=some r:=by first|(rw[hji23] at H;exact H)|(simp only[hji23] at H ⊢;exact H)
         have hji23w:(IntKind.i64.wrap (x36_2 - 1))=ji23:=(i64_w _).trans hji23
         by_cases c24:0≤(ji23)
         ·
          rw[if_pos c24] at H
          have c24b0:decide (0≤(ji23))=true:=decide_eq_true c24
          clear c24
          by_cases c25:(ji23)<(l0.length:Int)
          ·
           rw[if_pos c25] at H
           have c25b0:decide ((ji23)<(l0.length:Int))=true:=decide_eq_true c25
           clear c25
           by_cases c26:0≤x36_2
           ·
            rw[if_pos c26] at H
            have c26b0:decide (0≤x36_2)=true:=decide_eq_true c26
            clear c26
            by_cases c27:x36_2<(l0.length:Int)
            ·
             rw[if_pos c27] at H
             have c27b0:decide (x36_2<(l0.length:Int))=true:=decide_eq_true c27
             clear c27
             by_cases c28:((Op.bytesLess (((rd_T58 l0 (ji23)).f0).toList) (((rd_T58 l0 x36_2).f0).toList))=true)
             ·
              rw[if_pos c28] at H
              have c28b0:(Op.bytesLess (((rd_T58 l0 (ji23)).f0).toList) (((rd_T58 l0 x36_2).f0).toList))=true:=c28
              clear c28
              have H':=Aside0.mk H
              clear H
              have p151:0≤((ji23):Int):=of_decide_eq_true (by assumption)
              have q151:(ji23)<(l0.length:Int):=of_decide_eq_true (by assumption)
              obtain⟨ad151,e151,hx151_0,hx151_1⟩:=at_T58 HR0.out (ji23) p151 q151
              cases e151
              replace hx151_0:=(HB.out.cell (World.block_lt_of_cell? w _ hx151_0)).trans hx151_0
              replace hx151_1:=(HB.out.cell (World.block_lt_of_cell? w _ hx151_1)).trans hx151_1
              replace p151:=eq_true p151
              replace q151:=eq_true q151
              have p152:0≤(x36_2:Int):=of_decide_eq_true (by assumption)
              have q152:x36_2<(l0.length:Int):=of_decide_eq_true (by assumption)
              obtain⟨ad152,e152,hx152_0,hx152_1⟩:=at_T58 HR0.out x36_2 p152 q152
              obtain rfl:ad151=ad152:=(by injection e152)
              replace hx152_0:=(HB.out.cell (World.block_lt_of_cell? w _ hx152_0)).trans hx152_0
              replace hx152_1:=(HB.out.cell (World.block_lt_of_cell? w _ hx152_1)).trans hx152_1
              replace p152:=eq_true p152
              replace q152:=eq_true q152
              go_wp2
              try (go_step3;go_wp2)
              repeat (go_quiet (fail);try go_wp2)
              go_roundg k2
              case measure=>have:=HK1.out;have:=HK2.out;omega
              case rel=>exact ⟨(x7_2),(wrap64 (x36_2+1)),(by first|rfl|(simp;done)|(simp[*];done)),(by first|rfl|(simp;done)|(simp[*];done)),H',⟨by have:=HK1.out;have:=HK2.out;omega⟩,⟨upB HB.out⟩⟩
             ·
              rw[if_neg c28] at H
              have c28b0:(Op.bytesLess (((rd_T58 l0 (ji23)).f0).toList) (((rd_T58 l0 x36_2).f0).toList))=false:=by simpa using c28
              clear c28
              have H':=Aside0.mk H
              clear H
              have p151:0≤((ji23):Int):=of_decide_eq_true (by assumption)
              have q151:(ji23)<(l0.length:Int):=of_decide_eq_true (by assumption)
              obtain⟨ad151,e151,hx151_0,hx151_1⟩:=at_T58 HR0.out (ji23) p151 q151
              cases e151
              replace hx151_0:=(HB.out.cell (World.block_lt_of_cell? w _ hx151_0)).trans hx151_0
              replace hx151_1:=(HB.out.cell (World.block_lt_of_cell? w _ hx151_1)).trans hx151_1
              replace p151:=eq_true p151
              replace q151:=eq_true q151
              have p152:0≤(x36_2:Int):=of_decide_eq_true (by assumption)
              have q152:x36_2<(l0.length:Int):=of_decide_eq_true (by assumption)
              obtain⟨ad152,e152,hx152_0,hx152_1⟩:=at_T58 HR0.out x36_2 p152 q152
              obtain rfl:ad151=ad152:=(by injection e152)
              replace hx152_0:=(HB.out.cell (World.block_lt_of_cell? w _ hx152_0)).trans hx152_0
              replace hx152_1:=(HB.out.cell (World.block_lt_of_cell? w _ hx152_1)).trans hx152_1
              replace p152:=eq_true p152
              replace q152:=eq_true q152
              go_wp2
              try (go_step3;go_wp2)
              repeat (go_quiet (fail);try go_wp2)
              go_meet
              case rel=>exact ⟨_,(false),(by first|rfl|(simp;done)|(simp[*];done)),H',⟨by have:=HK1.out;have:=HK2.out;first|omega|exact Nat.le_refl _⟩,⟨upB HB.out⟩⟩
            ·
             rw[if_neg c27] at H
             exact absurd H (by simp)
           ·
            rw[if_neg c26] at H
            exact absurd H (by simp)
          ·
           rw[if_neg c25] at H
           exact absurd H (by simp)
         ·
          rw[if_neg c24] at H
          exact absurd H (by simp)
        ·
         rw[if_neg c22] at H
         have c22b0:decide (0<x36_2)=false:=decide_eq_false c22
         clear c22
         have H':=Aside0.mk H
         clear H
         go_wp2
         try (go_step3;go_wp2)
         repeat (go_quiet (fail);try go_wp2)
         go_roundg k2
         case measure=>have:=HK1.out;have:=HK2.out;omega
         case rel=>exact ⟨(x7_2),(wrap64 (x36_2+1)),(by first|rfl|(simp;done)|(simp[*];done)),(by first|rfl|(simp;done)|(simp[*];done)),H',⟨by have:=HK1.out;have:=HK2.out;omega⟩,⟨upB HB.out⟩⟩
       ·
        rw[if_neg c21] at H
        have c21b0:decide (x36_2<(l0.length:Int))=false:=decide_eq_false c21
        clear c21
        (first|rw[c21b0]|(simp only[i64_w,i32_w];rw[c21b0])|skip)
        have H':=Aside0.mk H
        clear H
        go_wp2
        try (go_step3;go_wp2)
        repeat (go_quiet (fail);try go_wp2)
        go_meet
        case rel=>exact ⟨_,(x7_2),(by first|rfl|(simp;done)|(simp[*];done)),H',⟨by have:=HK1.out;have:=HK2.out;first|omega|exact Nat.le_refl _⟩,⟨upB HB.out⟩⟩
    case rest=>
     clear HC20
     try clear c1
     try clear p1
     try clear q1
     try clear hx1
     try clear c2
     try clear p2
     try clear c3
     try clear c3b0
     try clear p3
     try clear c4
     try clear c4b0
     try clear c5
     try clear c5b0
     try clear c6
     try clear c6b0
     try clear c6b1
     try clear p6
     try clear hx9
     try clear c10
     try clear c10b0
     try clear c10b1
     try clear c13
     try clear hx13
     try clear c14
     try clear c14b0
     try clear c14b1
     try clear p14
     try clear q14
     try clear hx14
     try clear p15
     try clear q15
     try clear hx15
     try clear hx17
     try clear c21
     try clear c21b0
     try clear c22
     try clear c22b0
     try clear c24
     try clear c24b0
     try clear c25
     try clear c25b0
     try clear c26
     try clear c26b0
     try clear c27
     try clear c27b0
     try clear c28
     try clear c28b0
     try clear hcz12_0
     try clear hcz12_1
     try clear hcz16_0
     try clear hcz16_1
     try clear hcz19_0
     try clear hcz19_1
     try clear hcz8_0
     try clear hcz8_1
     try clear hfz12_0
     try clear hfz12_1
     try clear hfz16_0
     try clear hfz16_1
     try clear hfz19_0
     try clear hfz19_1
     try clear hfz8_0
     try clear hfz8_1
     try clear hx149_0
     try clear hx149_1
     try clear hx151_0
     try clear hx151_1
     try clear hx152_0
     try clear hx152_1
     try clear p1
     try clear p14
     try clear p149
     try clear p151
     try clear p152
     try clear p2
     try clear p3
     try clear p6
     try clear q1
     try clear q14
     try clear q149
     try clear q151
     try clear q152
     obtain⟨kq,x7_19,rfl,HA,HJ19,HB⟩:=hcut
     cases kq with
     |zero=>exact absurd HA.out (by simp[leaf_Check.j2])
     |succ kj19=>
      have H:=HA.out
      clear HA
      simp only[leaf_Check.j2] at H
      replace H:=Option.bind_eq_some_iff.mp H
      obtain⟨t153,A290,H⟩:=H
      try dsimp only at H
      have A29:=Aside0.mk A290
      clear A290
      by_cases c30:x7_19=true
      ·
       subst c30
       have H1:(if t153 > 4072 then (some (some 3)) else (if (l0.length:Int)=0 then (some (some 4)) else (if a1=true then (some none) else (if t153<1556 then (some (some 4)) else (some none)))))=some r:=by rw[if_pos rfl] at H;exact H
       clear H
       have H:=H1
       clear H1
       by_cases c31:t153 > 4072
       ·
        rw[if_pos c31] at H
        have c31b0:decide (4072<t153)=true:=decide_eq_true c31
        clear c31
        obtain rfl:=Option.some.inj H
        go_wp2_with (first|(go_at_call 12;(with_reducible refine (leaf_Size.calls kj19 _ _ l0 t153 _ ?side1 ?side2 A29.out).mono ?_);(case side1=>exact upC (Kd.C_below HR0.out HB.out));(case side2=>exact HC0.out);rintro e w32 ⟨rfl,hb⟩;have n0_:=Aside0.mk (below_step (upB HB.out) hb);clear HB;have HB:=n0_;clear n0_;(try clear hb);(try clear hb2);(try clear hk);(try clear hi);have hx33:w32.cell? ⟨2,0,none⟩=some (errW E (some 3)):=Glob.c2 (Glob.below HG.out (upB HB.out));simp only[errW_some] at hx33))
        try (go_step3;go_wp2_with (first|(go_at_call 12;(with_reducible refine (leaf_Size.calls kj19 _ _ l0 t153 _ ?side1 ?side2 A29.out).mono ?_);(case side1=>exact upC (Kd.C_below HR0.out HB.out));(case side2=>exact HC0.out);rintro e w32 ⟨rfl,hb⟩;have n0_:=Aside0.mk (below_step (upB HB.out) hb);clear HB;have HB:=n0_;clear n0_;(try clear hb);(try clear hb2);(try clear hk);(try clear hi);have hx33:w32.cell? ⟨2,0,none⟩=some (errW E (some 3)):=Glob.c2 (Glob.below HG.out (upB HB.out));simp only[errW_some] at hx33)))
        repeat (go_quiet (first|(go_at_call 12;(with_reducible refine (leaf_Size.calls kj19 _ _ l0 t153 _ ?side1 ?side2 A29.out).mono ?_);(case side1=>exact upC (Kd.C_below HR0.out HB.out));(case side2=>exact HC0.out);rintro e w32 ⟨rfl,hb⟩;have n0_:=Aside0.mk (below_step (upB HB.out) hb);clear HB;have HB:=n0_;clear n0_;(try clear hb);(try clear hb2);(try clear hk);(try clear hi);have hx33:w32.cell? ⟨2,0,none⟩=some (errW E (some 3)):=Glob.c2 (Glob.below HG.out (upB HB.out));simp only[errW_some] at hx33));try go_wp2_with (first|(go_at_call 12;(with_reducible refine (leaf_Size.calls kj19 _ _ l0 t153 _ ?side1 ?side2 A29.out).mono ?_);(case side1=>exact upC (Kd.C_below HR0.out HB.out));(case side2=>exact HC0.out);rintro e w32 ⟨rfl,hb⟩;have n0_:=Aside0.mk (below_step (upB HB.out) hb);clear HB;have HB:=n0_;clear n0_;(try clear hb);(try clear hb2);(try clear hk);(try clear hi);have hx33:w32.cell? ⟨2,0,none⟩=some (errW E (some 3)):=Glob.c2 (Glob.below HG.out (upB HB.out));simp only[errW_some] at hx33)))
        try rw[Exit.noGoto_ret]
        go_ret
        exact ⟨by first|rfl|(simp[errW_none,errW_some] <;> rfl)|(simp[*,errW_none,errW_some] <;> rfl),upB HB.out⟩
       ·
        rw[if_neg c31] at H
        have c31b0:decide (4072<t153)=false:=decide_eq_false c31
        clear c31
        by_cases c34:(l0.length:Int)=0
        ·
         rw[if_pos c34] at H
         have c34b0:((l0.length:Int)==0)=true:=beq_iff_eq.mpr c34
         have c34b1:((l0.length:Int) != 0)=false:=bne_eq_false_iff_eq.mpr c34
         clear c34
         obtain rfl:=Option.some.inj H
         go_wp2_with (first|(go_at_call 12;(with_reducible refine (leaf_Size.calls kj19 _ _ l0 t153 _ ?side1 ?side2 A29.out).mono ?_);(case side1=>exact upC (Kd.C_below HR0.out HB.out));(case side2=>exact HC0.out);rintro e w35 ⟨rfl,hb⟩;have n0_:=Aside0.mk (below_step (upB HB.out) hb);clear HB;have HB:=n0_;clear n0_;(try clear hb);(try clear hb2);(try clear hk);(try clear hi);have hx36:w35.cell? ⟨3,0,none⟩=some (errW E (some 4)):=Glob.c3 (Glob.below HG.out (upB HB.out));simp only[errW_some] at hx36))
         try (go_step3;go_wp2_with (first|(go_at_call 12;(with_reducible refine (leaf_Size.calls kj19 _ _ l0 t153 _ ?side1 ?side2 A29.out).mono ?_);(case side1=>exact upC (Kd.C_below HR0.out HB.out));(case side2=>exact HC0.out);rintro e w35 ⟨rfl,hb⟩;have n0_:=Aside0.mk (below_step (upB HB.out) hb);clear HB;have HB:=n0_;clear n0_;(try clear hb);(try clear hb2);(try clear hk);(try clear hi);have hx36:w35.cell? ⟨3,0,none⟩=some (errW E (some 4)):=Glob.c3 (Glob.below HG.out (upB HB.out));simp only[errW_some] at hx36)))
         repeat (go_quiet (first|(go_at_call 12;(with_reducible refine (leaf_Size.calls kj19 _ _ l0 t153 _ ?side1 ?side2 A29.out).mono ?_);(case side1=>exact upC (Kd.C_below HR0.out HB.out));(case side2=>exact HC0.out);rintro e w35 ⟨rfl,hb⟩;have n0_:=Aside0.mk (below_step (upB HB.out) hb);clear HB;have HB:=n0_;clear n0_;(try clear hb);(try clear hb2);(try clear hk);(try clear hi);have hx36:w35.cell? ⟨3,0,none⟩=some (errW E (some 4)):=Glob.c3 (Glob.below HG.out (upB HB.out));simp only[errW_some] at hx36));try go_wp2_with (first|(go_at_call 12;(with_reducible refine (leaf_Size.calls kj19 _ _ l0 t153 _ ?side1 ?side2 A29.out).mono ?_);(case side1=>exact upC (Kd.C_below HR0.out HB.out));(case side2=>exact HC0.out);rintro e w35 ⟨rfl,hb⟩;have n0_:=Aside0.mk (below_step (upB HB.out) hb);clear HB;have HB:=n0_;clear n0_;(try clear hb);(try clear hb2);(try clear hk);(try clear hi);have hx36:w35.cell? ⟨3,0,none⟩=some (errW E (some 4)):=Glob.c3 (Glob.below HG.out (upB HB.out));simp only[errW_some] at hx36)))
         try rw[Exit.noGoto_ret]
         go_ret
         exact ⟨by first|rfl|(simp[errW_none,errW_some] <;> rfl)|(simp[*,errW_none,errW_some] <;> rfl),upB HB.out⟩
        ·
         rw[if_neg c34] at H
         have c34b0:((l0.length:Int)==0)=false:=beq_eq_false_iff_ne.mpr c34
         have c34b1:((l0.length:Int) != 0)=true:=bne_iff_ne.mpr c34
         have c34b2 : ¬ (l0=[]):=fun h_=>c34 (by rw[h_];rfl)
         by_cases c37:a1=true
         ·
          subst c37
          have H1:(some none)=some r:=by rw[if_pos rfl] at H;exact H
          clear H
          have H:=H1
          clear H1
          obtain rfl:=Option.some.inj H
          go_wp2_with (first|(go_at_call 12;(with_reducible refine (leaf_Size.calls kj19 _ _ l0 t153 _ ?side1 ?side2 A29.out).mono ?_);(case side1=>exact upC (Kd.C_below HR0.out HB.out));(case side2=>exact HC0.out);rintro e w38 ⟨rfl,hb⟩;have n0_:=Aside0.mk (below_step (upB HB.out) hb);clear HB;have HB:=n0_;clear n0_;(try clear hb);(try clear hb2);(try clear hk);(try clear hi)))
          try (go_step3;go_wp2_with (first|(go_at_call 12;(with_reducible refine (leaf_Size.calls kj19 _ _ l0 t153 _ ?side1 ?side2 A29.out).mono ?_);(case side1=>exact upC (Kd.C_below HR0.out HB.out));(case side2=>exact HC0.out);rintro e w38 ⟨rfl,hb⟩;have n0_:=Aside0.mk (below_step (upB HB.out) hb);clear HB;have HB:=n0_;clear n0_;(try clear hb);(try clear hb2);(try clear hk);(try clear hi))))
          repeat (go_quiet (first|(go_at_call 12;(with_reducible refine (leaf_Size.calls kj19 _ _ l0 t153 _ ?side1 ?side2 A29.out).mono ?_);(case side1=>exact upC (Kd.C_below HR0.out HB.out));(case side2=>exact HC0.out);rintro e w38 ⟨rfl,hb⟩;have n0_:=Aside0.mk (below_step (upB HB.out) hb);clear HB;have HB:=n0_;clear n0_;(try clear hb);(try clear hb2);(try clear hk);(try clear hi)));try go_wp2_with (first|(go_at_call 12;(with_reducible refine (leaf_Size.calls kj19 _ _ l0 t153 _ ?side1 ?side2 A29.out).mono ?_);(case side1=>exact upC (Kd.C_below HR0.out HB.out));(case side2=>exact HC0.out);rintro e w38 ⟨rfl,hb⟩;have n0_:=Aside0.mk (below_step (upB HB.out) hb);clear HB;have HB:=n0_;clear n0_;(try clear hb);(try clear hb2);(try clear hk);(try clear hi))))
          try rw[Exit.noGoto_ret]
          go_ret
          exact ⟨by first|rfl|(simp[errW_none,errW_some] <;> rfl)|(simp[*,errW_none,errW_some] <;> rfl),upB HB.out⟩
         ·
          replace c37:=Bool.eq_false_iff.mpr c37
          subst c37
          have H1:(if t153<1556 then (some (some 4)) else (some none))=some r:=by rw[if_neg (show ¬ (false=true) by decide)] at H;exact H
          clear H
          have H:=H1
          clear H1
          by_cases c39:t153<1556
          ·
           rw[if_pos c39] at H
           have c39b0:decide (t153<1556)=true:=decide_eq_true c39
           clear c39
           obtain rfl:=Option.some.inj H
           go_wp2_with (first|(go_at_call 12;(with_reducible refine (leaf_Size.calls kj19 _ _ l0 t153 _ ?side1 ?side2 A29.out).mono ?_);(case side1=>exact upC (Kd.C_below HR0.out HB.out));(case side2=>exact HC0.out);rintro e w40 ⟨rfl,hb⟩;have n0_:=Aside0.mk (below_step (upB HB.out) hb);clear HB;have HB:=n0_;clear n0_;(try clear hb);(try clear hb2);(try clear hk);(try clear hi);have hx41:w40.cell? ⟨3,0,none⟩=some (errW E (some 4)):=Glob.c3 (Glob.below HG.out (upB HB.out));simp only[errW_some] at hx41))
           try (go_step3;go_wp2_with (first|(go_at_call 12;(with_reducible refine (leaf_Size.calls kj19 _ _ l0 t153 _ ?side1 ?side2 A29.out).mono ?_);(case side1=>exact upC (Kd.C_below HR0.out HB.out));(case side2=>exact HC0.out);rintro e w40 ⟨rfl,hb⟩;have n0_:=Aside0.mk (below_step (upB HB.out) hb);clear HB;have HB:=n0_;clear n0_;(try clear hb);(try clear hb2);(try clear hk);(try clear hi);have hx41:w40.cell? ⟨3,0,none⟩=some (errW E (some 4)):=Glob.c3 (Glob.below HG.out (upB HB.out));simp only[errW_some] at hx41)))
           repeat (go_quiet (first|(go_at_call 12;(with_reducible refine (leaf_Size.calls kj19 _ _ l0 t153 _ ?side1 ?side2 A29.out).mono ?_);(case side1=>exact upC (Kd.C_below HR0.out HB.out));(case side2=>exact HC0.out);rintro e w40 ⟨rfl,hb⟩;have n0_:=Aside0.mk (below_step (upB HB.out) hb);clear HB;have HB:=n0_;clear n0_;(try clear hb);(try clear hb2);(try clear hk);(try clear hi);have hx41:w40.cell? ⟨3,0,none⟩=some (errW E (some 4)):=Glob.c3 (Glob.below HG.out (upB HB.out));simp only[errW_some] at hx41));try go_wp2_with (first|(go_at_call 12;(with_reducible refine (leaf_Size.calls kj19 _ _ l0 t153 _ ?side1 ?side2 A29.out).mono ?_);(case side1=>exact upC (Kd.C_below HR0.out HB.out));(case side2=>exact HC0.out);rintro e w40 ⟨rfl,hb⟩;have n0_:=Aside0.mk (below_step (upB HB.out) hb);clear HB;have HB:=n0_;clear n0_;(try clear hb);(try clear hb2);(try clear hk);(try clear hi);have hx41:w40.cell? ⟨3,0,none⟩=some (errW E (some 4)):=Glob.c3 (Glob.below HG.out (upB HB.out));simp only[errW_some] at hx41)))
           try rw[Exit.noGoto_ret]
           go_ret
           exact ⟨by first|rfl|(simp[errW_none,errW_some] <;> rfl)|(simp[*,errW_none,errW_some] <;> rfl),upB HB.out⟩
          ·
           rw[if_neg c39] at H
           have c39b0:decide (t153<1556)=false:=decide_eq_false c39
           clear c39
           obtain rfl:=Option.some.inj H
           go_wp2_with (first|(go_at_call 12;(with_reducible refine (leaf_Size.calls kj19 _ _ l0 t153 _ ?side1 ?side2 A29.out).mono ?_);(case side1=>exact upC (Kd.C_below HR0.out HB.out));(case side2=>exact HC0.out);rintro e w42 ⟨rfl,hb⟩;have n0_:=Aside0.mk (below_step (upB HB.out) hb);clear HB;have HB:=n0_;clear n0_;(try clear hb);(try clear hb2);(try clear hk);(try clear hi)))
           try (go_step3;go_wp2_with (first|(go_at_call 12;(with_reducible refine (leaf_Size.calls kj19 _ _ l0 t153 _ ?side1 ?side2 A29.out).mono ?_);(case side1=>exact upC (Kd.C_below HR0.out HB.out));(case side2=>exact HC0.out);rintro e w42 ⟨rfl,hb⟩;have n0_:=Aside0.mk (below_step (upB HB.out) hb);clear HB;have HB:=n0_;clear n0_;(try clear hb);(try clear hb2);(try clear hk);(try clear hi))))
           repeat (go_quiet (first|(go_at_call 12;(with_reducible refine (leaf_Size.calls kj19 _ _ l0 t153 _ ?side1 ?side2 A29.out).mono ?_);(case side1=>exact upC (Kd.C_below HR0.out HB.out));(case side2=>exact HC0.out);rintro e w42 ⟨rfl,hb⟩;have n0_:=Aside0.mk (below_step (upB HB.out) hb);clear HB;have HB:=n0_;clear n0_;(try clear hb);(try clear hb2);(try clear hk);(try clear hi)));try go_wp2_with (first|(go_at_call 12;(with_reducible refine (leaf_Size.calls kj19 _ _ l0 t153 _ ?side1 ?side2 A29.out).mono ?_);(case side1=>exact upC (Kd.C_below HR0.out HB.out));(case side2=>exact HC0.out);rintro e w42 ⟨rfl,hb⟩;have n0_:=Aside0.mk (below_step (upB HB.out) hb);clear HB;have HB:=n0_;clear n0_;(try clear hb);(try clear hb2);(try clear hk);(try clear hi))))
           try rw[Exit.noGoto_ret]
           go_ret
           exact ⟨by first|rfl|(simp[errW_none,errW_some] <;> rfl)|(simp[*,errW_none,errW_some] <;> rfl),upB HB.out⟩
      ·
       replace c30:=Bool.eq_false_iff.mpr c30
       subst c30
       have H1:(some (some 12))=some r:=by rw[if_neg (show ¬ (false=true) by decide)] at H;exact H
       clear H
       have H:=H1
       clear H1
       obtain rfl:=Option.some.inj H
       go_wp2_with (first|(go_at_call 12;(with_reducible refine (leaf_Size.calls kj19 _ _ l0 t153 _ ?side1 ?side2 A29.out).mono ?_);(case side1=>exact upC (Kd.C_below HR0.out HB.out));(case side2=>exact HC0.out);rintro e w43 ⟨rfl,hb⟩;have n0_:=Aside0.mk (below_step (upB HB.out) hb);clear HB;have HB:=n0_;clear n0_;(try clear hb);(try clear hb2);(try clear hk);(try clear hi);have hx44:w43.cell? ⟨1,0,none⟩=some (errW E (some 12)):=Glob.c1 (Glob.below HG.out (upB HB.out));simp only[errW_some] at hx44))
       try (go_step3;go_wp2_with (first|(go_at_call 12;(with_reducible refine (leaf_Size.calls kj19 _ _ l0 t153 _ ?side1 ?side2 A29.out).mono ?_);(case side1=>exact upC (Kd.C_below HR0.out HB.out));(case side2=>exact HC0.out);rintro e w43 ⟨rfl,hb⟩;have n0_:=Aside0.mk (below_step (upB HB.out) hb);clear HB;have HB:=n0_;clear n0_;(try clear hb);(try clear hb2);(try clear hk);(try clear hi);have hx44:w43.cell? ⟨1,0,none⟩=some (errW E (some 12)):=Glob.c1 (Glob.below HG.out (upB HB.out));simp only[errW_some] at hx44)))
       repeat (go_quiet (first|(go_at_call 12;(with_reducible refine (leaf_Size.calls kj19 _ _ l0 t153 _ ?side1 ?side2 A29.out).mono ?_);(case side1=>exact upC (Kd.C_below HR0.out HB.out));(case side2=>exact HC0.out);rintro e w43 ⟨rfl,hb⟩;have n0_:=Aside0.mk (below_step (upB HB.out) hb);clear HB;have HB:=n0_;clear n0_;(try clear hb);(try clear hb2);(try clear hk);(try clear hi);have hx44:w43.cell? ⟨1,0,none⟩=some (errW E (some 12)):=Glob.c1 (Glob.below HG.out (upB HB.out));simp only[errW_some] at hx44));try go_wp2_with (first|(go_at_call 12;(with_reducible refine (leaf_Size.calls kj19 _ _ l0 t153 _ ?side1 ?side2 A29.out).mono ?_);(case side1=>exact upC (Kd.C_below HR0.out HB.out));(case side2=>exact HC0.out);rintro e w43 ⟨rfl,hb⟩;have n0_:=Aside0.mk (below_step (upB HB.out) hb);clear HB;have HB:=n0_;clear n0_;(try clear hb);(try clear hb2);(try clear hk);(try clear hi);have hx44:w43.cell? ⟨1,0,none⟩=some (errW E (some 12)):=Glob.c1 (Glob.below HG.out (upB HB.out));simp only[errW_some] at hx44)))
       try rw[Exit.noGoto_ret]
       go_ret
       exact ⟨by first|rfl|(simp[errW_none,errW_some] <;> rfl)|(simp[*,errW_none,errW_some] <;> rfl),upB HB.out⟩

end Go.Proofs.YtdailhlghlledaaDoor.XLeafNew
