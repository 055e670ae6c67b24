-- Printed for this claim by a program (wip/printx) that builds on the kit's print. Not trusted: Lean checks it.
-- slim
import Derived.Test.YtdailhlghlledaaDoorXLeafNewx0
import Derived.Test.YtdailhlghlledaaDoorXLeafNewx7
namespace Go.Proofs.YtdailhlghlledaaDoor.XLeafNew
open Go.RowKit Go.Proofs.YtdailhlghlledaaDoorW.PrintWords Go.Proofs.YtdailhlghlledaaDoorW.PrintLast Go.Proofs.YtdailhlghlledaaDoorW.PrintMore
attribute [local go_sem] max2_int min2_int max_two min_two max_three min_three max_four min_four   -- for this text's walks alone
set_option linter.unusedVariables false
set_option linter.unusedSimpArgs false

/-! ### copselaw7_rising: function 26 -/
mutual
def copselaw7_rising.l0:Nat→List (S58)→Int→List (S58)→Int→Int→Option ((List (S58)))
 |0,_,_,_,_,_=>none
 |k+1,x0,x1,x5,x6,x7=>if x7<(x0.length:Int) then (if 0≤x7 then ((copsekit_Head.f ((rd_T58 x0 x7).f0) 255).bind fun t209=>((copsekit_Head.f ((rd_T58 x0 x7).f1) 700).bind fun t211=>(if t209.toList=([]:List UInt8) then (copselaw7_rising.j1 k x0 x1 x5 x6 x7 (wrap64 ((wrap64 (5+(t209.size:Int)))+(t211.size:Int))) false t209 t211) else (if (x5.length:Int)=0 then (copselaw7_rising.j1 k x0 x1 x5 x6 x7 (wrap64 ((wrap64 (5+(t209.size:Int)))+(t211.size:Int))) (decide ((wrap64 (x6+(wrap64 ((wrap64 (5+(t209.size:Int)))+(t211.size:Int)))))≤x1)) t209 t211) else (if 0≤(wrap64 ((x5.length:Int) - 1)) then (if (wrap64 ((x5.length:Int) - 1))<(x5.length:Int) then (if (Op.bytesLess (((rd_T58 x5 (wrap64 ((x5.length:Int) - 1))).f0).toList) t209.toList)=true then (copselaw7_rising.j1 k x0 x1 x5 x6 x7 (wrap64 ((wrap64 (5+(t209.size:Int)))+(t211.size:Int))) (decide ((wrap64 (x6+(wrap64 ((wrap64 (5+(t209.size:Int)))+(t211.size:Int)))))≤x1)) t209 t211) else (copselaw7_rising.j1 k x0 x1 x5 x6 x7 (wrap64 ((wrap64 (5+(t209.size:Int)))+(t211.size:Int))) false t209 t211)) else (none)) else (none)))))) else (none)) else (some x5)
def copselaw7_rising.j1:Nat→List (S58)→Int→List (S58)→Int→Int→Int→Bool→ByteArray→ByteArray→Option ((List (S58)))
 |0,_,_,_,_,_,_,_,_,_=>none
 |k+1,x0,x1,x5,x6,x7,x9,x63,x213000,x213001=>if x63=true then (if x5.length<4398046511104 then (copselaw7_rising.l0 k x0 x1 (x5++[(⟨x213000,x213001⟩:S58)]) (wrap64 (x6+x9)) (wrap64 (x7+1))) else (none)) else (copselaw7_rising.l0 k x0 x1 x5 x6 (wrap64 (x7+1)))
end
def copselaw7_rising.f (k:Nat) (l0:List (S58)) (a1:Int):Option ((List (S58))):=copselaw7_rising.l0 k l0 a1 ([]:List (S58)) 0 0
theorem copselaw7_rising.mono_l : ∀ k,(∀ y0 y1 y2 y3 y4,LeO (copselaw7_rising.l0 k y0 y1 y2 y3 y4) (copselaw7_rising.l0 (k+1) y0 y1 y2 y3 y4))∧(∀ y0 y1 y2 y3 y4 y5 y6 y7 y8,LeO (copselaw7_rising.j1 k y0 y1 y2 y3 y4 y5 y6 y7 y8) (copselaw7_rising.j1 (k+1) y0 y1 y2 y3 y4 y5 y6 y7 y8))
 |0=>⟨fun _ _ _ _ _ r h=>by simp[copselaw7_rising.l0] at h,fun _ _ _ _ _ _ _ _ _ r h=>by simp[copselaw7_rising.j1] at h⟩
 |k+1=>by
  obtain⟨ih0,ih1⟩:=copselaw7_rising.mono_l k
  refine ⟨?_,?_⟩
  ·
   intro y0 y1 y2 y3 y4
   unfold copselaw7_rising.l0
   repeat' first
   |(with_reducible exact ih0 _ _ _ _ _)
   |(with_reducible exact ih1 _ _ _ _ _ _ _ _ _)
   |(with_reducible exact LeO.refl _)
   |(with_reducible exact LeO.none _)
   |(with_reducible refine LeO.ite ?_ ?_)
   |(with_reducible refine LeO.bind ?_ (fun _=>?_))
   |exact ih0 _ _ _ _ _
   |exact ih1 _ _ _ _ _ _ _ _ _
   |exact LeO.none _
   |refine LeO.ite ?_ ?_
   |refine LeO.bind ?_ (fun _=>?_)
  ·
   intro y0 y1 y2 y3 y4 y5 y6 y7 y8
   unfold copselaw7_rising.j1
   repeat' first
   |(with_reducible exact ih0 _ _ _ _ _)
   |(with_reducible exact ih1 _ _ _ _ _ _ _ _ _)
   |(with_reducible exact LeO.refl _)
   |(with_reducible exact LeO.none _)
   |(with_reducible refine LeO.ite ?_ ?_)
   |(with_reducible refine LeO.bind ?_ (fun _=>?_))
   |exact ih0 _ _ _ _ _
   |exact ih1 _ _ _ _ _ _ _ _ _
   |exact LeO.none _
   |refine LeO.ite ?_ ?_
   |refine LeO.bind ?_ (fun _=>?_)
theorem copselaw7_rising.mono : ∀ a0 a1 k,LeO (copselaw7_rising.f k a0 a1) (copselaw7_rising.f (k+1) a0 a1):=by
 intro a0 a1 k
 obtain⟨ih0,ih1⟩:=copselaw7_rising.mono_l k
 unfold copselaw7_rising.f
 repeat' first
   |(with_reducible exact ih0 _ _ _ _ _)
   |(with_reducible exact ih1 _ _ _ _ _ _ _ _ _)
   |(with_reducible exact LeO.refl _)
   |(with_reducible exact LeO.none _)
   |(with_reducible refine LeO.ite ?_ ?_)
   |(with_reducible refine LeO.bind ?_ (fun _=>?_))
   |exact ih0 _ _ _ _ _
   |exact ih1 _ _ _ _ _ _ _ _ _
   |exact LeO.none _
   |refine LeO.ite ?_ ?_
   |refine LeO.bind ?_ (fun _=>?_)
def copselaw7_rising.T6:Bool×List (List Nat×List Nat):=(true,[([],[]),([],[]),([0,1],[0,1]),([2],[2]),([3],[3]),([4],[4]),([],[]),([],[]),([6,7],[6,7]),([8],[8]),([9],[9]),([10,5],[10]),([5,11],[5,11]),([],[]),([13,12,11,0,1,2,3,4,5,6,7,8,9,10,11,12,13],[12,13])])
def copselaw7_rising.B6:List Nat:=[0,0,3,7,15,31,0,0,192,448,960,2047,4095,0,16383]
theorem copselaw7_rising.tab6:rtab .any (opsOf Tryd.f26 6)=copselaw7_rising.T6:=by kernel_rfl
theorem copselaw7_rising.bits6:waitsOk copselaw7_rising.T6.2 copselaw7_rising.B6=true:=by kernel_rfl
def copselaw7_rising.T8:Bool×List (List Nat×List Nat):=(true,[([],[]),([0],[0]),([1],[1]),([2],[2]),([3],[3]),([4,3],[3,4]),([5,3],[3,5]),([6,3,3],[3,6]),([7],[7]),([7],[7]),([9,7],[7,9]),([10,7],[7,10]),([8,11,7],[7,8,11]),([12,7],[7,12]),([13,7],[7,13]),([7],[7]),([15,7],[7,15]),([14,16,7],[7,14,16]),([7,17,3],[3,7,17]),([3,18],[3,18]),([19,7],[19]),([20],[20]),([20],[20]),([21,22,20],[20,21,22]),([20],[20]),([23,24,20],[20,23,24]),([20,25],[20,25])])
def copselaw7_rising.B8:List Nat:=[0,1,3,7,15,31,63,127,255,255,767,1791,4095,8191,16383,255,33023,131071,262143,524287,1048575,2097151,2097151,8388607,2097151,33554431,67108863]
theorem copselaw7_rising.tab8:rtab .any (opsOf Tryd.f26 8)=copselaw7_rising.T8:=by kernel_rfl
theorem copselaw7_rising.bits8:waitsOk copselaw7_rising.T8.2 copselaw7_rising.B8=true:=by kernel_rfl
set_option maxHeartbeats 8000000 in
set_option maxRecDepth 100000 in
theorem copselaw7_rising.calls (k:Nat) (A0:Option Addr) (c0:Nat) (l0:List (S58)) (a1:Int) (r:List (S58)) (w:World) (hr0:Kd.C k58 w A0 l0.length l0) (hc0:l0.length≤c0) (h:copselaw7_rising.f k l0 a1=some r) :
  Calls Tryd.prog 26 #[.slice A0 l0.length c0,.int .i64 a1] w fun e w'=>∃ v0_:Value,e=.returned (v0_)∧Kd.R k58 58 w' w.heap.size (fun _=>True) v0_ r∧Below w.heap.size w w':=by
 have hu58:=Tryd.underlying58
 have HR0:=Aside0.mk hr0
 have HC0:=Aside0.mk hc0
 clear hr0 hc0
 have HB:=Aside0.mk (Below.refl w.heap.size w)
 have H:(copselaw7_rising.l0 k l0 a1 ([]:List (S58)) 0 0)=some r:=h
 clear h
 have H':=Aside0.mk H
 clear H
 go_enter Tryd.func26,Tryd.ntmps26
 go_wp2
 go_loopg [5,6,7] k (fun kq v5 v6 v7 w'=>∃ (x5_1:List (S58)) (x6_1:Int) (x7_1:Int),v6=.int .i64 x6_1∧v7=.int .i64 x7_1∧Aside0 (copselaw7_rising.l0 kq l0 a1 x5_1 x6_1 x7_1=some r)∧Aside0 (kq≤k)∧Aside0 (Kd.R k58 58 w' w.heap.size (fun _=>True) v5 x5_1)∧Aside0 (Below w.heap.size w w'))
 case atStart=>exact ⟨(([]:List (S58))),(0),(0),(by first|rfl|(simp;done)|(simp[*];done)),(by first|rfl|(simp;done)|(simp[*];done)),H',⟨Nat.le_refl _⟩,⟨by first|exact Kd.R_nil _ _ _ _ _|exact Kd.N_nil _ _ _ _ _|exact Kd.V_nil _ _ _ _ _|exact Kd.Q_nil _ _ _ _ _|exact Kd.S_nil _ _ _ _ _⟩,⟨upB HB.out⟩⟩
 case round=>
  clear H'
  try clear c2
  try clear p2
  obtain⟨x5_1,x6_1,x7_1,rfl,rfl,HA,HK1,HO_5,HB⟩:=hrel
  cases gk with
  |zero=>exact absurd HA.out (by simp[copselaw7_rising.l0])
  |succ k1=>
   have H:=HA.out
   clear HA
   simp only[copselaw7_rising.l0] at H
   by_cases c3:x7_1<(l0.length:Int)
   ·
    rw[if_pos c3] at H
    have c3b0:decide (x7_1<(l0.length:Int))=true:=decide_eq_true c3
    clear c3
    by_cases c4:0≤x7_1
    ·
     rw[if_pos c4] at H
     have c4b0:decide (0≤x7_1)=true:=decide_eq_true c4
     clear c4
     replace H:=Option.bind_eq_some_iff.mp H
     obtain⟨t209,A50,H⟩:=H
     try dsimp only at H
     have A5:=Aside0.mk A50
     clear A50
     replace H:=Option.bind_eq_some_iff.mp H
     obtain⟨t211,A60,H⟩:=H
     try dsimp only at H
     have A6:=Aside0.mk A60
     clear A60
     have HC7:=Aside0.mk H
     clear H
     try go_wp2
     have n0_:=Aside0.mk (Kd.R_drew HO_5.out)
     have n1_:=Aside0.mk (below_drew1 HB.out)
     clear HO_5
     clear HB
     have HO_5:=n0_
     have HB:=n1_
     clear n0_ n1_
     have p208:0≤(x7_1:Int):=of_decide_eq_true (by assumption)
     have q208:x7_1<(l0.length:Int):=of_decide_eq_true (by assumption)
     obtain⟨ad208,e208,hx208_0,hx208_1⟩:=at_T58 HR0.out x7_1 p208 q208
     have hw208_1:=hx208_1
     have hw208_0:=hx208_0
     cases e208
     replace hx208_0:=(HB.out.cell (World.block_lt_of_cell? w _ hx208_0)).trans hx208_0
     replace hx208_1:=(HB.out.cell (World.block_lt_of_cell? w _ hx208_1)).trans hx208_1
     replace p208:=eq_true p208
     replace q208:=eq_true q208
     have p210:0≤(x7_1:Int):=of_decide_eq_true (by assumption)
     have q210:x7_1<(l0.length:Int):=of_decide_eq_true (by assumption)
     obtain⟨ad210,e210,hx210_0,hx210_1⟩:=at_T58 HR0.out x7_1 p210 q210
     have hw210_1:=hx210_1
     have hw210_0:=hx210_0
     obtain rfl:ad208=ad210:=(by injection e210)
     replace hx210_0:=(HB.out.cell (World.block_lt_of_cell? w _ hx210_0)).trans hx210_0
     replace hx210_1:=(HB.out.cell (World.block_lt_of_cell? w _ hx210_1)).trans hx210_1
     replace p210:=eq_true p210
     replace q210:=eq_true q210
     refine start_ (n:=15) (S:=fun w'=>w'.cell? (ad208.add ((x7_1).toNat*2))=some (.string ((rd_T58 l0 x7_1).f0))∧w'.cell? ⟨(ad208.add ((x7_1).toNat*2)).block,(ad208.add ((x7_1).toNat*2)).off+1,none⟩=some (.string ((rd_T58 l0 x7_1).f1))∧w'.cell? (ad208.add ((x7_1).toNat*2))=some (.string ((rd_T58 l0 x7_1).f0))∧w'.cell? ⟨(ad208.add ((x7_1).toNat*2)).block,(ad208.add ((x7_1).toNat*2)).off+1,none⟩=some (.string ((rd_T58 l0 x7_1).f1))) (ds:=[]) #[false,false,false,false,false,false,false,false,false,false,false,false,false,false,false] (by kernel_rfl) rfl rfl ⟨((HB.out.cell (World.block_lt_of_cell? w _ hw208_0)).trans hw208_0),((HB.out.cell (World.block_lt_of_cell? w _ hw208_1)).trans hw208_1),((HB.out.cell (World.block_lt_of_cell? w _ hw210_0)).trans hw210_0),((HB.out.cell (World.block_lt_of_cell? w _ hw210_1)).trans hw210_1)⟩ (fun hHeld=>?_);refine with_tabW copselaw7_rising.tab6 copselaw7_rising.bits6 (fun HT_ HW_=>?_)
     generalize wr.drew=w8 at HO_5 HB hx208_0 hx208_1 hx210_0 hx210_1 hHeld ⊢
     refine pure_ (i:=0) (N:=some 16) (v:=?_) (a':=?_) #[true,false,false,false,false,false,false,false,false,false,false,false,false,false,false] rfl rfl (any_of HT_.out (by kernel_rfl)) (fun _ _ _ h=>h) (Or.inl ⟨by rfl,?_⟩) ?_ ?_
     rotate_left
     ·
      intro w'
      go_simp
      with_reducible rfl
     rotate_left
     ·
      simp only[pt_]
      rfl
     refine pure_ (i:=1) (N:=some 17) (v:=?_) (a':=?_) #[true,true,false,false,false,false,false,false,false,false,false,false,false,false,false] rfl rfl (any_of HT_.out (by kernel_rfl)) (fun _ _ _ h=>h) (Or.inl ⟨by rfl,?_⟩) ?_ ?_
     rotate_left
     ·
      intro w'
      go_simp
      with_reducible rfl
     rotate_left
     ·
      simp only[pt_]
      rfl
     refine pure_ (i:=2) (N:=some 18) (v:=?_) (a':=?_) #[true,true,true,false,false,false,false,false,false,false,false,false,false,false,false] rfl rfl (any_of HT_.out (by kernel_rfl)) (fun _ _ _ h=>h) (Or.inl ⟨by rfl,?_⟩) ?_ ?_
     rotate_left
     ·
      intro w'
      go_simp
      with_reducible rfl
     rotate_left
     ·
      simp only[pt_]
      rfl
     refine pure_ (i:=3) (N:=some 19) (v:=?_) (a':=?_) #[true,true,true,true,false,false,false,false,false,false,false,false,false,false,false] rfl rfl (any_of HT_.out (by kernel_rfl)) (fun _ _ _ h=>h) (Or.inl ⟨by rfl,?_⟩) ?_ ?_
     rotate_left
     ·
      intro w'
      go_simp
      with_reducible rfl
     rotate_left
     ·
      simp only[pt_]
      rfl
     refine pure_ (i:=6) (N:=some 22) (v:=?_) (a':=?_) #[true,true,true,true,false,false,true,false,false,false,false,false,false,false,false] rfl rfl (any_of HT_.out (by kernel_rfl)) (fun _ _ _ h=>h) (Or.inl ⟨by rfl,?_⟩) ?_ ?_
     rotate_left
     ·
      intro w'
      go_simp
      with_reducible rfl
     rotate_left
     ·
      simp only[pt_]
      rfl
     refine pure_ (i:=7) (N:=some 23) (v:=?_) (a':=?_) #[true,true,true,true,false,false,true,true,false,false,false,false,false,false,false] rfl rfl (any_of HT_.out (by kernel_rfl)) (fun _ _ _ h=>h) (Or.inl ⟨by rfl,?_⟩) ?_ ?_
     rotate_left
     ·
      intro w'
      go_simp
      with_reducible rfl
     rotate_left
     ·
      simp only[pt_]
      rfl
     refine pure_ (i:=8) (N:=some 24) (v:=?_) (a':=?_) #[true,true,true,true,false,false,true,true,true,false,false,false,false,false,false] rfl rfl (any_of HT_.out (by kernel_rfl)) (fun _ _ _ h=>h) (Or.inl ⟨by rfl,?_⟩) ?_ ?_
     rotate_left
     ·
      intro w'
      go_simp
      with_reducible rfl
     rotate_left
     ·
      simp only[pt_]
      rfl
     refine pure_ (i:=9) (N:=some 25) (v:=?_) (a':=?_) #[true,true,true,true,false,false,true,true,true,true,false,false,false,false,false] rfl rfl (any_of HT_.out (by kernel_rfl)) (fun _ _ _ h=>h) (Or.inl ⟨by rfl,?_⟩) ?_ ?_
     rotate_left
     ·
      intro w'
      go_simp
      with_reducible rfl
     rotate_left
     ·
      simp only[pt_]
      rfl
     refine take_ (i:=4) (N:=some 20) (v:=?_) (a':=?_) #[true,true,true,true,true,false,true,true,true,true,false,false,false,false,false] rfl rfl (take_ofW HT_.out HW_.out (by kernel_rfl)) (fun _ _ _ h=>h) (Or.inl ⟨by rfl,?_⟩) hHeld ?_ ?_
     rotate_left
     ·
      rintro w' ⟨s0,s1,s2,s3⟩
      go_simp
      with_reducible rfl
     rotate_left
     ·
      simp only[pt_]
      rfl
     refine take_ (i:=10) (N:=some 26) (v:=?_) (a':=?_) #[true,true,true,true,true,false,true,true,true,true,true,false,false,false,false] rfl rfl (take_ofW HT_.out HW_.out (by kernel_rfl)) (fun _ _ _ h=>h) (Or.inl ⟨by rfl,?_⟩) hHeld ?_ ?_
     rotate_left
     ·
      rintro w' ⟨s0,s1,s2,s3⟩
      go_simp
      with_reducible rfl
     rotate_left
     ·
      simp only[pt_]
      rfl
     refine join_ (σ:=Nat) 1 #[true,true,true,true,true,true,true,true,true,true,true,true,true,true,false] (fun s_=>[(21,.string t209),(27,.string t211),(8,.pointer (some ⟨s_,0,none⟩)),(28,.agg #[.string t209,.string t211])]) (fun s_ w'=>(w'.cell? (ad208.add ((x7_1).toNat*2))=some (.string ((rd_T58 l0 x7_1).f0))∧w'.cell? ⟨(ad208.add ((x7_1).toNat*2)).block,(ad208.add ((x7_1).toNat*2)).off+1,none⟩=some (.string ((rd_T58 l0 x7_1).f1))∧w'.cell? (ad208.add ((x7_1).toNat*2))=some (.string ((rd_T58 l0 x7_1).f0))∧w'.cell? ⟨(ad208.add ((x7_1).toNat*2)).block,(ad208.add ((x7_1).toNat*2)).off+1,none⟩=some (.string ((rd_T58 l0 x7_1).f1)))∧(Kd.R k58 58 w' w.heap.size (fun k_=>k_≠s_) u5 x5_1)∧(w'.heap[s_]?=some (.cells #[.string (⟨#[]⟩:ByteArray),.string (⟨#[]⟩:ByteArray)] 58 (0,0)))∧(w.heap.size≤s_)∧(w.heap.size≤s_)∧(Below w.heap.size w w')) ?_ ?_
     rotate_left
     ·
      intro hCont
      refine two_ (i:=5) (j:=13) (Ni:=some 21) (Nj:=some 8) #[true,true,true,true,true,true,true,true,true,true,true,false,false,false,false] #[true,true,true,true,true,false,true,true,true,true,true,false,false,true,false] rfl rfl rfl rfl (two_of HT_.out (by kernel_rfl)) (by decide) (by decide) (fun K hK=>?_) (fun K hK=>?_)
      ·
       skip
       refine goes_ Tryd.func46 (by kernel_rfl) rfl #[.string ((rd_T58 l0 x7_1).f0),.int .i64 255] (by rfl) rfl rfl (by (try simp only[ml_]);first|done|rfl|(simp only[List.length_drop,List.length_take];rfl)) ?_
       with_reducible refine (copsekit_Head.calls ((rd_T58 l0 x7_1).f0) 255 t209 _ A5.out).mono ?_
       rintro e w' ⟨rfl,⟨nd,rfl⟩⟩
       refine ⟨_,rfl,?_⟩
       refine hK.out _ _ ⟨((HB.out.cell (World.block_lt_of_cell? w _ hw208_0)).trans hw208_0),((HB.out.cell (World.block_lt_of_cell? w _ hw208_1)).trans hw208_1),((HB.out.cell (World.block_lt_of_cell? w _ hw210_0)).trans hw210_0),((HB.out.cell (World.block_lt_of_cell? w _ hw210_1)).trans hw210_1)⟩ (fun hHeld=>?_)
       clear hK K
       refine norm_ (a':=?_) ?_ ?_
       rotate_left
       ·
        show Act.put _ (some 21) _=_
        simp only[pt_]
        rfl
       refine two_ (i:=11) (j:=13) (Ni:=some 27) (Nj:=some 8) #[true,true,true,true,true,true,true,true,true,true,true,true,false,false,false] #[true,true,true,true,true,true,true,true,true,true,true,false,false,true,false] rfl rfl rfl rfl (two_of HT_.out (by kernel_rfl)) (by decide) (by decide) (fun K hK=>?_) (fun K hK=>?_)
       ·
        skip
        refine goes_ Tryd.func46 (by kernel_rfl) rfl #[.string ((rd_T58 l0 x7_1).f1),.int .i64 700] (by rfl) rfl rfl (by (try simp only[ml_]);first|done|rfl|(simp only[List.length_drop,List.length_take];rfl)) ?_
        with_reducible refine (copsekit_Head.calls ((rd_T58 l0 x7_1).f1) 700 t211 _ A6.out).mono ?_
        rintro e w' ⟨rfl,⟨nd,rfl⟩⟩
        refine ⟨_,rfl,?_⟩
        refine hK.out _ _ ⟨((HB.out.cell (World.block_lt_of_cell? w _ hw208_0)).trans hw208_0),((HB.out.cell (World.block_lt_of_cell? w _ hw208_1)).trans hw208_1),((HB.out.cell (World.block_lt_of_cell? w _ hw210_0)).trans hw210_0),((HB.out.cell (World.block_lt_of_cell? w _ hw210_1)).trans hw210_1)⟩ (fun hHeld=>?_)
        clear hK K
        refine norm_ (a':=?_) ?_ ?_
        rotate_left
        ·
         show Act.put _ (some 27) _=_
         simp only[pt_]
         rfl
        refine pure_ (i:=12) (N:=some 28) (v:=?_) (a':=?_) #[true,true,true,true,true,true,true,true,true,true,true,true,true,false,false] rfl rfl (any_of HT_.out (by kernel_rfl)) (fun _ _ _ h=>h) (Or.inl ⟨by rfl,?_⟩) ?_ ?_
        rotate_left
        ·
         intro w'
         go_simp
         with_reducible rfl
        rotate_left
        ·
         simp only[pt_]
         rfl
        refine one_ (i:=13) (N:=some 8) #[true,true,true,true,true,true,true,true,true,true,true,true,true,true,false] rfl rfl (one_of HT_.out (by kernel_rfl)) (by decide) (fun K hK=>?_)
        refine box_step ?hg (N:=8) ?hd (cs:=#[.string (⟨#[]⟩:ByteArray),.string (⟨#[]⟩:ByteArray)]) (t:=58) ?hr ?_;(case hd=>rfl);(case hg=>rfl);(case hr=>first|(go_simp;done)|(go_simp;rfl))
        intro gb212 hg w9 hbox hb
        have n0_:=Aside0.mk (Kd.R_below (Kd.R_elderB (upK HO_5.out) gb212 (Nat.le_of_eq hg.symm)) hb)
        have n1_:=Aside0.mk (below_step (upB HB.out) hb)
        have n2_:=Aside0.mk (hbox)
        have n3_:=Aside0.mk ((by rw[hg];exact (below_size (upB HB.out)):w.heap.size≤gb212))
        have n4_:=Aside0.mk ((by rw[hg];exact (below_size (upB HB.out)):w.heap.size≤gb212))
        clear HO_5
        clear HB
        have HO_5:=n0_
        have HB:=n1_
        have BK212:=n2_
        have GW212:=n3_
        have GE212:=n4_
        clear n0_ n1_ n2_ n3_ n4_
        clear hb hbox hg
        refine hK.out _ _ ⟨((HB.out.cell (World.block_lt_of_cell? w _ hw208_0)).trans hw208_0),((HB.out.cell (World.block_lt_of_cell? w _ hw208_1)).trans hw208_1),((HB.out.cell (World.block_lt_of_cell? w _ hw210_0)).trans hw210_0),((HB.out.cell (World.block_lt_of_cell? w _ hw210_1)).trans hw210_1)⟩ (fun hHeld=>?_)
        clear hK K
        refine norm_ (a':=?_) ?_ ?_
        rotate_left
        ·
         show Act.put _ (some 8) _=_
         simp only[pt_]
         rfl
        exact norm_ (by simp only[putAll,Act.put,List.setIfInBounds_toArray,List.set_cons_zero,List.set_cons_succ]) (hCont (gb212) _ ⟨hHeld,(by exact Kd.R_mono (upK HO_5.out) (fun _ hk=>hk.2)),(upX BK212.out),GW212.out,GE212.out,(by repeat (first|exact upB HB.out|refine below_set ?_ GE212.out))⟩)
       ·
        skip
        refine box_step ?hg (N:=8) ?hd (cs:=#[.string (⟨#[]⟩:ByteArray),.string (⟨#[]⟩:ByteArray)]) (t:=58) ?hr ?_;(case hd=>rfl);(case hg=>rfl);(case hr=>first|(go_simp;done)|(go_simp;rfl))
        intro gb212 hg w9 hbox hb
        have n0_:=Aside0.mk (Kd.R_below (Kd.R_elderB (upK HO_5.out) gb212 (Nat.le_of_eq hg.symm)) hb)
        have n1_:=Aside0.mk (below_step (upB HB.out) hb)
        have n2_:=Aside0.mk (hbox)
        have n3_:=Aside0.mk ((by rw[hg];exact (below_size (upB HB.out)):w.heap.size≤gb212))
        have n4_:=Aside0.mk ((by rw[hg];exact (below_size (upB HB.out)):w.heap.size≤gb212))
        clear HO_5
        clear HB
        have HO_5:=n0_
        have HB:=n1_
        have BK212:=n2_
        have GW212:=n3_
        have GE212:=n4_
        clear n0_ n1_ n2_ n3_ n4_
        clear hb hbox hg
        refine hK.out _ _ ⟨((HB.out.cell (World.block_lt_of_cell? w _ hw208_0)).trans hw208_0),((HB.out.cell (World.block_lt_of_cell? w _ hw208_1)).trans hw208_1),((HB.out.cell (World.block_lt_of_cell? w _ hw210_0)).trans hw210_0),((HB.out.cell (World.block_lt_of_cell? w _ hw210_1)).trans hw210_1)⟩ (fun hHeld=>?_)
        clear hK K
        refine norm_ (a':=?_) ?_ ?_
        rotate_left
        ·
         show Act.put _ (some 8) _=_
         simp only[pt_]
         rfl
        refine one_ (i:=11) (N:=some 27) #[true,true,true,true,true,true,true,true,true,true,true,true,false,true,false] rfl rfl (one_of HT_.out (by kernel_rfl)) (by decide) (fun K hK=>?_)
        refine goes_ Tryd.func46 (by kernel_rfl) rfl #[.string ((rd_T58 l0 x7_1).f1),.int .i64 700] (by rfl) rfl rfl (by (try simp only[ml_]);first|done|rfl|(simp only[List.length_drop,List.length_take];rfl)) ?_
        with_reducible refine (copsekit_Head.calls ((rd_T58 l0 x7_1).f1) 700 t211 _ A6.out).mono ?_
        rintro e w' ⟨rfl,⟨nd,rfl⟩⟩
        refine ⟨_,rfl,?_⟩
        refine hK.out _ _ ⟨((HB.out.cell (World.block_lt_of_cell? w _ hw208_0)).trans hw208_0),((HB.out.cell (World.block_lt_of_cell? w _ hw208_1)).trans hw208_1),((HB.out.cell (World.block_lt_of_cell? w _ hw210_0)).trans hw210_0),((HB.out.cell (World.block_lt_of_cell? w _ hw210_1)).trans hw210_1)⟩ (fun hHeld=>?_)
        clear hK K
        refine norm_ (a':=?_) ?_ ?_
        rotate_left
        ·
         show Act.put _ (some 27) _=_
         simp only[pt_]
         rfl
        refine pure_ (i:=12) (N:=some 28) (v:=?_) (a':=?_) #[true,true,true,true,true,true,true,true,true,true,true,true,true,true,false] rfl rfl (any_of HT_.out (by kernel_rfl)) (fun _ _ _ h=>h) (Or.inl ⟨by rfl,?_⟩) ?_ ?_
        rotate_left
        ·
         intro w'
         go_simp
         with_reducible rfl
        rotate_left
        ·
         simp only[pt_]
         rfl
        exact norm_ (by simp only[putAll,Act.put,List.setIfInBounds_toArray,List.set_cons_zero,List.set_cons_succ]) (hCont (gb212) _ ⟨hHeld,(by exact Kd.R_mono (upK HO_5.out) (fun _ hk=>hk.2)),(upX BK212.out),GW212.out,GE212.out,(by repeat (first|exact upB HB.out|refine below_set ?_ GE212.out))⟩)
      ·
       skip
       refine box_step ?hg (N:=8) ?hd (cs:=#[.string (⟨#[]⟩:ByteArray),.string (⟨#[]⟩:ByteArray)]) (t:=58) ?hr ?_;(case hd=>rfl);(case hg=>rfl);(case hr=>first|(go_simp;done)|(go_simp;rfl))
       intro gb212 hg w9 hbox hb
       have n0_:=Aside0.mk (Kd.R_below (Kd.R_elderB (upK HO_5.out) gb212 (Nat.le_of_eq hg.symm)) hb)
       have n1_:=Aside0.mk (below_step (upB HB.out) hb)
       have n2_:=Aside0.mk (hbox)
       have n3_:=Aside0.mk ((by rw[hg];exact (below_size (upB HB.out)):w.heap.size≤gb212))
       have n4_:=Aside0.mk ((by rw[hg];exact (below_size (upB HB.out)):w.heap.size≤gb212))
       clear HO_5
       clear HB
       have HO_5:=n0_
       have HB:=n1_
       have BK212:=n2_
       have GW212:=n3_
       have GE212:=n4_
       clear n0_ n1_ n2_ n3_ n4_
       clear hb hbox hg
       refine hK.out _ _ ⟨((HB.out.cell (World.block_lt_of_cell? w _ hw208_0)).trans hw208_0),((HB.out.cell (World.block_lt_of_cell? w _ hw208_1)).trans hw208_1),((HB.out.cell (World.block_lt_of_cell? w _ hw210_0)).trans hw210_0),((HB.out.cell (World.block_lt_of_cell? w _ hw210_1)).trans hw210_1)⟩ (fun hHeld=>?_)
       clear hK K
       refine norm_ (a':=?_) ?_ ?_
       rotate_left
       ·
        show Act.put _ (some 8) _=_
        simp only[pt_]
        rfl
       refine one_ (i:=5) (N:=some 21) #[true,true,true,true,true,true,true,true,true,true,true,false,false,true,false] rfl rfl (one_of HT_.out (by kernel_rfl)) (by decide) (fun K hK=>?_)
       refine goes_ Tryd.func46 (by kernel_rfl) rfl #[.string ((rd_T58 l0 x7_1).f0),.int .i64 255] (by rfl) rfl rfl (by (try simp only[ml_]);first|done|rfl|(simp only[List.length_drop,List.length_take];rfl)) ?_
       with_reducible refine (copsekit_Head.calls ((rd_T58 l0 x7_1).f0) 255 t209 _ A5.out).mono ?_
       rintro e w' ⟨rfl,⟨nd,rfl⟩⟩
       refine ⟨_,rfl,?_⟩
       refine hK.out _ _ ⟨((HB.out.cell (World.block_lt_of_cell? w _ hw208_0)).trans hw208_0),((HB.out.cell (World.block_lt_of_cell? w _ hw208_1)).trans hw208_1),((HB.out.cell (World.block_lt_of_cell? w _ hw210_0)).trans hw210_0),((HB.out.cell (World.block_lt_of_cell? w _ hw210_1)).trans hw210_1)⟩ (fun hHeld=>?_)
       clear hK K
       refine norm_ (a':=?_) ?_ ?_
       rotate_left
       ·
        show Act.put _ (some 21) _=_
        simp only[pt_]
        rfl
       refine one_ (i:=11) (N:=some 27) #[true,true,true,true,true,true,true,true,true,true,true,true,false,true,false] rfl rfl (one_of HT_.out (by kernel_rfl)) (by decide) (fun K hK=>?_)
       refine goes_ Tryd.func46 (by kernel_rfl) rfl #[.string ((rd_T58 l0 x7_1).f1),.int .i64 700] (by rfl) rfl rfl (by (try simp only[ml_]);first|done|rfl|(simp only[List.length_drop,List.length_take];rfl)) ?_
       with_reducible refine (copsekit_Head.calls ((rd_T58 l0 x7_1).f1) 700 t211 _ A6.out).mono ?_
       rintro e w' ⟨rfl,⟨nd,rfl⟩⟩
       refine ⟨_,rfl,?_⟩
       refine hK.out _ _ ⟨((HB.out.cell (World.block_lt_of_cell? w _ hw208_0)).trans hw208_0),((HB.out.cell (World.block_lt_of_cell? w _ hw208_1)).trans hw208_1),((HB.out.cell (World.block_lt_of_cell? w _ hw210_0)).trans hw210_0),((HB.out.cell (World.block_lt_of_cell? w _ hw210_1)).trans hw210_1)⟩ (fun hHeld=>?_)
       clear hK K
       refine norm_ (a':=?_) ?_ ?_
       rotate_left
       ·
        show Act.put _ (some 27) _=_
        simp only[pt_]
        rfl
       refine pure_ (i:=12) (N:=some 28) (v:=?_) (a':=?_) #[true,true,true,true,true,true,true,true,true,true,true,true,true,true,false] rfl rfl (any_of HT_.out (by kernel_rfl)) (fun _ _ _ h=>h) (Or.inl ⟨by rfl,?_⟩) ?_ ?_
       rotate_left
       ·
        intro w'
        go_simp
        with_reducible rfl
       rotate_left
       ·
        simp only[pt_]
        rfl
       exact norm_ (by simp only[putAll,Act.put,List.setIfInBounds_toArray,List.set_cons_zero,List.set_cons_succ]) (hCont (gb212) _ ⟨hHeld,(by exact Kd.R_mono (upK HO_5.out) (fun _ hk=>hk.2)),(upX BK212.out),GW212.out,GE212.out,(by repeat (first|exact upB HB.out|refine below_set ?_ GE212.out))⟩)
     rintro gb212 w10 ⟨hS_,h0_,h1_,h2_,h3_,h4_⟩
     have n0_:Aside0 (Kd.R k58 58 w10 w.heap.size (fun k_=>k_≠gb212) u5 x5_1):=⟨h0_⟩
     have n1_:Aside0 (w10.heap[gb212]?=some (.cells #[.string (⟨#[]⟩:ByteArray),.string (⟨#[]⟩:ByteArray)] 58 (0,0))):=⟨h1_⟩
     have n2_:Aside0 (w.heap.size≤gb212):=⟨h2_⟩
     have n3_:Aside0 (w.heap.size≤gb212):=⟨h3_⟩
     have n4_:Aside0 (Below w.heap.size w w10):=⟨h4_⟩
     clear HO_5
     clear HB
     clear h0_ h1_ h2_ h3_ h4_
     have HO_5:=n0_
     have BK212:=n1_
     have GW212:=n2_
     have GE212:=n3_
     have HB:=n4_
     clear n0_ n1_ n2_ n3_ n4_
     have hHeld:w10.cell? (ad208.add ((x7_1).toNat*2))=some (.string ((rd_T58 l0 x7_1).f0))∧w10.cell? ⟨(ad208.add ((x7_1).toNat*2)).block,(ad208.add ((x7_1).toNat*2)).off+1,none⟩=some (.string ((rd_T58 l0 x7_1).f1))∧w10.cell? (ad208.add ((x7_1).toNat*2))=some (.string ((rd_T58 l0 x7_1).f0))∧w10.cell? ⟨(ad208.add ((x7_1).toNat*2)).block,(ad208.add ((x7_1).toNat*2)).off+1,none⟩=some (.string ((rd_T58 l0 x7_1).f1)):=hS_
     refine norm_ (a':=?_) ?_ ?_
     rotate_left
     ·
      simp only[putAll,Act.put,List.setIfInBounds_toArray,List.set_cons_zero,List.set_cons_succ]
      rfl
     refine one_ (i:=14) (N:=none) #[true,true,true,true,true,true,true,true,true,true,true,true,true,true,true] rfl rfl (one_of HT_.out (by kernel_rfl)) (by decide) (fun K hK=>?_)
     have hs11:w10.cell? ⟨gb212,0,none⟩=some (.string (⟨#[]⟩:ByteArray)):=(blk_cell BK212.out 0).trans rfl
     have hfs11:=blk_frozen BK212.out 0
     have hs12:w10.cell? ⟨gb212,1,none⟩=some (.string (⟨#[]⟩:ByteArray)):=(blk_cell BK212.out 1).trans rfl
     have hfs12:=blk_frozen BK212.out 1
     refine skip_ (w1:=?_) (by rfl) rfl ?_ ?_
     rotate_left
     ·
      go_simp
      rfl
     refine hK.out _ _ ⟨((cell_far (p:=⟨gb212,_,none⟩) (by first|exact Nat.ne_of_lt (Nat.lt_of_lt_of_le (by have:=World.block_lt_of_cell? _ _ hw208_0;first|rwa [add_block] at this|exact this) GW212.out)|(rw[add_block];exact Nat.ne_of_lt (Nat.lt_of_lt_of_le (by have:=World.block_lt_of_cell? _ _ hw208_0;first|rwa [add_block] at this|exact this) GW212.out))|(show (Addr.add _ _).block≠_;rw[add_block];exact Nat.ne_of_lt (Nat.lt_of_lt_of_le (by have:=World.block_lt_of_cell? _ _ hw208_0;first|rwa [add_block] at this|exact this) GW212.out))|(dsimp only;exact Nat.ne_of_lt (Nat.lt_of_lt_of_le (by have:=World.block_lt_of_cell? _ _ hw208_0;first|rwa [add_block] at this|exact this) GW212.out))) _).trans (((cell_far (p:=⟨gb212,_,none⟩) (by first|exact Nat.ne_of_lt (Nat.lt_of_lt_of_le (by have:=World.block_lt_of_cell? _ _ hw208_0;first|rwa [add_block] at this|exact this) GW212.out)|(rw[add_block];exact Nat.ne_of_lt (Nat.lt_of_lt_of_le (by have:=World.block_lt_of_cell? _ _ hw208_0;first|rwa [add_block] at this|exact this) GW212.out))|(show (Addr.add _ _).block≠_;rw[add_block];exact Nat.ne_of_lt (Nat.lt_of_lt_of_le (by have:=World.block_lt_of_cell? _ _ hw208_0;first|rwa [add_block] at this|exact this) GW212.out))|(dsimp only;exact Nat.ne_of_lt (Nat.lt_of_lt_of_le (by have:=World.block_lt_of_cell? _ _ hw208_0;first|rwa [add_block] at this|exact this) GW212.out))) _).trans (hHeld.1)))),((cell_far (p:=⟨gb212,_,none⟩) (by first|exact Nat.ne_of_lt (Nat.lt_of_lt_of_le (by have:=World.block_lt_of_cell? _ _ hw208_1;first|rwa [add_block] at this|exact this) GW212.out)|(rw[add_block];exact Nat.ne_of_lt (Nat.lt_of_lt_of_le (by have:=World.block_lt_of_cell? _ _ hw208_1;first|rwa [add_block] at this|exact this) GW212.out))|(show (Addr.add _ _).block≠_;rw[add_block];exact Nat.ne_of_lt (Nat.lt_of_lt_of_le (by have:=World.block_lt_of_cell? _ _ hw208_1;first|rwa [add_block] at this|exact this) GW212.out))|(dsimp only;exact Nat.ne_of_lt (Nat.lt_of_lt_of_le (by have:=World.block_lt_of_cell? _ _ hw208_1;first|rwa [add_block] at this|exact this) GW212.out))) _).trans (((cell_far (p:=⟨gb212,_,none⟩) (by first|exact Nat.ne_of_lt (Nat.lt_of_lt_of_le (by have:=World.block_lt_of_cell? _ _ hw208_1;first|rwa [add_block] at this|exact this) GW212.out)|(rw[add_block];exact Nat.ne_of_lt (Nat.lt_of_lt_of_le (by have:=World.block_lt_of_cell? _ _ hw208_1;first|rwa [add_block] at this|exact this) GW212.out))|(show (Addr.add _ _).block≠_;rw[add_block];exact Nat.ne_of_lt (Nat.lt_of_lt_of_le (by have:=World.block_lt_of_cell? _ _ hw208_1;first|rwa [add_block] at this|exact this) GW212.out))|(dsimp only;exact Nat.ne_of_lt (Nat.lt_of_lt_of_le (by have:=World.block_lt_of_cell? _ _ hw208_1;first|rwa [add_block] at this|exact this) GW212.out))) _).trans (hHeld.2.1)))),((cell_far (p:=⟨gb212,_,none⟩) (by first|exact Nat.ne_of_lt (Nat.lt_of_lt_of_le (by have:=World.block_lt_of_cell? _ _ hw210_0;first|rwa [add_block] at this|exact this) GW212.out)|(rw[add_block];exact Nat.ne_of_lt (Nat.lt_of_lt_of_le (by have:=World.block_lt_of_cell? _ _ hw210_0;first|rwa [add_block] at this|exact this) GW212.out))|(show (Addr.add _ _).block≠_;rw[add_block];exact Nat.ne_of_lt (Nat.lt_of_lt_of_le (by have:=World.block_lt_of_cell? _ _ hw210_0;first|rwa [add_block] at this|exact this) GW212.out))|(dsimp only;exact Nat.ne_of_lt (Nat.lt_of_lt_of_le (by have:=World.block_lt_of_cell? _ _ hw210_0;first|rwa [add_block] at this|exact this) GW212.out))) _).trans (((cell_far (p:=⟨gb212,_,none⟩) (by first|exact Nat.ne_of_lt (Nat.lt_of_lt_of_le (by have:=World.block_lt_of_cell? _ _ hw210_0;first|rwa [add_block] at this|exact this) GW212.out)|(rw[add_block];exact Nat.ne_of_lt (Nat.lt_of_lt_of_le (by have:=World.block_lt_of_cell? _ _ hw210_0;first|rwa [add_block] at this|exact this) GW212.out))|(show (Addr.add _ _).block≠_;rw[add_block];exact Nat.ne_of_lt (Nat.lt_of_lt_of_le (by have:=World.block_lt_of_cell? _ _ hw210_0;first|rwa [add_block] at this|exact this) GW212.out))|(dsimp only;exact Nat.ne_of_lt (Nat.lt_of_lt_of_le (by have:=World.block_lt_of_cell? _ _ hw210_0;first|rwa [add_block] at this|exact this) GW212.out))) _).trans (hHeld.2.2.1)))),((cell_far (p:=⟨gb212,_,none⟩) (by first|exact Nat.ne_of_lt (Nat.lt_of_lt_of_le (by have:=World.block_lt_of_cell? _ _ hw210_1;first|rwa [add_block] at this|exact this) GW212.out)|(rw[add_block];exact Nat.ne_of_lt (Nat.lt_of_lt_of_le (by have:=World.block_lt_of_cell? _ _ hw210_1;first|rwa [add_block] at this|exact this) GW212.out))|(show (Addr.add _ _).block≠_;rw[add_block];exact Nat.ne_of_lt (Nat.lt_of_lt_of_le (by have:=World.block_lt_of_cell? _ _ hw210_1;first|rwa [add_block] at this|exact this) GW212.out))|(dsimp only;exact Nat.ne_of_lt (Nat.lt_of_lt_of_le (by have:=World.block_lt_of_cell? _ _ hw210_1;first|rwa [add_block] at this|exact this) GW212.out))) _).trans (((cell_far (p:=⟨gb212,_,none⟩) (by first|exact Nat.ne_of_lt (Nat.lt_of_lt_of_le (by have:=World.block_lt_of_cell? _ _ hw210_1;first|rwa [add_block] at this|exact this) GW212.out)|(rw[add_block];exact Nat.ne_of_lt (Nat.lt_of_lt_of_le (by have:=World.block_lt_of_cell? _ _ hw210_1;first|rwa [add_block] at this|exact this) GW212.out))|(show (Addr.add _ _).block≠_;rw[add_block];exact Nat.ne_of_lt (Nat.lt_of_lt_of_le (by have:=World.block_lt_of_cell? _ _ hw210_1;first|rwa [add_block] at this|exact this) GW212.out))|(dsimp only;exact Nat.ne_of_lt (Nat.lt_of_lt_of_le (by have:=World.block_lt_of_cell? _ _ hw210_1;first|rwa [add_block] at this|exact this) GW212.out))) _).trans (hHeld.2.2.2))))⟩ (fun hHeld=>?_)
     clear hK K
     refine done_ (done_of HT_.out (by kernel_rfl)) ?_
     have hcz13_0:w10.cell? ⟨gb212,0,none⟩=some (.string (⟨#[]⟩:ByteArray)):=(blk_cell BK212.out 0).trans rfl
     have hcz13_1:w10.cell? ⟨gb212,1,none⟩=some (.string (⟨#[]⟩:ByteArray)):=(blk_cell BK212.out 1).trans rfl
     have hfz13_0:=blk_frozen BK212.out 0
     have hfz13_1:=blk_frozen BK212.out 1
     go_upto_region 8 with (fail)
     go_cut [63] (fun v63 wc=>∃ (kq:Nat) (x63_6:Bool),v63=.bool x63_6∧Aside0 (copselaw7_rising.j1 kq l0 a1 x5_1 x6_1 x7_1 (wrap64 ((wrap64 (5+(t209.size:Int)))+(t211.size:Int))) x63_6 t209 t211=some r)∧Aside0 (kq≤k1)∧Aside0 (Kd.R k58 58 wc w.heap.size (fun k_=>k_≠gb212) u5 x5_1)∧Aside0 (wc.heap[gb212]?=some (.cells #[.string t209,.string t211] 58 (0,0)))∧Aside0 (Below w.heap.size w wc))
     case first=>
      have H:=HC7.out
      clear HC7
      by_cases c14:t209.toList=([]:List UInt8)
      ·
       rw[if_pos c14] at H
       have c14b0:(t209.toList==([]:List UInt8))=true:=beq_iff_eq.mpr c14
       have c14b1:(t209.toList != ([]:List UInt8))=false:=bne_eq_false_iff_eq.mpr c14
       clear c14
       (first|rw[c14b0]|(simp only[i64_w,i32_w];rw[c14b0])|skip)
       have H':=Aside0.mk H
       clear H
       try go_wp2
       have n0_:Aside0 (Kd.R k58 58 ((w10.setCell ⟨gb212,0,none⟩ (.string t209)).setCell ⟨gb212,1,none⟩ (.string t211)) w.heap.size (fun k_=>k_≠gb212) u5 x5_1):=⟨by (with_reducible repeat (first|apply Kd.R_alloc|apply Kd.R_drewN|apply Kd.R_drew));exact Kd.R_mono (Kd.R_far (p:=⟨gb212,1,none⟩) (Kd.R_far (p:=⟨gb212,0,none⟩) (Kd.R_mono HO_5.out (fun k_ hk=>(⟨hk,hk⟩:_∧k_≠gb212))) (fun _ hk=>hk.2) (.string t209)) (fun _ hk=>hk.2) (.string t211)) (fun _ hk=>hk.1)⟩
       have n1_:Aside0 (((w10.setCell ⟨gb212,0,none⟩ (.string t209)).setCell ⟨gb212,1,none⟩ (.string t211)).heap[gb212]?=some (.cells #[.string t209,.string t211] 58 (0,0))):=⟨by (with_reducible repeat (first|refine blk_drewN ?_ _|refine blk_drew ?_|refine blk_alloc ?_ _));refine blk_put (cs:=#[.string t209,.string (⟨#[]⟩:ByteArray)]) ?_ 1 _ rfl;(with_reducible repeat (first|refine blk_drewN ?_ _|refine blk_drew ?_|refine blk_alloc ?_ _));refine blk_put (cs:=#[.string (⟨#[]⟩:ByteArray),.string (⟨#[]⟩:ByteArray)]) ?_ 0 _ rfl;(with_reducible repeat (first|refine blk_drewN ?_ _|refine blk_drew ?_|refine blk_alloc ?_ _));exact BK212.out⟩
       have n2_:Aside0 (Below w.heap.size w ((w10.setCell ⟨gb212,0,none⟩ (.string t209)).setCell ⟨gb212,1,none⟩ (.string t211))):=⟨by repeat (first|exact upB HB.out|refine below_set ?_ GE212.out|apply pw_below_drewN)⟩
       (try clear HO_5)
       (try clear BK212)
       (try clear HB)
       generalize ((w10.setCell ⟨gb212,0,none⟩ (.string t209)).setCell ⟨gb212,1,none⟩ (.string t211))=w15 at n0_ n1_ n2_ ⊢
       have HO_5:=n0_
       have BK212:=n1_
       have HB:=n2_
       clear n0_ n1_ n2_
       have n0_:=Aside0.mk (Kd.R_drew HO_5.out)
       have n1_:=Aside0.mk (blk_drew BK212.out)
       have n2_:=Aside0.mk (below_drew1 HB.out)
       clear HO_5
       clear BK212
       clear HB
       have HO_5:=n0_
       have BK212:=n1_
       have HB:=n2_
       clear n0_ n1_ n2_
       refine start_ (n:=27) (S:=fun w'=>w'.cell? ⟨gb212,0,none⟩=some (.string t209)∧w'.cell? ⟨gb212,1,none⟩=some (.string t211)) (ds:=[]) #[false,false,false,false,false,false,false,false,false,false,false,false,false,false,false,false,false,false,false,false,false,false,false,false,false,false,false] (by kernel_rfl) rfl rfl ⟨(blk_cell BK212.out 0).trans rfl,(blk_cell BK212.out 1).trans rfl⟩ (fun hHeld=>?_);refine with_tabW copselaw7_rising.tab8 copselaw7_rising.bits8 (fun HT_ HW_=>?_)
       generalize w15.drew=w16 at HO_5 BK212 HB hHeld ⊢
       refine pure_ (i:=0) (N:=some 37) (v:=?_) (a':=?_) #[true,false,false,false,false,false,false,false,false,false,false,false,false,false,false,false,false,false,false,false,false,false,false,false,false,false,false] rfl rfl (any_of HT_.out (by kernel_rfl)) (fun _ _ _ h=>h) (Or.inl ⟨by rfl,?_⟩) ?_ ?_
       rotate_left
       ·
        intro w'
        go_simp
        with_reducible rfl
       rotate_left
       ·
        simp only[pt_]
        rfl
       refine take_ (i:=1) (N:=some 38) (v:=?_) (a':=?_) #[true,true,false,false,false,false,false,false,false,false,false,false,false,false,false,false,false,false,false,false,false,false,false,false,false,false,false] rfl rfl (take_ofW HT_.out HW_.out (by kernel_rfl)) (fun _ _ _ h=>h) (Or.inl ⟨by rfl,?_⟩) hHeld ?_ ?_
       rotate_left
       ·
        rintro w' ⟨s0,s1⟩
        go_simp
        with_reducible rfl
       rotate_left
       ·
        simp only[pt_]
        rfl
       refine pure_ (i:=2) (N:=some 39) (v:=?_) (a':=?_) #[true,true,true,false,false,false,false,false,false,false,false,false,false,false,false,false,false,false,false,false,false,false,false,false,false,false,false] rfl rfl (any_of HT_.out (by kernel_rfl)) (fun _ _ _ h=>h) (Or.inl ⟨by rfl,?_⟩) ?_ ?_
       rotate_left
       ·
        intro w'
        go_simp
        with_reducible rfl
       rotate_left
       ·
        simp only[pt_]
        rfl
       refine pure_ (i:=3) (N:=some 40) (v:=?_) (a':=?_) #[true,true,true,true,false,false,false,false,false,false,false,false,false,false,false,false,false,false,false,false,false,false,false,false,false,false,false] rfl rfl (any_of HT_.out (by kernel_rfl)) (fun _ _ _ h=>h) (Or.inl ⟨by rfl,?_⟩) ?_ ?_
       rotate_left
       ·
        intro w'
        go_simp
        with_reducible rfl
       rotate_left
       ·
        simp only[pt_]
        rfl
       refine pure_ (i:=4) (N:=some 41) (v:=undef) (a':=?_) #[true,true,true,true,true,false,false,false,false,false,false,false,false,false,false,false,false,false,false,false,false,false,false,false,false,false,false] rfl rfl (any_of HT_.out (by kernel_rfl)) (fun _ _ _ h=>h) (Or.inr ⟨by rfl,rfl⟩) ?_ ?_
       rotate_left
       ·
        simp only[pt_]
        rfl
       refine pure_ (i:=5) (N:=some 42) (v:=undef) (a':=?_) #[true,true,true,true,true,true,false,false,false,false,false,false,false,false,false,false,false,false,false,false,false,false,false,false,false,false,false] rfl rfl (any_of HT_.out (by kernel_rfl)) (fun _ _ _ h=>h) (Or.inr ⟨by rfl,rfl⟩) ?_ ?_
       rotate_left
       ·
        simp only[pt_]
        rfl
       refine pure_ (i:=6) (N:=some 43) (v:=undef) (a':=?_) #[true,true,true,true,true,true,true,false,false,false,false,false,false,false,false,false,false,false,false,false,false,false,false,false,false,false,false] rfl rfl (any_of HT_.out (by kernel_rfl)) (fun _ _ _ h=>h) (Or.inr ⟨by rfl,rfl⟩) ?_ ?_
       rotate_left
       ·
        simp only[pt_]
        rfl
       refine pure_ (i:=7) (N:=some 44) (v:=undef) (a':=?_) #[true,true,true,true,true,true,true,true,false,false,false,false,false,false,false,false,false,false,false,false,false,false,false,false,false,false,false] rfl rfl (any_of HT_.out (by kernel_rfl)) (fun _ _ _ h=>h) (Or.inr ⟨by rfl,rfl⟩) ?_ ?_
       rotate_left
       ·
        simp only[pt_]
        rfl
       refine pure_ (i:=8) (N:=some 45) (v:=undef) (a':=?_) #[true,true,true,true,true,true,true,true,true,false,false,false,false,false,false,false,false,false,false,false,false,false,false,false,false,false,false] rfl rfl (any_of HT_.out (by kernel_rfl)) (fun _ _ _ h=>h) (Or.inr ⟨by rfl,rfl⟩) ?_ ?_
       rotate_left
       ·
        simp only[pt_]
        rfl
       refine pure_ (i:=9) (N:=some 46) (v:=undef) (a':=?_) #[true,true,true,true,true,true,true,true,true,true,false,false,false,false,false,false,false,false,false,false,false,false,false,false,false,false,false] rfl rfl (any_of HT_.out (by kernel_rfl)) (fun _ _ _ h=>h) (Or.inr ⟨by rfl,rfl⟩) ?_ ?_
       rotate_left
       ·
        simp only[pt_]
        rfl
       refine pure_ (i:=10) (N:=some 47) (v:=undef) (a':=?_) #[true,true,true,true,true,true,true,true,true,true,true,false,false,false,false,false,false,false,false,false,false,false,false,false,false,false,false] rfl rfl (any_of HT_.out (by kernel_rfl)) (fun _ _ _ h=>h) (Or.inr ⟨by rfl,rfl⟩) ?_ ?_
       rotate_left
       ·
        simp only[pt_]
        rfl
       refine pure_ (i:=11) (N:=some 48) (v:=undef) (a':=?_) #[true,true,true,true,true,true,true,true,true,true,true,true,false,false,false,false,false,false,false,false,false,false,false,false,false,false,false] rfl rfl (any_of HT_.out (by kernel_rfl)) (fun _ _ _ h=>h) (Or.inr ⟨by rfl,rfl⟩) ?_ ?_
       rotate_left
       ·
        simp only[pt_]
        rfl
       refine pure_ (i:=12) (N:=some 49) (v:=undef) (a':=?_) #[true,true,true,true,true,true,true,true,true,true,true,true,true,false,false,false,false,false,false,false,false,false,false,false,false,false,false] rfl rfl (any_of HT_.out (by kernel_rfl)) (fun _ _ _ h=>h) (Or.inr ⟨by rfl,rfl⟩) ?_ ?_
       rotate_left
       ·
        simp only[pt_]
        rfl
       refine pure_ (i:=13) (N:=some 50) (v:=undef) (a':=?_) #[true,true,true,true,true,true,true,true,true,true,true,true,true,true,false,false,false,false,false,false,false,false,false,false,false,false,false] rfl rfl (any_of HT_.out (by kernel_rfl)) (fun _ _ _ h=>h) (Or.inr ⟨by rfl,rfl⟩) ?_ ?_
       rotate_left
       ·
        simp only[pt_]
        rfl
       refine pure_ (i:=14) (N:=some 51) (v:=undef) (a':=?_) #[true,true,true,true,true,true,true,true,true,true,true,true,true,true,true,false,false,false,false,false,false,false,false,false,false,false,false] rfl rfl (any_of HT_.out (by kernel_rfl)) (fun _ _ _ h=>h) (Or.inr ⟨by rfl,rfl⟩) ?_ ?_
       rotate_left
       ·
        simp only[pt_]
        rfl
       refine pure_ (i:=15) (N:=some 52) (v:=undef) (a':=?_) #[true,true,true,true,true,true,true,true,true,true,true,true,true,true,true,true,false,false,false,false,false,false,false,false,false,false,false] rfl rfl (any_of HT_.out (by kernel_rfl)) (fun _ _ _ h=>h) (Or.inr ⟨by rfl,rfl⟩) ?_ ?_
       rotate_left
       ·
        simp only[pt_]
        rfl
       refine pure_ (i:=16) (N:=some 53) (v:=undef) (a':=?_) #[true,true,true,true,true,true,true,true,true,true,true,true,true,true,true,true,true,false,false,false,false,false,false,false,false,false,false] rfl rfl (any_of HT_.out (by kernel_rfl)) (fun _ _ _ h=>h) (Or.inr ⟨by rfl,rfl⟩) ?_ ?_
       rotate_left
       ·
        simp only[pt_]
        rfl
       refine pure_ (i:=17) (N:=some 54) (v:=undef) (a':=?_) #[true,true,true,true,true,true,true,true,true,true,true,true,true,true,true,true,true,true,false,false,false,false,false,false,false,false,false] rfl rfl (any_of HT_.out (by kernel_rfl)) (fun _ _ _ h=>h) (Or.inr ⟨by rfl,rfl⟩) ?_ ?_
       rotate_left
       ·
        simp only[pt_]
        rfl
       refine pure_ (i:=18) (N:=some 55) (v:=undef) (a':=?_) #[true,true,true,true,true,true,true,true,true,true,true,true,true,true,true,true,true,true,true,false,false,false,false,false,false,false,false] rfl rfl (any_of HT_.out (by kernel_rfl)) (fun _ _ _ h=>h) (Or.inr ⟨by rfl,rfl⟩) ?_ ?_
       rotate_left
       ·
        simp only[pt_]
        rfl
       refine pure_ (i:=19) (N:=some 56) (v:=?_) (a':=?_) #[true,true,true,true,true,true,true,true,true,true,true,true,true,true,true,true,true,true,true,true,false,false,false,false,false,false,false] rfl rfl (any_of HT_.out (by kernel_rfl)) (fun _ _ _ h=>h) (Or.inl ⟨by rfl,?_⟩) ?_ ?_
       rotate_left
       ·
        intro w'
        go_simp
        with_reducible rfl
       rotate_left
       ·
        simp only[pt_]
        rfl
       refine pure_ (i:=20) (N:=some 57) (v:=?_) (a':=?_) #[true,true,true,true,true,true,true,true,true,true,true,true,true,true,true,true,true,true,true,true,true,false,false,false,false,false,false] rfl rfl (any_of HT_.out (by kernel_rfl)) (fun _ _ _ h=>h) (Or.inl ⟨by rfl,?_⟩) ?_ ?_
       rotate_left
       ·
        intro w'
        go_simp
        with_reducible rfl
       rotate_left
       ·
        simp only[pt_]
        rfl
       refine pure_ (i:=21) (N:=some 58) (v:=undef) (a':=?_) #[true,true,true,true,true,true,true,true,true,true,true,true,true,true,true,true,true,true,true,true,true,true,false,false,false,false,false] rfl rfl (any_of HT_.out (by kernel_rfl)) (fun _ _ _ h=>h) (Or.inr ⟨by rfl,rfl⟩) ?_ ?_
       rotate_left
       ·
        simp only[pt_]
        rfl
       refine pure_ (i:=22) (N:=some 59) (v:=undef) (a':=?_) #[true,true,true,true,true,true,true,true,true,true,true,true,true,true,true,true,true,true,true,true,true,true,true,false,false,false,false] rfl rfl (any_of HT_.out (by kernel_rfl)) (fun _ _ _ h=>h) (Or.inr ⟨by rfl,rfl⟩) ?_ ?_
       rotate_left
       ·
        simp only[pt_]
        rfl
       refine pure_ (i:=23) (N:=some 60) (v:=undef) (a':=?_) #[true,true,true,true,true,true,true,true,true,true,true,true,true,true,true,true,true,true,true,true,true,true,true,true,false,false,false] rfl rfl (any_of HT_.out (by kernel_rfl)) (fun _ _ _ h=>h) (Or.inr ⟨by rfl,rfl⟩) ?_ ?_
       rotate_left
       ·
        simp only[pt_]
        rfl
       refine pure_ (i:=24) (N:=some 61) (v:=undef) (a':=?_) #[true,true,true,true,true,true,true,true,true,true,true,true,true,true,true,true,true,true,true,true,true,true,true,true,true,false,false] rfl rfl (any_of HT_.out (by kernel_rfl)) (fun _ _ _ h=>h) (Or.inr ⟨by rfl,rfl⟩) ?_ ?_
       rotate_left
       ·
        simp only[pt_]
        rfl
       refine pure_ (i:=25) (N:=some 62) (v:=undef) (a':=?_) #[true,true,true,true,true,true,true,true,true,true,true,true,true,true,true,true,true,true,true,true,true,true,true,true,true,true,false] rfl rfl (any_of HT_.out (by kernel_rfl)) (fun _ _ _ h=>h) (Or.inr ⟨by rfl,rfl⟩) ?_ ?_
       rotate_left
       ·
        simp only[pt_]
        rfl
       refine pure_ (i:=26) (N:=some 63) (v:=?_) (a':=?_) #[true,true,true,true,true,true,true,true,true,true,true,true,true,true,true,true,true,true,true,true,true,true,true,true,true,true,true] rfl rfl (any_of HT_.out (by kernel_rfl)) (fun _ _ _ h=>h) (Or.inl ⟨by rfl,?_⟩) ?_ ?_
       rotate_left
       ·
        intro w'
        go_simp
        with_reducible rfl
       rotate_left
       ·
        simp only[pt_]
        rfl
       refine done_ (done_of HT_.out (by kernel_rfl)) ?_
       try go_wp2
       go_meet
       case rel=>exact ⟨_,(false),(by first|rfl|(simp;done)|(simp[*];done)),H',⟨by have:=HK1.out;first|omega|exact Nat.le_refl _⟩,⟨by (with_reducible repeat (first|apply Kd.R_alloc|apply Kd.R_drewN|apply Kd.R_drew));exact HO_5.out⟩,⟨by (with_reducible repeat (first|refine blk_drewN ?_ _|refine blk_drew ?_|refine blk_alloc ?_ _));exact BK212.out⟩,⟨by repeat (first|exact upB HB.out|refine below_set ?_ GE212.out|apply pw_below_drewN)⟩⟩
      ·
       rw[if_neg c14] at H
       have c14b0:(t209.toList==([]:List UInt8))=false:=beq_eq_false_iff_ne.mpr c14
       have c14b1:(t209.toList != ([]:List UInt8))=true:=bne_iff_ne.mpr c14
       (first|rw[c14b0]|(simp only[i64_w,i32_w];rw[c14b0])|skip)
       by_cases c17:(x5_1.length:Int)=0
       ·
        rw[if_pos c17] at H
        have c17b0:((x5_1.length:Int)==0)=true:=beq_iff_eq.mpr c17
        have c17b1:((x5_1.length:Int) != 0)=false:=bne_eq_false_iff_eq.mpr c17
        clear c17
        have H':=Aside0.mk H
        clear H
        try go_wp2
        have n0_:Aside0 (Kd.R k58 58 ((w10.setCell ⟨gb212,0,none⟩ (.string t209)).setCell ⟨gb212,1,none⟩ (.string t211)) w.heap.size (fun k_=>k_≠gb212) u5 x5_1):=⟨by (with_reducible repeat (first|apply Kd.R_alloc|apply Kd.R_drewN|apply Kd.R_drew));exact Kd.R_mono (Kd.R_far (p:=⟨gb212,1,none⟩) (Kd.R_far (p:=⟨gb212,0,none⟩) (Kd.R_mono HO_5.out (fun k_ hk=>(⟨hk,hk⟩:_∧k_≠gb212))) (fun _ hk=>hk.2) (.string t209)) (fun _ hk=>hk.2) (.string t211)) (fun _ hk=>hk.1)⟩
        have n1_:Aside0 (((w10.setCell ⟨gb212,0,none⟩ (.string t209)).setCell ⟨gb212,1,none⟩ (.string t211)).heap[gb212]?=some (.cells #[.string t209,.string t211] 58 (0,0))):=⟨by (with_reducible repeat (first|refine blk_drewN ?_ _|refine blk_drew ?_|refine blk_alloc ?_ _));refine blk_put (cs:=#[.string t209,.string (⟨#[]⟩:ByteArray)]) ?_ 1 _ rfl;(with_reducible repeat (first|refine blk_drewN ?_ _|refine blk_drew ?_|refine blk_alloc ?_ _));refine blk_put (cs:=#[.string (⟨#[]⟩:ByteArray),.string (⟨#[]⟩:ByteArray)]) ?_ 0 _ rfl;(with_reducible repeat (first|refine blk_drewN ?_ _|refine blk_drew ?_|refine blk_alloc ?_ _));exact BK212.out⟩
        have n2_:Aside0 (Below w.heap.size w ((w10.setCell ⟨gb212,0,none⟩ (.string t209)).setCell ⟨gb212,1,none⟩ (.string t211))):=⟨by repeat (first|exact upB HB.out|refine below_set ?_ GE212.out|apply pw_below_drewN)⟩
        (try clear HO_5)
        (try clear BK212)
        (try clear HB)
        generalize ((w10.setCell ⟨gb212,0,none⟩ (.string t209)).setCell ⟨gb212,1,none⟩ (.string t211))=w18 at n0_ n1_ n2_ ⊢
        have HO_5:=n0_
        have BK212:=n1_
        have HB:=n2_
        clear n0_ n1_ n2_
        have n0_:=Aside0.mk (Kd.R_drew HO_5.out)
        have n1_:=Aside0.mk (blk_drew BK212.out)
        have n2_:=Aside0.mk (below_drew1 HB.out)
        clear HO_5
        clear BK212
        clear HB
        have HO_5:=n0_
        have BK212:=n1_
        have HB:=n2_
        clear n0_ n1_ n2_
        obtain⟨Ao20,co20,eo20⟩:=Kd.R_slice HO_5.out
        (first|subst eo20|(injection eo20 with f1_ f2_ f3_;have f4_:=f1_.symm;have f5_:=f3_.symm;clear f1_ f2_ f3_;subst f4_;subst f5_))
        refine start_ (n:=27) (S:=fun w'=>w'.cell? ⟨gb212,0,none⟩=some (.string t209)∧w'.cell? ⟨gb212,1,none⟩=some (.string t211)) (ds:=[]) #[false,false,false,false,false,false,false,false,false,false,false,false,false,false,false,false,false,false,false,false,false,false,false,false,false,false,false] (by kernel_rfl) rfl rfl ⟨(blk_cell BK212.out 0).trans rfl,(blk_cell BK212.out 1).trans rfl⟩ (fun hHeld=>?_);refine with_tabW copselaw7_rising.tab8 copselaw7_rising.bits8 (fun HT_ HW_=>?_)
        generalize w18.drew=w19 at HO_5 BK212 HB hHeld ⊢
        refine pure_ (i:=0) (N:=some 37) (v:=?_) (a':=?_) #[true,false,false,false,false,false,false,false,false,false,false,false,false,false,false,false,false,false,false,false,false,false,false,false,false,false,false] rfl rfl (any_of HT_.out (by kernel_rfl)) (fun _ _ _ h=>h) (Or.inl ⟨by rfl,?_⟩) ?_ ?_
        rotate_left
        ·
         intro w'
         go_simp
         with_reducible rfl
        rotate_left
        ·
         simp only[pt_]
         rfl
        refine take_ (i:=1) (N:=some 38) (v:=?_) (a':=?_) #[true,true,false,false,false,false,false,false,false,false,false,false,false,false,false,false,false,false,false,false,false,false,false,false,false,false,false] rfl rfl (take_ofW HT_.out HW_.out (by kernel_rfl)) (fun _ _ _ h=>h) (Or.inl ⟨by rfl,?_⟩) hHeld ?_ ?_
        rotate_left
        ·
         rintro w' ⟨s0,s1⟩
         go_simp
         with_reducible rfl
        rotate_left
        ·
         simp only[pt_]
         rfl
        refine pure_ (i:=2) (N:=some 39) (v:=?_) (a':=?_) #[true,true,true,false,false,false,false,false,false,false,false,false,false,false,false,false,false,false,false,false,false,false,false,false,false,false,false] rfl rfl (any_of HT_.out (by kernel_rfl)) (fun _ _ _ h=>h) (Or.inl ⟨by rfl,?_⟩) ?_ ?_
        rotate_left
        ·
         intro w'
         go_simp
         with_reducible rfl
        rotate_left
        ·
         simp only[pt_]
         rfl
        refine pure_ (i:=3) (N:=some 40) (v:=?_) (a':=?_) #[true,true,true,true,false,false,false,false,false,false,false,false,false,false,false,false,false,false,false,false,false,false,false,false,false,false,false] rfl rfl (any_of HT_.out (by kernel_rfl)) (fun _ _ _ h=>h) (Or.inl ⟨by rfl,?_⟩) ?_ ?_
        rotate_left
        ·
         intro w'
         go_simp
         with_reducible rfl
        rotate_left
        ·
         simp only[pt_]
         rfl
        refine pure_ (i:=4) (N:=some 41) (v:=?_) (a':=?_) #[true,true,true,true,true,false,false,false,false,false,false,false,false,false,false,false,false,false,false,false,false,false,false,false,false,false,false] rfl rfl (any_of HT_.out (by kernel_rfl)) (fun _ _ _ h=>h) (Or.inl ⟨by rfl,?_⟩) ?_ ?_
        rotate_left
        ·
         intro w'
         go_simp
         with_reducible rfl
        rotate_left
        ·
         simp only[pt_]
         rfl
        refine pure_ (i:=5) (N:=some 42) (v:=?_) (a':=?_) #[true,true,true,true,true,true,false,false,false,false,false,false,false,false,false,false,false,false,false,false,false,false,false,false,false,false,false] rfl rfl (any_of HT_.out (by kernel_rfl)) (fun _ _ _ h=>h) (Or.inl ⟨by rfl,?_⟩) ?_ ?_
        rotate_left
        ·
         intro w'
         go_simp
         with_reducible rfl
        rotate_left
        ·
         simp only[pt_]
         rfl
        refine pure_ (i:=6) (N:=some 43) (v:=?_) (a':=?_) #[true,true,true,true,true,true,true,false,false,false,false,false,false,false,false,false,false,false,false,false,false,false,false,false,false,false,false] rfl rfl (any_of HT_.out (by kernel_rfl)) (fun _ _ _ h=>h) (Or.inl ⟨by rfl,?_⟩) ?_ ?_
        rotate_left
        ·
         intro w'
         go_simp
         with_reducible rfl
        rotate_left
        ·
         simp only[pt_]
         rfl
        refine pure_ (i:=7) (N:=some 44) (v:=?_) (a':=?_) #[true,true,true,true,true,true,true,true,false,false,false,false,false,false,false,false,false,false,false,false,false,false,false,false,false,false,false] rfl rfl (any_of HT_.out (by kernel_rfl)) (fun _ _ _ h=>h) (Or.inl ⟨by rfl,?_⟩) ?_ ?_
        rotate_left
        ·
         intro w'
         go_simp
         with_reducible rfl
        rotate_left
        ·
         simp only[pt_]
         rfl
        refine pure_ (i:=8) (N:=some 45) (v:=undef) (a':=?_) #[true,true,true,true,true,true,true,true,true,false,false,false,false,false,false,false,false,false,false,false,false,false,false,false,false,false,false] rfl rfl (any_of HT_.out (by kernel_rfl)) (fun _ _ _ h=>h) (Or.inr ⟨by rfl,rfl⟩) ?_ ?_
        rotate_left
        ·
         simp only[pt_]
         rfl
        refine pure_ (i:=9) (N:=some 46) (v:=undef) (a':=?_) #[true,true,true,true,true,true,true,true,true,true,false,false,false,false,false,false,false,false,false,false,false,false,false,false,false,false,false] rfl rfl (any_of HT_.out (by kernel_rfl)) (fun _ _ _ h=>h) (Or.inr ⟨by rfl,rfl⟩) ?_ ?_
        rotate_left
        ·
         simp only[pt_]
         rfl
        refine pure_ (i:=10) (N:=some 47) (v:=undef) (a':=?_) #[true,true,true,true,true,true,true,true,true,true,true,false,false,false,false,false,false,false,false,false,false,false,false,false,false,false,false] rfl rfl (any_of HT_.out (by kernel_rfl)) (fun _ _ _ h=>h) (Or.inr ⟨by rfl,rfl⟩) ?_ ?_
        rotate_left
        ·
         simp only[pt_]
         rfl
        refine pure_ (i:=11) (N:=some 48) (v:=undef) (a':=?_) #[true,true,true,true,true,true,true,true,true,true,true,true,false,false,false,false,false,false,false,false,false,false,false,false,false,false,false] rfl rfl (any_of HT_.out (by kernel_rfl)) (fun _ _ _ h=>h) (Or.inr ⟨by rfl,rfl⟩) ?_ ?_
        rotate_left
        ·
         simp only[pt_]
         rfl
        refine pure_ (i:=12) (N:=some 49) (v:=undef) (a':=?_) #[true,true,true,true,true,true,true,true,true,true,true,true,true,false,false,false,false,false,false,false,false,false,false,false,false,false,false] rfl rfl (any_of HT_.out (by kernel_rfl)) (fun _ _ _ h=>h) (Or.inr ⟨by rfl,rfl⟩) ?_ ?_
        rotate_left
        ·
         simp only[pt_]
         rfl
        refine pure_ (i:=13) (N:=some 50) (v:=undef) (a':=?_) #[true,true,true,true,true,true,true,true,true,true,true,true,true,true,false,false,false,false,false,false,false,false,false,false,false,false,false] rfl rfl (any_of HT_.out (by kernel_rfl)) (fun _ _ _ h=>h) (Or.inr ⟨by rfl,rfl⟩) ?_ ?_
        rotate_left
        ·
         simp only[pt_]
         rfl
        refine pure_ (i:=14) (N:=some 51) (v:=undef) (a':=?_) #[true,true,true,true,true,true,true,true,true,true,true,true,true,true,true,false,false,false,false,false,false,false,false,false,false,false,false] rfl rfl (any_of HT_.out (by kernel_rfl)) (fun _ _ _ h=>h) (Or.inr ⟨by rfl,rfl⟩) ?_ ?_
        rotate_left
        ·
         simp only[pt_]
         rfl
        refine pure_ (i:=15) (N:=some 52) (v:=undef) (a':=?_) #[true,true,true,true,true,true,true,true,true,true,true,true,true,true,true,true,false,false,false,false,false,false,false,false,false,false,false] rfl rfl (any_of HT_.out (by kernel_rfl)) (fun _ _ _ h=>h) (Or.inr ⟨by rfl,rfl⟩) ?_ ?_
        rotate_left
        ·
         simp only[pt_]
         rfl
        refine pure_ (i:=16) (N:=some 53) (v:=undef) (a':=?_) #[true,true,true,true,true,true,true,true,true,true,true,true,true,true,true,true,true,false,false,false,false,false,false,false,false,false,false] rfl rfl (any_of HT_.out (by kernel_rfl)) (fun _ _ _ h=>h) (Or.inr ⟨by rfl,rfl⟩) ?_ ?_
        rotate_left
        ·
         simp only[pt_]
         rfl
        refine pure_ (i:=17) (N:=some 54) (v:=undef) (a':=?_) #[true,true,true,true,true,true,true,true,true,true,true,true,true,true,true,true,true,true,false,false,false,false,false,false,false,false,false] rfl rfl (any_of HT_.out (by kernel_rfl)) (fun _ _ _ h=>h) (Or.inr ⟨by rfl,rfl⟩) ?_ ?_
        rotate_left
        ·
         simp only[pt_]
         rfl
        refine pure_ (i:=18) (N:=some 55) (v:=?_) (a':=?_) #[true,true,true,true,true,true,true,true,true,true,true,true,true,true,true,true,true,true,true,false,false,false,false,false,false,false,false] rfl rfl (any_of HT_.out (by kernel_rfl)) (fun _ _ _ h=>h) (Or.inl ⟨by rfl,?_⟩) ?_ ?_
        rotate_left
        ·
         intro w'
         go_simp
         with_reducible rfl
        rotate_left
        ·
         simp only[pt_]
         rfl
        refine pure_ (i:=19) (N:=some 56) (v:=?_) (a':=?_) #[true,true,true,true,true,true,true,true,true,true,true,true,true,true,true,true,true,true,true,true,false,false,false,false,false,false,false] rfl rfl (any_of HT_.out (by kernel_rfl)) (fun _ _ _ h=>h) (Or.inl ⟨by rfl,?_⟩) ?_ ?_
        rotate_left
        ·
         intro w'
         go_simp
         with_reducible rfl
        rotate_left
        ·
         simp only[pt_]
         rfl
        refine pure_ (i:=20) (N:=some 57) (v:=?_) (a':=?_) #[true,true,true,true,true,true,true,true,true,true,true,true,true,true,true,true,true,true,true,true,true,false,false,false,false,false,false] rfl rfl (any_of HT_.out (by kernel_rfl)) (fun _ _ _ h=>h) (Or.inl ⟨by rfl,?_⟩) ?_ ?_
        rotate_left
        ·
         intro w'
         go_simp
         with_reducible rfl
        rotate_left
        ·
         simp only[pt_]
         rfl
        refine pure_ (i:=21) (N:=some 58) (v:=?_) (a':=?_) #[true,true,true,true,true,true,true,true,true,true,true,true,true,true,true,true,true,true,true,true,true,true,false,false,false,false,false] rfl rfl (any_of HT_.out (by kernel_rfl)) (fun _ _ _ h=>h) (Or.inl ⟨by rfl,?_⟩) ?_ ?_
        rotate_left
        ·
         intro w'
         go_simp
         with_reducible rfl
        rotate_left
        ·
         simp only[pt_]
         rfl
        refine pure_ (i:=22) (N:=some 59) (v:=?_) (a':=?_) #[true,true,true,true,true,true,true,true,true,true,true,true,true,true,true,true,true,true,true,true,true,true,true,false,false,false,false] rfl rfl (any_of HT_.out (by kernel_rfl)) (fun _ _ _ h=>h) (Or.inl ⟨by rfl,?_⟩) ?_ ?_
        rotate_left
        ·
         intro w'
         go_simp
         with_reducible rfl
        rotate_left
        ·
         simp only[pt_]
         rfl
        refine pure_ (i:=23) (N:=some 60) (v:=?_) (a':=?_) #[true,true,true,true,true,true,true,true,true,true,true,true,true,true,true,true,true,true,true,true,true,true,true,true,false,false,false] rfl rfl (any_of HT_.out (by kernel_rfl)) (fun _ _ _ h=>h) (Or.inl ⟨by rfl,?_⟩) ?_ ?_
        rotate_left
        ·
         intro w'
         go_simp
         with_reducible rfl
        rotate_left
        ·
         simp only[pt_]
         rfl
        refine pure_ (i:=24) (N:=some 61) (v:=?_) (a':=?_) #[true,true,true,true,true,true,true,true,true,true,true,true,true,true,true,true,true,true,true,true,true,true,true,true,true,false,false] rfl rfl (any_of HT_.out (by kernel_rfl)) (fun _ _ _ h=>h) (Or.inl ⟨by rfl,?_⟩) ?_ ?_
        rotate_left
        ·
         intro w'
         go_simp
         with_reducible rfl
        rotate_left
        ·
         simp only[pt_]
         rfl
        refine pure_ (i:=25) (N:=some 62) (v:=?_) (a':=?_) #[true,true,true,true,true,true,true,true,true,true,true,true,true,true,true,true,true,true,true,true,true,true,true,true,true,true,false] rfl rfl (any_of HT_.out (by kernel_rfl)) (fun _ _ _ h=>h) (Or.inl ⟨by rfl,?_⟩) ?_ ?_
        rotate_left
        ·
         intro w'
         go_simp
         with_reducible rfl
        rotate_left
        ·
         simp only[pt_]
         rfl
        refine pure_ (i:=26) (N:=some 63) (v:=?_) (a':=?_) #[true,true,true,true,true,true,true,true,true,true,true,true,true,true,true,true,true,true,true,true,true,true,true,true,true,true,true] rfl rfl (any_of HT_.out (by kernel_rfl)) (fun _ _ _ h=>h) (Or.inl ⟨by rfl,?_⟩) ?_ ?_
        rotate_left
        ·
         intro w'
         go_simp
         with_reducible rfl
        rotate_left
        ·
         simp only[pt_]
         rfl
        refine done_ (done_of HT_.out (by kernel_rfl)) ?_
        try go_wp2
        go_meet
        case rel=>exact ⟨_,(decide ((wrap64 (x6_1+(wrap64 ((wrap64 (5+(t209.size:Int)))+(t211.size:Int)))))≤a1)),(by first|rfl|(simp;done)|(simp[*];done)),H',⟨by have:=HK1.out;first|omega|exact Nat.le_refl _⟩,⟨by (with_reducible repeat (first|apply Kd.R_alloc|apply Kd.R_drewN|apply Kd.R_drew));exact HO_5.out⟩,⟨by (with_reducible repeat (first|refine blk_drewN ?_ _|refine blk_drew ?_|refine blk_alloc ?_ _));exact BK212.out⟩,⟨by repeat (first|exact upB HB.out|refine below_set ?_ GE212.out|apply pw_below_drewN)⟩⟩
       ·
        rw[if_neg c17] at H
        have c17b0:((x5_1.length:Int)==0)=false:=beq_eq_false_iff_ne.mpr c17
        have c17b1:((x5_1.length:Int) != 0)=true:=bne_iff_ne.mpr c17
        have c17b2 : ¬ (x5_1=[]):=fun h_=>c17 (by rw[h_];rfl)
        obtain⟨ji21,hji21⟩ : ∃ j_:Int,(wrap64 ((x5_1.length:Int) - 1))=j_:=⟨_,rfl⟩
        replace H:(if 0≤(ji21) then (if (ji21)<(x5_1.length:Int) then (if (Op.bytesLess (((rd_T58 x5_1 (ji21)).f0).toList) t209.toList)=true then (copselaw7_rising.j1 k1 l0 a1 x5_1 x6_1 x7_1 (wrap64 ((wrap64 (5+(t209.size:Int)))+(t211.size:Int))) (decide ((wrap64 (x6_1+(wrap64 ((wrap64 (5+(t209.size:Int)))+(t211.size:Int)))))≤a1)) t209 t211) else (copselaw7_rising.j1 k1 l0 a1 x5_1 x6_1 x7_1 (wrap64 ((wrap64 (5+(t209.size:Int)))+(t211.size:Int))) false t209 t211)) else (none)) else (none))=some r:=by first|(rw[hji21] at H;exact H)|(simp only[hji21] at H ⊢;exact H)
        have hji21w:(IntKind.i64.wrap ((x5_1.length:Int) - 1))=ji21:=(i64_w _).trans hji21
        by_cases c22:0≤(ji21)
        ·
         rw[if_pos c22] at H
         have c22b0:decide (0≤(ji21))=true:=decide_eq_true c22
         clear c22
         by_cases c23:(ji21)<(x5_1.length:Int)
         ·
          rw[if_pos c23] at H
          have c23b0:decide ((ji21)<(x5_1.length:Int))=true:=decide_eq_true c23
          clear c23
          by_cases c24:(Op.bytesLess (((rd_T58 x5_1 (ji21)).f0).toList) t209.toList)=true
          ·
           rw[if_pos c24] at H
           have c24b0:(Op.bytesLess (((rd_T58 x5_1 (ji21)).f0).toList) t209.toList)=true:=c24
           clear c24
           have H':=Aside0.mk H
           clear H
           try go_wp2
           have n0_:Aside0 (Kd.R k58 58 ((w10.setCell ⟨gb212,0,none⟩ (.string t209)).setCell ⟨gb212,1,none⟩ (.string t211)) w.heap.size (fun k_=>k_≠gb212) u5 x5_1):=⟨by (with_reducible repeat (first|apply Kd.R_alloc|apply Kd.R_drewN|apply Kd.R_drew));exact Kd.R_mono (Kd.R_far (p:=⟨gb212,1,none⟩) (Kd.R_far (p:=⟨gb212,0,none⟩) (Kd.R_mono HO_5.out (fun k_ hk=>(⟨hk,hk⟩:_∧k_≠gb212))) (fun _ hk=>hk.2) (.string t209)) (fun _ hk=>hk.2) (.string t211)) (fun _ hk=>hk.1)⟩
           have n1_:Aside0 (((w10.setCell ⟨gb212,0,none⟩ (.string t209)).setCell ⟨gb212,1,none⟩ (.string t211)).heap[gb212]?=some (.cells #[.string t209,.string t211] 58 (0,0))):=⟨by (with_reducible repeat (first|refine blk_drewN ?_ _|refine blk_drew ?_|refine blk_alloc ?_ _));refine blk_put (cs:=#[.string t209,.string (⟨#[]⟩:ByteArray)]) ?_ 1 _ rfl;(with_reducible repeat (first|refine blk_drewN ?_ _|refine blk_drew ?_|refine blk_alloc ?_ _));refine blk_put (cs:=#[.string (⟨#[]⟩:ByteArray),.string (⟨#[]⟩:ByteArray)]) ?_ 0 _ rfl;(with_reducible repeat (first|refine blk_drewN ?_ _|refine blk_drew ?_|refine blk_alloc ?_ _));exact BK212.out⟩
           have n2_:Aside0 (Below w.heap.size w ((w10.setCell ⟨gb212,0,none⟩ (.string t209)).setCell ⟨gb212,1,none⟩ (.string t211))):=⟨by repeat (first|exact upB HB.out|refine below_set ?_ GE212.out|apply pw_below_drewN)⟩
           (try clear HO_5)
           (try clear BK212)
           (try clear HB)
           generalize ((w10.setCell ⟨gb212,0,none⟩ (.string t209)).setCell ⟨gb212,1,none⟩ (.string t211))=w25 at n0_ n1_ n2_ ⊢
           have HO_5:=n0_
           have BK212:=n1_
           have HB:=n2_
           clear n0_ n1_ n2_
           have n0_:=Aside0.mk (Kd.R_drew HO_5.out)
           have n1_:=Aside0.mk (blk_drew BK212.out)
           have n2_:=Aside0.mk (below_drew1 HB.out)
           clear HO_5
           clear BK212
           clear HB
           have HO_5:=n0_
           have BK212:=n1_
           have HB:=n2_
           clear n0_ n1_ n2_
           obtain⟨Ao27,co27,eo27⟩:=Kd.R_slice HO_5.out
           (first|subst eo27|(injection eo27 with f1_ f2_ f3_;have f4_:=f1_.symm;have f5_:=f3_.symm;clear f1_ f2_ f3_;subst f4_;subst f5_))
           have p213:0≤((ji21):Int):=of_decide_eq_true (by assumption)
           have q213:(ji21)<(x5_1.length:Int):=of_decide_eq_true (by assumption)
           obtain⟨ad213,e213,hx213_0,hx213_1⟩:=at_T58 (Kd.R_reads' HO_5.out).2.2 (ji21) p213 q213
           cases e213
           replace p213:=eq_true p213
           replace q213:=eq_true q213
           refine start_ (n:=27) (S:=fun w'=>w'.cell? ⟨gb212,0,none⟩=some (.string t209)∧w'.cell? ⟨gb212,1,none⟩=some (.string t211)∧w'.cell? (ad213.add (((ji21)).toNat*2))=some (.string ((rd_T58 x5_1 (ji21)).f0))∧w'.cell? ⟨(ad213.add (((ji21)).toNat*2)).block,(ad213.add (((ji21)).toNat*2)).off+1,none⟩=some (.string ((rd_T58 x5_1 (ji21)).f1))) (ds:=[]) #[false,false,false,false,false,false,false,false,false,false,false,false,false,false,false,false,false,false,false,false,false,false,false,false,false,false,false] (by kernel_rfl) rfl rfl ⟨(blk_cell BK212.out 0).trans rfl,(blk_cell BK212.out 1).trans rfl,hx213_0,hx213_1⟩ (fun hHeld=>?_);refine with_tabW copselaw7_rising.tab8 copselaw7_rising.bits8 (fun HT_ HW_=>?_)
           generalize w25.drew=w26 at HO_5 BK212 HB hx213_0 hx213_1 hHeld ⊢
           refine pure_ (i:=0) (N:=some 37) (v:=?_) (a':=?_) #[true,false,false,false,false,false,false,false,false,false,false,false,false,false,false,false,false,false,false,false,false,false,false,false,false,false,false] rfl rfl (any_of HT_.out (by kernel_rfl)) (fun _ _ _ h=>h) (Or.inl ⟨by rfl,?_⟩) ?_ ?_
           rotate_left
           ·
            intro w'
            go_simp
            with_reducible rfl
           rotate_left
           ·
            simp only[pt_]
            rfl
           refine take_ (i:=1) (N:=some 38) (v:=?_) (a':=?_) #[true,true,false,false,false,false,false,false,false,false,false,false,false,false,false,false,false,false,false,false,false,false,false,false,false,false,false] rfl rfl (take_ofW HT_.out HW_.out (by kernel_rfl)) (fun _ _ _ h=>h) (Or.inl ⟨by rfl,?_⟩) hHeld ?_ ?_
           rotate_left
           ·
            rintro w' ⟨s0,s1,s2,s3⟩
            go_simp
            with_reducible rfl
           rotate_left
           ·
            simp only[pt_]
            rfl
           refine pure_ (i:=2) (N:=some 39) (v:=?_) (a':=?_) #[true,true,true,false,false,false,false,false,false,false,false,false,false,false,false,false,false,false,false,false,false,false,false,false,false,false,false] rfl rfl (any_of HT_.out (by kernel_rfl)) (fun _ _ _ h=>h) (Or.inl ⟨by rfl,?_⟩) ?_ ?_
           rotate_left
           ·
            intro w'
            go_simp
            with_reducible rfl
           rotate_left
           ·
            simp only[pt_]
            rfl
           refine pure_ (i:=3) (N:=some 40) (v:=?_) (a':=?_) #[true,true,true,true,false,false,false,false,false,false,false,false,false,false,false,false,false,false,false,false,false,false,false,false,false,false,false] rfl rfl (any_of HT_.out (by kernel_rfl)) (fun _ _ _ h=>h) (Or.inl ⟨by rfl,?_⟩) ?_ ?_
           rotate_left
           ·
            intro w'
            go_simp
            with_reducible rfl
           rotate_left
           ·
            simp only[pt_]
            rfl
           refine pure_ (i:=4) (N:=some 41) (v:=?_) (a':=?_) #[true,true,true,true,true,false,false,false,false,false,false,false,false,false,false,false,false,false,false,false,false,false,false,false,false,false,false] rfl rfl (any_of HT_.out (by kernel_rfl)) (fun _ _ _ h=>h) (Or.inl ⟨by rfl,?_⟩) ?_ ?_
           rotate_left
           ·
            intro w'
            go_simp
            with_reducible rfl
           rotate_left
           ·
            simp only[pt_]
            rfl
           refine pure_ (i:=5) (N:=some 42) (v:=?_) (a':=?_) #[true,true,true,true,true,true,false,false,false,false,false,false,false,false,false,false,false,false,false,false,false,false,false,false,false,false,false] rfl rfl (any_of HT_.out (by kernel_rfl)) (fun _ _ _ h=>h) (Or.inl ⟨by rfl,?_⟩) ?_ ?_
           rotate_left
           ·
            intro w'
            go_simp
            with_reducible rfl
           rotate_left
           ·
            simp only[pt_]
            rfl
           refine pure_ (i:=6) (N:=some 43) (v:=?_) (a':=?_) #[true,true,true,true,true,true,true,false,false,false,false,false,false,false,false,false,false,false,false,false,false,false,false,false,false,false,false] rfl rfl (any_of HT_.out (by kernel_rfl)) (fun _ _ _ h=>h) (Or.inl ⟨by rfl,?_⟩) ?_ ?_
           rotate_left
           ·
            intro w'
            go_simp
            with_reducible rfl
           rotate_left
           ·
            simp only[pt_]
            rfl
           refine pure_ (i:=7) (N:=some 44) (v:=?_) (a':=?_) #[true,true,true,true,true,true,true,true,false,false,false,false,false,false,false,false,false,false,false,false,false,false,false,false,false,false,false] rfl rfl (any_of HT_.out (by kernel_rfl)) (fun _ _ _ h=>h) (Or.inl ⟨by rfl,?_⟩) ?_ ?_
           rotate_left
           ·
            intro w'
            go_simp
            with_reducible rfl
           rotate_left
           ·
            simp only[pt_]
            rfl
           refine pure_ (i:=8) (N:=some 45) (v:=?_) (a':=?_) #[true,true,true,true,true,true,true,true,true,false,false,false,false,false,false,false,false,false,false,false,false,false,false,false,false,false,false] rfl rfl (any_of HT_.out (by kernel_rfl)) (fun _ _ _ h=>h) (Or.inl ⟨by rfl,?_⟩) ?_ ?_
           rotate_left
           ·
            intro w'
            go_simp
            with_reducible rfl
           rotate_left
           ·
            simp only[pt_]
            rfl
           refine pure_ (i:=9) (N:=some 46) (v:=?_) (a':=?_) #[true,true,true,true,true,true,true,true,true,true,false,false,false,false,false,false,false,false,false,false,false,false,false,false,false,false,false] rfl rfl (any_of HT_.out (by kernel_rfl)) (fun _ _ _ h=>h) (Or.inl ⟨by rfl,?_⟩) ?_ ?_
           rotate_left
           ·
            intro w'
            go_simp
            with_reducible rfl
           rotate_left
           ·
            simp only[pt_]
            rfl
           refine pure_ (i:=10) (N:=some 47) (v:=?_) (a':=?_) #[true,true,true,true,true,true,true,true,true,true,true,false,false,false,false,false,false,false,false,false,false,false,false,false,false,false,false] rfl rfl (any_of HT_.out (by kernel_rfl)) (fun _ _ _ h=>h) (Or.inl ⟨by rfl,?_⟩) ?_ ?_
           rotate_left
           ·
            intro w'
            go_simp
            with_reducible rfl
           rotate_left
           ·
            simp only[pt_]
            rfl
           refine pure_ (i:=11) (N:=some 48) (v:=?_) (a':=?_) #[true,true,true,true,true,true,true,true,true,true,true,true,false,false,false,false,false,false,false,false,false,false,false,false,false,false,false] rfl rfl (any_of HT_.out (by kernel_rfl)) (fun _ _ _ h=>h) (Or.inl ⟨by rfl,?_⟩) ?_ ?_
           rotate_left
           ·
            intro w'
            go_simp
            with_reducible rfl
           rotate_left
           ·
            simp only[pt_]
            rfl
           refine pure_ (i:=12) (N:=some 49) (v:=?_) (a':=?_) #[true,true,true,true,true,true,true,true,true,true,true,true,true,false,false,false,false,false,false,false,false,false,false,false,false,false,false] rfl rfl (any_of HT_.out (by kernel_rfl)) (fun _ _ _ h=>h) (Or.inl ⟨by rfl,?_⟩) ?_ ?_
           rotate_left
           ·
            intro w'
            go_simp
            with_reducible rfl
           rotate_left
           ·
            simp only[pt_]
            rfl
           refine pure_ (i:=13) (N:=some 50) (v:=?_) (a':=?_) #[true,true,true,true,true,true,true,true,true,true,true,true,true,true,false,false,false,false,false,false,false,false,false,false,false,false,false] rfl rfl (any_of HT_.out (by kernel_rfl)) (fun _ _ _ h=>h) (Or.inl ⟨by rfl,?_⟩) ?_ ?_
           rotate_left
           ·
            intro w'
            go_simp
            with_reducible rfl
           rotate_left
           ·
            simp only[pt_]
            rfl
           refine pure_ (i:=15) (N:=some 52) (v:=?_) (a':=?_) #[true,true,true,true,true,true,true,true,true,true,true,true,true,true,false,true,false,false,false,false,false,false,false,false,false,false,false] rfl rfl (any_of HT_.out (by kernel_rfl)) (fun _ _ _ h=>h) (Or.inl ⟨by rfl,?_⟩) ?_ ?_
           rotate_left
           ·
            intro w'
            go_simp
            with_reducible rfl
           rotate_left
           ·
            simp only[pt_]
            rfl
           refine take_ (i:=14) (N:=some 51) (v:=?_) (a':=?_) #[true,true,true,true,true,true,true,true,true,true,true,true,true,true,true,true,false,false,false,false,false,false,false,false,false,false,false] rfl rfl (take_ofW HT_.out HW_.out (by kernel_rfl)) (fun _ _ _ h=>h) (Or.inl ⟨by rfl,?_⟩) hHeld ?_ ?_
           rotate_left
           ·
            rintro w' ⟨s0,s1,s2,s3⟩
            go_simp
            with_reducible rfl
           rotate_left
           ·
            simp only[pt_]
            rfl
           refine take_ (i:=16) (N:=some 53) (v:=?_) (a':=?_) #[true,true,true,true,true,true,true,true,true,true,true,true,true,true,true,true,true,false,false,false,false,false,false,false,false,false,false] rfl rfl (take_ofW HT_.out HW_.out (by kernel_rfl)) (fun _ _ _ h=>h) (Or.inl ⟨by rfl,?_⟩) hHeld ?_ ?_
           rotate_left
           ·
            rintro w' ⟨s0,s1,s2,s3⟩
            go_simp
            with_reducible rfl
           rotate_left
           ·
            simp only[pt_]
            rfl
           refine pure_ (i:=17) (N:=some 54) (v:=?_) (a':=?_) #[true,true,true,true,true,true,true,true,true,true,true,true,true,true,true,true,true,true,false,false,false,false,false,false,false,false,false] rfl rfl (any_of HT_.out (by kernel_rfl)) (fun _ _ _ h=>h) (Or.inl ⟨by rfl,?_⟩) ?_ ?_
           rotate_left
           ·
            intro w'
            go_simp
            with_reducible rfl
           rotate_left
           ·
            simp only[pt_]
            rfl
           refine pure_ (i:=18) (N:=some 55) (v:=?_) (a':=?_) #[true,true,true,true,true,true,true,true,true,true,true,true,true,true,true,true,true,true,true,false,false,false,false,false,false,false,false] rfl rfl (any_of HT_.out (by kernel_rfl)) (fun _ _ _ h=>h) (Or.inl ⟨by rfl,?_⟩) ?_ ?_
           rotate_left
           ·
            intro w'
            go_simp
            with_reducible rfl
           rotate_left
           ·
            simp only[pt_]
            rfl
           refine pure_ (i:=19) (N:=some 56) (v:=?_) (a':=?_) #[true,true,true,true,true,true,true,true,true,true,true,true,true,true,true,true,true,true,true,true,false,false,false,false,false,false,false] rfl rfl (any_of HT_.out (by kernel_rfl)) (fun _ _ _ h=>h) (Or.inl ⟨by rfl,?_⟩) ?_ ?_
           rotate_left
           ·
            intro w'
            go_simp
            with_reducible rfl
           rotate_left
           ·
            simp only[pt_]
            rfl
           refine pure_ (i:=20) (N:=some 57) (v:=?_) (a':=?_) #[true,true,true,true,true,true,true,true,true,true,true,true,true,true,true,true,true,true,true,true,true,false,false,false,false,false,false] rfl rfl (any_of HT_.out (by kernel_rfl)) (fun _ _ _ h=>h) (Or.inl ⟨by rfl,?_⟩) ?_ ?_
           rotate_left
           ·
            intro w'
            go_simp
            with_reducible rfl
           rotate_left
           ·
            simp only[pt_]
            rfl
           refine pure_ (i:=21) (N:=some 58) (v:=?_) (a':=?_) #[true,true,true,true,true,true,true,true,true,true,true,true,true,true,true,true,true,true,true,true,true,true,false,false,false,false,false] rfl rfl (any_of HT_.out (by kernel_rfl)) (fun _ _ _ h=>h) (Or.inl ⟨by rfl,?_⟩) ?_ ?_
           rotate_left
           ·
            intro w'
            go_simp
            with_reducible rfl
           rotate_left
           ·
            simp only[pt_]
            rfl
           refine pure_ (i:=22) (N:=some 59) (v:=?_) (a':=?_) #[true,true,true,true,true,true,true,true,true,true,true,true,true,true,true,true,true,true,true,true,true,true,true,false,false,false,false] rfl rfl (any_of HT_.out (by kernel_rfl)) (fun _ _ _ h=>h) (Or.inl ⟨by rfl,?_⟩) ?_ ?_
           rotate_left
           ·
            intro w'
            go_simp
            with_reducible rfl
           rotate_left
           ·
            simp only[pt_]
            rfl
           refine pure_ (i:=23) (N:=some 60) (v:=?_) (a':=?_) #[true,true,true,true,true,true,true,true,true,true,true,true,true,true,true,true,true,true,true,true,true,true,true,true,false,false,false] rfl rfl (any_of HT_.out (by kernel_rfl)) (fun _ _ _ h=>h) (Or.inl ⟨by rfl,?_⟩) ?_ ?_
           rotate_left
           ·
            intro w'
            go_simp
            with_reducible rfl
           rotate_left
           ·
            simp only[pt_]
            rfl
           refine pure_ (i:=24) (N:=some 61) (v:=?_) (a':=?_) #[true,true,true,true,true,true,true,true,true,true,true,true,true,true,true,true,true,true,true,true,true,true,true,true,true,false,false] rfl rfl (any_of HT_.out (by kernel_rfl)) (fun _ _ _ h=>h) (Or.inl ⟨by rfl,?_⟩) ?_ ?_
           rotate_left
           ·
            intro w'
            go_simp
            with_reducible rfl
           rotate_left
           ·
            simp only[pt_]
            rfl
           refine pure_ (i:=25) (N:=some 62) (v:=?_) (a':=?_) #[true,true,true,true,true,true,true,true,true,true,true,true,true,true,true,true,true,true,true,true,true,true,true,true,true,true,false] rfl rfl (any_of HT_.out (by kernel_rfl)) (fun _ _ _ h=>h) (Or.inl ⟨by rfl,?_⟩) ?_ ?_
           rotate_left
           ·
            intro w'
            go_simp
            with_reducible rfl
           rotate_left
           ·
            simp only[pt_]
            rfl
           refine pure_ (i:=26) (N:=some 63) (v:=?_) (a':=?_) #[true,true,true,true,true,true,true,true,true,true,true,true,true,true,true,true,true,true,true,true,true,true,true,true,true,true,true] rfl rfl (any_of HT_.out (by kernel_rfl)) (fun _ _ _ h=>h) (Or.inl ⟨by rfl,?_⟩) ?_ ?_
           rotate_left
           ·
            intro w'
            go_simp
            with_reducible rfl
           rotate_left
           ·
            simp only[pt_]
            rfl
           refine done_ (done_of HT_.out (by kernel_rfl)) ?_
           try go_wp2
           go_meet
           case rel=>exact ⟨_,(decide ((wrap64 (x6_1+(wrap64 ((wrap64 (5+(t209.size:Int)))+(t211.size:Int)))))≤a1)),(by first|rfl|(simp;done)|(simp[*];done)),H',⟨by have:=HK1.out;first|omega|exact Nat.le_refl _⟩,⟨by (with_reducible repeat (first|apply Kd.R_alloc|apply Kd.R_drewN|apply Kd.R_drew));exact HO_5.out⟩,⟨by (with_reducible repeat (first|refine blk_drewN ?_ _|refine blk_drew ?_|refine blk_alloc ?_ _));exact BK212.out⟩,⟨by repeat (first|exact upB HB.out|refine below_set ?_ GE212.out|apply pw_below_drewN)⟩⟩
          ·
           rw[if_neg c24] at H
           have c24b0:(Op.bytesLess (((rd_T58 x5_1 (ji21)).f0).toList) t209.toList)=false:=by simpa using c24
           clear c24
           have H':=Aside0.mk H
           clear H
           try go_wp2
           have n0_:Aside0 (Kd.R k58 58 ((w10.setCell ⟨gb212,0,none⟩ (.string t209)).setCell ⟨gb212,1,none⟩ (.string t211)) w.heap.size (fun k_=>k_≠gb212) u5 x5_1):=⟨by (with_reducible repeat (first|apply Kd.R_alloc|apply Kd.R_drewN|apply Kd.R_drew));exact Kd.R_mono (Kd.R_far (p:=⟨gb212,1,none⟩) (Kd.R_far (p:=⟨gb212,0,none⟩) (Kd.R_mono HO_5.out (fun k_ hk=>(⟨hk,hk⟩:_∧k_≠gb212))) (fun _ hk=>hk.2) (.string t209)) (fun _ hk=>hk.2) (.string t211)) (fun _ hk=>hk.1)⟩
           have n1_:Aside0 (((w10.setCell ⟨gb212,0,none⟩ (.string t209)).setCell ⟨gb212,1,none⟩ (.string t211)).heap[gb212]?=some (.cells #[.string t209,.string t211] 58 (0,0))):=⟨by (with_reducible repeat (first|refine blk_drewN ?_ _|refine blk_drew ?_|refine blk_alloc ?_ _));refine blk_put (cs:=#[.string t209,.string (⟨#[]⟩:ByteArray)]) ?_ 1 _ rfl;(with_reducible repeat (first|refine blk_drewN ?_ _|refine blk_drew ?_|refine blk_alloc ?_ _));refine blk_put (cs:=#[.string (⟨#[]⟩:ByteArray),.string (⟨#[]⟩:ByteArray)]) ?_ 0 _ rfl;(with_reducible repeat (first|refine blk_drewN ?_ _|refine blk_drew ?_|refine blk_alloc ?_ _));exact BK212.out⟩
           have n2_:Aside0 (Below w.heap.size w ((w10.setCell ⟨gb212,0,none⟩ (.string t209)).setCell ⟨gb212,1,none⟩ (.string t211))):=⟨by repeat (first|exact upB HB.out|refine below_set ?_ GE212.out|apply pw_below_drewN)⟩
           (try clear HO_5)
           (try clear BK212)
           (try clear HB)
           generalize ((w10.setCell ⟨gb212,0,none⟩ (.string t209)).setCell ⟨gb212,1,none⟩ (.string t211))=w28 at n0_ n1_ n2_ ⊢
           have HO_5:=n0_
           have BK212:=n1_
           have HB:=n2_
           clear n0_ n1_ n2_
           have n0_:=Aside0.mk (Kd.R_drew HO_5.out)
           have n1_:=Aside0.mk (blk_drew BK212.out)
           have n2_:=Aside0.mk (below_drew1 HB.out)
           clear HO_5
           clear BK212
           clear HB
           have HO_5:=n0_
           have BK212:=n1_
           have HB:=n2_
           clear n0_ n1_ n2_
           obtain⟨Ao30,co30,eo30⟩:=Kd.R_slice HO_5.out
           (first|subst eo30|(injection eo30 with f1_ f2_ f3_;have f4_:=f1_.symm;have f5_:=f3_.symm;clear f1_ f2_ f3_;subst f4_;subst f5_))
           have p213:0≤((ji21):Int):=of_decide_eq_true (by assumption)
           have q213:(ji21)<(x5_1.length:Int):=of_decide_eq_true (by assumption)
           obtain⟨ad213,e213,hx213_0,hx213_1⟩:=at_T58 (Kd.R_reads' HO_5.out).2.2 (ji21) p213 q213
           cases e213
           replace p213:=eq_true p213
           replace q213:=eq_true q213
           refine start_ (n:=27) (S:=fun w'=>w'.cell? ⟨gb212,0,none⟩=some (.string t209)∧w'.cell? ⟨gb212,1,none⟩=some (.string t211)∧w'.cell? (ad213.add (((ji21)).toNat*2))=some (.string ((rd_T58 x5_1 (ji21)).f0))∧w'.cell? ⟨(ad213.add (((ji21)).toNat*2)).block,(ad213.add (((ji21)).toNat*2)).off+1,none⟩=some (.string ((rd_T58 x5_1 (ji21)).f1))) (ds:=[]) #[false,false,false,false,false,false,false,false,false,false,false,false,false,false,false,false,false,false,false,false,false,false,false,false,false,false,false] (by kernel_rfl) rfl rfl ⟨(blk_cell BK212.out 0).trans rfl,(blk_cell BK212.out 1).trans rfl,hx213_0,hx213_1⟩ (fun hHeld=>?_);refine with_tabW copselaw7_rising.tab8 copselaw7_rising.bits8 (fun HT_ HW_=>?_)
           generalize w28.drew=w29 at HO_5 BK212 HB hx213_0 hx213_1 hHeld ⊢
           refine pure_ (i:=0) (N:=some 37) (v:=?_) (a':=?_) #[true,false,false,false,false,false,false,false,false,false,false,false,false,false,false,false,false,false,false,false,false,false,false,false,false,false,false] rfl rfl (any_of HT_.out (by kernel_rfl)) (fun _ _ _ h=>h) (Or.inl ⟨by rfl,?_⟩) ?_ ?_
           rotate_left
           ·
            intro w'
            go_simp
            with_reducible rfl
           rotate_left
           ·
            simp only[pt_]
            rfl
           refine take_ (i:=1) (N:=some 38) (v:=?_) (a':=?_) #[true,true,false,false,false,false,false,false,false,false,false,false,false,false,false,false,false,false,false,false,false,false,false,false,false,false,false] rfl rfl (take_ofW HT_.out HW_.out (by kernel_rfl)) (fun _ _ _ h=>h) (Or.inl ⟨by rfl,?_⟩) hHeld ?_ ?_
           rotate_left
           ·
            rintro w' ⟨s0,s1,s2,s3⟩
            go_simp
            with_reducible rfl
           rotate_left
           ·
            simp only[pt_]
            rfl
           refine pure_ (i:=2) (N:=some 39) (v:=?_) (a':=?_) #[true,true,true,false,false,false,false,false,false,false,false,false,false,false,false,false,false,false,false,false,false,false,false,false,false,false,false] rfl rfl (any_of HT_.out (by kernel_rfl)) (fun _ _ _ h=>h) (Or.inl ⟨by rfl,?_⟩) ?_ ?_
           rotate_left
           ·
            intro w'
            go_simp
            with_reducible rfl
           rotate_left
           ·
            simp only[pt_]
            rfl
           refine pure_ (i:=3) (N:=some 40) (v:=?_) (a':=?_) #[true,true,true,true,false,false,false,false,false,false,false,false,false,false,false,false,false,false,false,false,false,false,false,false,false,false,false] rfl rfl (any_of HT_.out (by kernel_rfl)) (fun _ _ _ h=>h) (Or.inl ⟨by rfl,?_⟩) ?_ ?_
           rotate_left
           ·
            intro w'
            go_simp
            with_reducible rfl
           rotate_left
           ·
            simp only[pt_]
            rfl
           refine pure_ (i:=4) (N:=some 41) (v:=?_) (a':=?_) #[true,true,true,true,true,false,false,false,false,false,false,false,false,false,false,false,false,false,false,false,false,false,false,false,false,false,false] rfl rfl (any_of HT_.out (by kernel_rfl)) (fun _ _ _ h=>h) (Or.inl ⟨by rfl,?_⟩) ?_ ?_
           rotate_left
           ·
            intro w'
            go_simp
            with_reducible rfl
           rotate_left
           ·
            simp only[pt_]
            rfl
           refine pure_ (i:=5) (N:=some 42) (v:=?_) (a':=?_) #[true,true,true,true,true,true,false,false,false,false,false,false,false,false,false,false,false,false,false,false,false,false,false,false,false,false,false] rfl rfl (any_of HT_.out (by kernel_rfl)) (fun _ _ _ h=>h) (Or.inl ⟨by rfl,?_⟩) ?_ ?_
           rotate_left
           ·
            intro w'
            go_simp
            with_reducible rfl
           rotate_left
           ·
            simp only[pt_]
            rfl
           refine pure_ (i:=6) (N:=some 43) (v:=?_) (a':=?_) #[true,true,true,true,true,true,true,false,false,false,false,false,false,false,false,false,false,false,false,false,false,false,false,false,false,false,false] rfl rfl (any_of HT_.out (by kernel_rfl)) (fun _ _ _ h=>h) (Or.inl ⟨by rfl,?_⟩) ?_ ?_
           rotate_left
           ·
            intro w'
            go_simp
            with_reducible rfl
           rotate_left
           ·
            simp only[pt_]
            rfl
           refine pure_ (i:=7) (N:=some 44) (v:=?_) (a':=?_) #[true,true,true,true,true,true,true,true,false,false,false,false,false,false,false,false,false,false,false,false,false,false,false,false,false,false,false] rfl rfl (any_of HT_.out (by kernel_rfl)) (fun _ _ _ h=>h) (Or.inl ⟨by rfl,?_⟩) ?_ ?_
           rotate_left
           ·
            intro w'
            go_simp
            with_reducible rfl
           rotate_left
           ·
            simp only[pt_]
            rfl
           refine pure_ (i:=8) (N:=some 45) (v:=?_) (a':=?_) #[true,true,true,true,true,true,true,true,true,false,false,false,false,false,false,false,false,false,false,false,false,false,false,false,false,false,false] rfl rfl (any_of HT_.out (by kernel_rfl)) (fun _ _ _ h=>h) (Or.inl ⟨by rfl,?_⟩) ?_ ?_
           rotate_left
           ·
            intro w'
            go_simp
            with_reducible rfl
           rotate_left
           ·
            simp only[pt_]
            rfl
           refine pure_ (i:=9) (N:=some 46) (v:=?_) (a':=?_) #[true,true,true,true,true,true,true,true,true,true,false,false,false,false,false,false,false,false,false,false,false,false,false,false,false,false,false] rfl rfl (any_of HT_.out (by kernel_rfl)) (fun _ _ _ h=>h) (Or.inl ⟨by rfl,?_⟩) ?_ ?_
           rotate_left
           ·
            intro w'
            go_simp
            with_reducible rfl
           rotate_left
           ·
            simp only[pt_]
            rfl
           refine pure_ (i:=10) (N:=some 47) (v:=?_) (a':=?_) #[true,true,true,true,true,true,true,true,true,true,true,false,false,false,false,false,false,false,false,false,false,false,false,false,false,false,false] rfl rfl (any_of HT_.out (by kernel_rfl)) (fun _ _ _ h=>h) (Or.inl ⟨by rfl,?_⟩) ?_ ?_
           rotate_left
           ·
            intro w'
            go_simp
            with_reducible rfl
           rotate_left
           ·
            simp only[pt_]
            rfl
           refine pure_ (i:=11) (N:=some 48) (v:=?_) (a':=?_) #[true,true,true,true,true,true,true,true,true,true,true,true,false,false,false,false,false,false,false,false,false,false,false,false,false,false,false] rfl rfl (any_of HT_.out (by kernel_rfl)) (fun _ _ _ h=>h) (Or.inl ⟨by rfl,?_⟩) ?_ ?_
           rotate_left
           ·
            intro w'
            go_simp
            with_reducible rfl
           rotate_left
           ·
            simp only[pt_]
            rfl
           refine pure_ (i:=12) (N:=some 49) (v:=?_) (a':=?_) #[true,true,true,true,true,true,true,true,true,true,true,true,true,false,false,false,false,false,false,false,false,false,false,false,false,false,false] rfl rfl (any_of HT_.out (by kernel_rfl)) (fun _ _ _ h=>h) (Or.inl ⟨by rfl,?_⟩) ?_ ?_
           rotate_left
           ·
            intro w'
            go_simp
            with_reducible rfl
           rotate_left
           ·
            simp only[pt_]
            rfl
           refine pure_ (i:=13) (N:=some 50) (v:=?_) (a':=?_) #[true,true,true,true,true,true,true,true,true,true,true,true,true,true,false,false,false,false,false,false,false,false,false,false,false,false,false] rfl rfl (any_of HT_.out (by kernel_rfl)) (fun _ _ _ h=>h) (Or.inl ⟨by rfl,?_⟩) ?_ ?_
           rotate_left
           ·
            intro w'
            go_simp
            with_reducible rfl
           rotate_left
           ·
            simp only[pt_]
            rfl
           refine pure_ (i:=15) (N:=some 52) (v:=?_) (a':=?_) #[true,true,true,true,true,true,true,true,true,true,true,true,true,true,false,true,false,false,false,false,false,false,false,false,false,false,false] rfl rfl (any_of HT_.out (by kernel_rfl)) (fun _ _ _ h=>h) (Or.inl ⟨by rfl,?_⟩) ?_ ?_
           rotate_left
           ·
            intro w'
            go_simp
            with_reducible rfl
           rotate_left
           ·
            simp only[pt_]
            rfl
           refine take_ (i:=14) (N:=some 51) (v:=?_) (a':=?_) #[true,true,true,true,true,true,true,true,true,true,true,true,true,true,true,true,false,false,false,false,false,false,false,false,false,false,false] rfl rfl (take_ofW HT_.out HW_.out (by kernel_rfl)) (fun _ _ _ h=>h) (Or.inl ⟨by rfl,?_⟩) hHeld ?_ ?_
           rotate_left
           ·
            rintro w' ⟨s0,s1,s2,s3⟩
            go_simp
            with_reducible rfl
           rotate_left
           ·
            simp only[pt_]
            rfl
           refine take_ (i:=16) (N:=some 53) (v:=?_) (a':=?_) #[true,true,true,true,true,true,true,true,true,true,true,true,true,true,true,true,true,false,false,false,false,false,false,false,false,false,false] rfl rfl (take_ofW HT_.out HW_.out (by kernel_rfl)) (fun _ _ _ h=>h) (Or.inl ⟨by rfl,?_⟩) hHeld ?_ ?_
           rotate_left
           ·
            rintro w' ⟨s0,s1,s2,s3⟩
            go_simp
            with_reducible rfl
           rotate_left
           ·
            simp only[pt_]
            rfl
           refine pure_ (i:=17) (N:=some 54) (v:=?_) (a':=?_) #[true,true,true,true,true,true,true,true,true,true,true,true,true,true,true,true,true,true,false,false,false,false,false,false,false,false,false] rfl rfl (any_of HT_.out (by kernel_rfl)) (fun _ _ _ h=>h) (Or.inl ⟨by rfl,?_⟩) ?_ ?_
           rotate_left
           ·
            intro w'
            go_simp
            with_reducible rfl
           rotate_left
           ·
            simp only[pt_]
            rfl
           refine pure_ (i:=18) (N:=some 55) (v:=?_) (a':=?_) #[true,true,true,true,true,true,true,true,true,true,true,true,true,true,true,true,true,true,true,false,false,false,false,false,false,false,false] rfl rfl (any_of HT_.out (by kernel_rfl)) (fun _ _ _ h=>h) (Or.inl ⟨by rfl,?_⟩) ?_ ?_
           rotate_left
           ·
            intro w'
            go_simp
            with_reducible rfl
           rotate_left
           ·
            simp only[pt_]
            rfl
           refine pure_ (i:=19) (N:=some 56) (v:=?_) (a':=?_) #[true,true,true,true,true,true,true,true,true,true,true,true,true,true,true,true,true,true,true,true,false,false,false,false,false,false,false] rfl rfl (any_of HT_.out (by kernel_rfl)) (fun _ _ _ h=>h) (Or.inl ⟨by rfl,?_⟩) ?_ ?_
           rotate_left
           ·
            intro w'
            go_simp
            with_reducible rfl
           rotate_left
           ·
            simp only[pt_]
            rfl
           refine pure_ (i:=20) (N:=some 57) (v:=?_) (a':=?_) #[true,true,true,true,true,true,true,true,true,true,true,true,true,true,true,true,true,true,true,true,true,false,false,false,false,false,false] rfl rfl (any_of HT_.out (by kernel_rfl)) (fun _ _ _ h=>h) (Or.inl ⟨by rfl,?_⟩) ?_ ?_
           rotate_left
           ·
            intro w'
            go_simp
            with_reducible rfl
           rotate_left
           ·
            simp only[pt_]
            rfl
           refine pure_ (i:=21) (N:=some 58) (v:=undef) (a':=?_) #[true,true,true,true,true,true,true,true,true,true,true,true,true,true,true,true,true,true,true,true,true,true,false,false,false,false,false] rfl rfl (any_of HT_.out (by kernel_rfl)) (fun _ _ _ h=>h) (Or.inr ⟨by rfl,rfl⟩) ?_ ?_
           rotate_left
           ·
            simp only[pt_]
            rfl
           refine pure_ (i:=22) (N:=some 59) (v:=undef) (a':=?_) #[true,true,true,true,true,true,true,true,true,true,true,true,true,true,true,true,true,true,true,true,true,true,true,false,false,false,false] rfl rfl (any_of HT_.out (by kernel_rfl)) (fun _ _ _ h=>h) (Or.inr ⟨by rfl,rfl⟩) ?_ ?_
           rotate_left
           ·
            simp only[pt_]
            rfl
           refine pure_ (i:=23) (N:=some 60) (v:=undef) (a':=?_) #[true,true,true,true,true,true,true,true,true,true,true,true,true,true,true,true,true,true,true,true,true,true,true,true,false,false,false] rfl rfl (any_of HT_.out (by kernel_rfl)) (fun _ _ _ h=>h) (Or.inr ⟨by rfl,rfl⟩) ?_ ?_
           rotate_left
           ·
            simp only[pt_]
            rfl
           refine pure_ (i:=24) (N:=some 61) (v:=undef) (a':=?_) #[true,true,true,true,true,true,true,true,true,true,true,true,true,true,true,true,true,true,true,true,true,true,true,true,true,false,false] rfl rfl (any_of HT_.out (by kernel_rfl)) (fun _ _ _ h=>h) (Or.inr ⟨by rfl,rfl⟩) ?_ ?_
           rotate_left
           ·
            simp only[pt_]
            rfl
           refine pure_ (i:=25) (N:=some 62) (v:=undef) (a':=?_) #[true,true,true,true,true,true,true,true,true,true,true,true,true,true,true,true,true,true,true,true,true,true,true,true,true,true,false] rfl rfl (any_of HT_.out (by kernel_rfl)) (fun _ _ _ h=>h) (Or.inr ⟨by rfl,rfl⟩) ?_ ?_
           rotate_left
           ·
            simp only[pt_]
            rfl
           refine pure_ (i:=26) (N:=some 63) (v:=?_) (a':=?_) #[true,true,true,true,true,true,true,true,true,true,true,true,true,true,true,true,true,true,true,true,true,true,true,true,true,true,true] rfl rfl (any_of HT_.out (by kernel_rfl)) (fun _ _ _ h=>h) (Or.inl ⟨by rfl,?_⟩) ?_ ?_
           rotate_left
           ·
            intro w'
            go_simp
            with_reducible rfl
           rotate_left
           ·
            simp only[pt_]
            rfl
           refine done_ (done_of HT_.out (by kernel_rfl)) ?_
           try go_wp2
           go_meet
           case rel=>exact ⟨_,(false),(by first|rfl|(simp;done)|(simp[*];done)),H',⟨by have:=HK1.out;first|omega|exact Nat.le_refl _⟩,⟨by (with_reducible repeat (first|apply Kd.R_alloc|apply Kd.R_drewN|apply Kd.R_drew));exact HO_5.out⟩,⟨by (with_reducible repeat (first|refine blk_drewN ?_ _|refine blk_drew ?_|refine blk_alloc ?_ _));exact BK212.out⟩,⟨by repeat (first|exact upB HB.out|refine below_set ?_ GE212.out|apply pw_below_drewN)⟩⟩
         ·
          rw[if_neg c23] at H
          exact absurd H (by simp)
        ·
         rw[if_neg c22] at H
         exact absurd H (by simp)
     case rest=>
      clear HC7
      try clear c1
      try clear c2
      try clear p2
      try clear q2
      try clear hx2
      try clear p6
      try clear c17
      try clear c17b0
      try clear c17b1
      try clear c17b2
      try clear p21
      try clear q21
      try clear hx21
      try clear c22
      try clear c22b0
      try clear c23
      try clear c23b0
      try clear c24
      try clear c24b0
      try clear hx213_0
      try clear hx213_1
      try clear p213
      try clear q213
      obtain⟨kq,x63_6,rfl,HA,HJ6,HO_5,BK212,HB⟩:=hcut
      cases kq with
      |zero=>exact absurd HA.out (by simp[copselaw7_rising.j1])
      |succ kj6=>
       have H:=HA.out
       clear HA
       simp only[copselaw7_rising.j1] at H
       by_cases c31:x63_6=true
       ·
        subst c31
        have H1:(if x5_1.length<4398046511104 then (copselaw7_rising.l0 kj6 l0 a1 (x5_1++[(⟨t209,t211⟩:S58)]) (wrap64 (x6_1+(wrap64 ((wrap64 (5+(t209.size:Int)))+(t211.size:Int))))) (wrap64 (x7_1+1))) else (none))=some r:=by rw[if_pos rfl] at H;exact H
        clear H
        have H:=H1
        clear H1
        by_cases c32:x5_1.length<4398046511104
        ·
         rw[if_pos c32] at H
         have LMc32:=Aside0.mk c32
         clear c32
         obtain⟨y214,hy214⟩ : ∃ y_:List (S58),y_=(x5_1++[(⟨t209,t211⟩:S58)]):=⟨_,rfl⟩
         replace H:(copselaw7_rising.l0 kj6 l0 a1 y214 (wrap64 (x6_1+(wrap64 ((wrap64 (5+(t209.size:Int)))+(t211.size:Int))))) (wrap64 (x7_1+1)))=some r:=by first|(rw[hy214];with_reducible exact H)|(have H2_:=(Option.bind_some _ _).symm.trans H;rw[hy214];with_reducible exact H2_)|(have H2_:=(Option.bind_some _ _).symm.trans H;with_reducible exact H2_)|with_reducible exact H|(rw[hy214];exact H)|exact H
         have Ny214:=Aside0.mk hy214
         clear hy214
         have H':=Aside0.mk H
         clear H
         have hcz33_0:wc.cell? ⟨gb212,0,none⟩=some (.string t209):=(blk_cell BK212.out 0).trans rfl
         have hcz33_1:wc.cell? ⟨gb212,1,none⟩=some (.string t211):=(blk_cell BK212.out 1).trans rfl
         have hfz33_0:=blk_frozen BK212.out 0
         have hfz33_1:=blk_frozen BK212.out 1
         go_wp2_with (first|((with_reducible refine gate_builtin (b:=.append) (xs:=#[.tmp 64,.tmp 66]) rfl ?_);(try (refine gate_guard (by rfl) ?_;dsimp only));at_builtin;refine Kd.R_append k58 (w0:=w) w.heap.size rfl (.tmp 64) (.tmp 66) 22 58 (.agg #[(.string ⟨#[]⟩),(.string ⟨#[]⟩)]) 32 rfl Tryd.underlying22 info58 rfl (by decide) (by omega) u5 x5_1 (⟨t209,t211⟩:S58) [.string t209,.string t211] (fun k_=>k_≠gb212) (fun _=>False) rfl rfl ?aP (fun _ hk=>hk.elim) ?aF ?aO ?aB ?aS ?aL ?_;(case aP=>exact k58_mkM _ _ _ (⟨t209,t211⟩:S58));(case aB=>exact (by repeat (first|exact upB HB.out|refine below_set ?_ GE212.out)));(case aF=>exact (fun k_ hk=>Kd.freshB (g:=gb212) (o:=.cells #[.string t209,.string t211] 58 (0,0)) (upX BK212.out) k_ hk));(case aO=>exact (upK HO_5.out));(case aS=>exact (below_size (by repeat (first|exact upB HB.out|refine below_set ?_ GE212.out))));(case aL=>have:=LMc32.out;omega);intro v215 w34 ho hb hg hat;rw[←Ny214.out] at ho;have n0_:=Aside0.mk (blk_grown (g:=gb212) (o:=.cells #[.string t209,.string t211] 58 (0,0)) (upX BK212.out) hg (Kd.R_away HO_5.out (fun _ hk=>hk)));have n1_:=Aside0.mk (hb);have n2_:=Aside0.mk (ho);clear BK212;clear HB;clear HO_5;have BK212:=n0_;have HB:=n1_;have HO216:=n2_;clear n0_ n1_ n2_;clear ho hb hg hat))
         go_roundg kj6
         case measure=>have:=HK1.out;have:=HJ6.out;omega
         case rel=>exact ⟨(y214),(wrap64 (x6_1+(wrap64 ((wrap64 (5+(t209.size:Int)))+(t211.size:Int))))),(wrap64 (x7_1+1)),(by first|rfl|(simp;done)|(simp[*];done)),(by first|rfl|(simp;done)|(simp[*];done)),H',⟨by have:=HK1.out;have:=HJ6.out;omega⟩,⟨by exact Kd.R_mono (upK HO216.out) (fun _ hk=>trivial)⟩,⟨by repeat (first|exact upB HB.out|refine below_set ?_ GE212.out|apply pw_below_drewN)⟩⟩
        ·
         rw[if_neg c32] at H
         exact absurd H (by simp)
       ·
        replace c31:=Bool.eq_false_iff.mpr c31
        subst c31
        have H1:(copselaw7_rising.l0 kj6 l0 a1 x5_1 x6_1 (wrap64 (x7_1+1)))=some r:=by rw[if_neg (show ¬ (false=true) by decide)] at H;exact H
        clear H
        have H:=H1
        clear H1
        have H':=Aside0.mk H
        clear H
        go_wp2
        go_roundg kj6
        case measure=>have:=HK1.out;have:=HJ6.out;omega
        case rel=>exact ⟨(x5_1),(x6_1),(wrap64 (x7_1+1)),(by first|rfl|(simp;done)|(simp[*];done)),(by first|rfl|(simp;done)|(simp[*];done)),H',⟨by have:=HK1.out;have:=HJ6.out;omega⟩,⟨by exact Kd.R_mono (upK HO_5.out) (fun _ hk=>trivial)⟩,⟨by repeat (first|exact upB HB.out|refine below_set ?_ GE212.out|apply pw_below_drewN)⟩⟩
    ·
     rw[if_neg c4] at H
     exact absurd H (by simp)
   ·
    rw[if_neg c3] at H
    have c3b0:decide (x7_1<(l0.length:Int))=false:=decide_eq_false c3
    clear c3
    obtain rfl:=Option.some.inj H
    go_wp2
    go_ret
    exact ⟨_,by first|rfl|(simp[errW_none,errW_some] <;> rfl)|(simp[*,errW_none,errW_some] <;> rfl),by (with_reducible repeat (first|apply Kd.R_alloc|apply Kd.R_drewN|apply Kd.R_drew));exact HO_5.out,upB HB.out⟩

end Go.Proofs.YtdailhlghlledaaDoor.XLeafNew
