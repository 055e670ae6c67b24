-- Printed for this claim by a program (wip/printx) that builds on the kit's print. Not trusted: Lean checks it.
-- slim
import Derived.Test.YtdailhlghlledaaDoorXLeafNewx0
import Derived.Test.YtdailhlghlledaaDoorXLeafNewx1
namespace Go.Proofs.YtdailhlghlledaaDoor.XLeafNew
open Go.RowKit Go.Proofs.YtdailhlghlledaaDoorW.PrintWords Go.Proofs.YtdailhlghlledaaDoorW.PrintLast Go.Proofs.YtdailhlghlledaaDoorW.PrintMore
attribute [local go_sem] max2_int min2_int max_two min_two max_three min_three max_four min_four   -- for this text's walks alone
set_option linter.unusedVariables false
set_option linter.unusedSimpArgs false

attribute [local go_sem high] eqA58
/-! ### copseref0_SamePairs: function 20 -/
def copseref0_SamePairs.l0:Nat→List (S58)→List (S58)→Int→Option (Bool)
 |0,_,_,_=>none
 |k+1,x0,x1,x5=>if x5<(x0.length:Int) then (if 0≤x5 then (if x5<(x1.length:Int) then (if (!((((rd_T58 x0 x5).f0).toList)==(((rd_T58 x1 x5).f0).toList)) || (!((((rd_T58 x0 x5).f1).toList)==(((rd_T58 x1 x5).f1).toList))))=true then (some false) else (copseref0_SamePairs.l0 k x0 x1 (wrap64 (x5+1)))) else (none)) else (none)) else (some true)
def copseref0_SamePairs.f (k:Nat) (l0:List (S58)) (l1:List (S58)):Option (Bool):=if (l0.length:Int)=(l1.length:Int) then (copseref0_SamePairs.l0 k l0 l1 0) else (some false)
theorem copseref0_SamePairs.mono_l : ∀ k,(∀ y0 y1 y2,LeO (copseref0_SamePairs.l0 k y0 y1 y2) (copseref0_SamePairs.l0 (k+1) y0 y1 y2))
 |0=>fun _ _ _ r h=>by simp[copseref0_SamePairs.l0] at h
 |k+1=>by
  have ih0:=copseref0_SamePairs.mono_l k
  ·
   intro y0 y1 y2
   unfold copseref0_SamePairs.l0
   repeat' first
   |(with_reducible exact ih0 _ _ _)
   |(with_reducible exact LeO.refl _)
   |(with_reducible exact LeO.none _)
   |(with_reducible refine LeO.ite ?_ ?_)
   |(with_reducible refine LeO.bind ?_ (fun _=>?_))
   |exact ih0 _ _ _
   |exact LeO.none _
   |refine LeO.ite ?_ ?_
   |refine LeO.bind ?_ (fun _=>?_)
theorem copseref0_SamePairs.mono : ∀ a0 a1 k,LeO (copseref0_SamePairs.f k a0 a1) (copseref0_SamePairs.f (k+1) a0 a1):=by
 intro a0 a1 k
 have ih0:=copseref0_SamePairs.mono_l k
 unfold copseref0_SamePairs.f
 repeat' first
   |(with_reducible exact ih0 _ _ _)
   |(with_reducible exact LeO.refl _)
   |(with_reducible exact LeO.none _)
   |(with_reducible refine LeO.ite ?_ ?_)
   |(with_reducible refine LeO.bind ?_ (fun _=>?_))
   |exact ih0 _ _ _
   |exact LeO.none _
   |refine LeO.ite ?_ ?_
   |refine LeO.bind ?_ (fun _=>?_)
set_option maxHeartbeats 8000000 in
set_option maxRecDepth 100000 in
theorem copseref0_SamePairs.calls (k:Nat) (A0:Option Addr) (c0:Nat) (l0:List (S58)) (A1:Option Addr) (c1:Nat) (l1:List (S58)) (r:Bool) (w:World) (hr0:Kd.C k58 w A0 l0.length l0) (hc0:l0.length≤c0) (hr1:Kd.C k58 w A1 l1.length l1) (hc1:l1.length≤c1) (h:copseref0_SamePairs.f k l0 l1=some r) :
  Calls Tryd.prog 20 #[.slice A0 l0.length c0,.slice A1 l1.length c1] w fun e w'=>e=.returned (.bool r)∧Drawn0 w w':=by
 have hu58:=Tryd.underlying58
 have HR0:=Aside0.mk hr0
 have HC0:=Aside0.mk hc0
 clear hr0 hc0
 have HR1:=Aside0.mk hr1
 have HC1:=Aside0.mk hc1
 clear hr1 hc1
 have H:(if (l0.length:Int)=(l1.length:Int) then (copseref0_SamePairs.l0 k l0 l1 0) else (some false))=some r:=h
 clear h
 by_cases c3:(l0.length:Int)=(l1.length:Int)
 ·
  rw[if_pos c3] at H
  have c3b0:((l0.length:Int)==(l1.length:Int))=true:=beq_iff_eq.mpr c3
  have c3b1:((l0.length:Int) != (l1.length:Int))=false:=bne_eq_false_iff_eq.mpr c3
  have c3b2:(l0.length==l1.length)=true:=by first|simpa using c3|(simp at c3 ⊢;omega)
  clear c3
  have H':=Aside0.mk H
  clear H
  go_enter Tryd.func20,Tryd.ntmps20
  go_wp2
  repeat (go_quiet (fail);try go_wp2)
  go_loopg [5] k (fun kq v5 w'=>∃ (x5_1:Int),v5=.int .i64 x5_1∧Aside0 (copseref0_SamePairs.l0 kq l0 l1 x5_1=some r)∧Aside0 (kq≤k)∧Drawn0 w w')
  case atStart=>exact ⟨(0),(by first|rfl|(simp;done)|(simp[*];done)),H',⟨Nat.le_refl _⟩,by repeat (first|exact Drawn0.refl _|apply Drawn0.step)⟩
  case round=>
   clear H'
   try clear c1
   try clear c2
   try clear p2
   try clear c3
   try clear c3b0
   try clear c3b1
   try clear c3b2
   obtain⟨x5_1,rfl,HA,HK1,⟨m1,rfl⟩⟩:=hrel
   cases gk with
   |zero=>exact absurd HA.out (by simp[copseref0_SamePairs.l0])
   |succ k1=>
    have H:=HA.out
    clear HA
    simp only[copseref0_SamePairs.l0] at H
    by_cases c4:x5_1<(l0.length:Int)
    ·
     rw[if_pos c4] at H
     have c4b0:decide (x5_1<(l0.length:Int))=true:=decide_eq_true c4
     clear c4
     by_cases c5:0≤x5_1
     ·
      rw[if_pos c5] at H
      have c5b0:decide (0≤x5_1)=true:=decide_eq_true c5
      clear c5
      by_cases c6:x5_1<(l1.length:Int)
      ·
       rw[if_pos c6] at H
       have c6b0:decide (x5_1<(l1.length:Int))=true:=decide_eq_true c6
       clear c6
       by_cases c7:(!((((rd_T58 l0 x5_1).f0).toList)==(((rd_T58 l1 x5_1).f0).toList)) || (!((((rd_T58 l0 x5_1).f1).toList)==(((rd_T58 l1 x5_1).f1).toList))))=true
       ·
        rw[if_pos c7] at H
        have c7b0:(!((((rd_T58 l0 x5_1).f0).toList)==(((rd_T58 l1 x5_1).f0).toList)) || (!((((rd_T58 l0 x5_1).f1).toList)==(((rd_T58 l1 x5_1).f1).toList))))=true:=c7
        clear c7
        obtain rfl:=Option.some.inj H
        have p303:0≤(x5_1:Int):=of_decide_eq_true (by assumption)
        have q303:x5_1<(l0.length:Int):=of_decide_eq_true (by assumption)
        obtain⟨ad303,e303,hx303_0,hx303_1⟩:=at_T58 HR0.out x5_1 p303 q303
        cases e303
        replace p303:=eq_true p303
        replace q303:=eq_true q303
        have p304:0≤(x5_1:Int):=of_decide_eq_true (by assumption)
        have q304:x5_1<(l1.length:Int):=of_decide_eq_true (by assumption)
        obtain⟨ad304,e304,hx304_0,hx304_1⟩:=at_T58 HR1.out x5_1 p304 q304
        cases e304
        replace p304:=eq_true p304
        replace q304:=eq_true q304
        go_wp2
        repeat (go_quiet (fail);try go_wp2)
        go_ret
        exact ⟨by first|rfl|(simp;done)|(simp[*];done),by repeat (first|exact Drawn0.refl _|apply Drawn0.step)⟩
       ·
        rw[if_neg c7] at H
        have c7b0:(!((((rd_T58 l0 x5_1).f0).toList)==(((rd_T58 l1 x5_1).f0).toList)) || (!((((rd_T58 l0 x5_1).f1).toList)==(((rd_T58 l1 x5_1).f1).toList))))=false:=by simpa using c7
        clear c7
        have H':=Aside0.mk H
        clear H
        have p303:0≤(x5_1:Int):=of_decide_eq_true (by assumption)
        have q303:x5_1<(l0.length:Int):=of_decide_eq_true (by assumption)
        obtain⟨ad303,e303,hx303_0,hx303_1⟩:=at_T58 HR0.out x5_1 p303 q303
        cases e303
        replace p303:=eq_true p303
        replace q303:=eq_true q303
        have p304:0≤(x5_1:Int):=of_decide_eq_true (by assumption)
        have q304:x5_1<(l1.length:Int):=of_decide_eq_true (by assumption)
        obtain⟨ad304,e304,hx304_0,hx304_1⟩:=at_T58 HR1.out x5_1 p304 q304
        cases e304
        replace p304:=eq_true p304
        replace q304:=eq_true q304
        go_wp2
        repeat (go_quiet (fail);try go_wp2)
        go_roundg k1
        case measure=>have:=HK1.out;omega
        case rel=>exact ⟨(wrap64 (x5_1+1)),(by first|rfl|(simp;done)|(simp[*];done)),H',⟨by have:=HK1.out;omega⟩,by repeat (first|exact Drawn0.refl _|apply Drawn0.step)⟩
      ·
       rw[if_neg c6] at H
       exact absurd H (by simp)
     ·
      rw[if_neg c5] at H
      exact absurd H (by simp)
    ·
     rw[if_neg c4] at H
     have c4b0:decide (x5_1<(l0.length:Int))=false:=decide_eq_false c4
     clear c4
     obtain rfl:=Option.some.inj H
     go_wp2
     repeat (go_quiet (fail);try go_wp2)
     go_ret
     exact ⟨by first|rfl|(simp;done)|(simp[*];done),by repeat (first|exact Drawn0.refl _|apply Drawn0.step)⟩
 ·
  rw[if_neg c3] at H
  have c3b0:((l0.length:Int)==(l1.length:Int))=false:=beq_eq_false_iff_ne.mpr c3
  have c3b1:((l0.length:Int) != (l1.length:Int))=true:=bne_iff_ne.mpr c3
  have c3b2:(l0.length==l1.length)=false:=by first|simpa using c3|(simp at c3 ⊢;omega)
  obtain rfl:=Option.some.inj H
  go_enter Tryd.func20,Tryd.ntmps20
  go_wp2
  repeat (go_quiet (fail);try go_wp2)
  go_ret
  exact ⟨by first|rfl|(simp;done)|(simp[*];done),by repeat (first|exact Drawn0.refl _|apply Drawn0.step)⟩

/-! ### copseref1_Put: function 64 -/
mutual
def copseref1_Put.j0:Nat→Int→Int→Bool→Option (List Int×Int)
 |0,_,_,_=>none
 |k+1,x0,x1,x25=>if x25=true then (some (([]:List Int),1)) else (copseref1_Put.l0 k x0 ([]:List Int) (wrap64 (x1 - 1)))
def copseref1_Put.l0:Nat→Int→List Int→Int→Option (List Int×Int)
 |0,_,_,_=>none
 |k+1,x0,x6,x7=>if x7≥0 then (if 0≤(IntKind.u64.wrap (wrap64 (8*x7))) then (if x6.length<140737488355328 then (copseref1_Put.l0 k x0 (x6++[(shr .u64 x0 (IntKind.u64.wrap (wrap64 (8*x7)))) % 256]) (wrap64 (x7 - 1))) else (none)) else (none)) else (some (x6,0))
end
def copseref1_Put.f (k:Nat) (a0:Int) (a1:Int):Option (List Int×Int):=if a1<1 then (copseref1_Put.j0 k a0 a1 true) else (if a1 > 8 then (copseref1_Put.j0 k a0 a1 true) else (if a1<8 then (if 0≤(IntKind.u64.wrap (wrap64 (8*a1))) then (copseref1_Put.j0 k a0 a1 ((shr .u64 a0 (IntKind.u64.wrap (wrap64 (8*a1)))) != 0)) else (none)) else (copseref1_Put.j0 k a0 a1 false)))
theorem copseref1_Put.mono_l : ∀ k,(∀ y0 y1 y2,LeO (copseref1_Put.j0 k y0 y1 y2) (copseref1_Put.j0 (k+1) y0 y1 y2))∧(∀ y0 y1 y2,LeO (copseref1_Put.l0 k y0 y1 y2) (copseref1_Put.l0 (k+1) y0 y1 y2))
 |0=>⟨fun _ _ _ r h=>by simp[copseref1_Put.j0] at h,fun _ _ _ r h=>by simp[copseref1_Put.l0] at h⟩
 |k+1=>by
  obtain⟨ih0,ih1⟩:=copseref1_Put.mono_l k
  refine ⟨?_,?_⟩
  ·
   intro y0 y1 y2
   unfold copseref1_Put.j0
   repeat' first
   |(with_reducible exact ih0 _ _ _)
   |(with_reducible exact ih1 _ _ _)
   |(with_reducible exact LeO.refl _)
   |(with_reducible exact LeO.none _)
   |(with_reducible refine LeO.ite ?_ ?_)
   |(with_reducible refine LeO.bind ?_ (fun _=>?_))
   |exact ih0 _ _ _
   |exact ih1 _ _ _
   |exact LeO.none _
   |refine LeO.ite ?_ ?_
   |refine LeO.bind ?_ (fun _=>?_)
  ·
   intro y0 y1 y2
   unfold copseref1_Put.l0
   repeat' first
   |(with_reducible exact ih0 _ _ _)
   |(with_reducible exact ih1 _ _ _)
   |(with_reducible exact LeO.refl _)
   |(with_reducible exact LeO.none _)
   |(with_reducible refine LeO.ite ?_ ?_)
   |(with_reducible refine LeO.bind ?_ (fun _=>?_))
   |exact ih0 _ _ _
   |exact ih1 _ _ _
   |exact LeO.none _
   |refine LeO.ite ?_ ?_
   |refine LeO.bind ?_ (fun _=>?_)
theorem copseref1_Put.mono : ∀ a0 a1 k,LeO (copseref1_Put.f k a0 a1) (copseref1_Put.f (k+1) a0 a1):=by
 intro a0 a1 k
 obtain⟨ih0,ih1⟩:=copseref1_Put.mono_l k
 unfold copseref1_Put.f
 repeat' first
   |(with_reducible exact ih0 _ _ _)
   |(with_reducible exact ih1 _ _ _)
   |(with_reducible exact LeO.refl _)
   |(with_reducible exact LeO.none _)
   |(with_reducible refine LeO.ite ?_ ?_)
   |(with_reducible refine LeO.bind ?_ (fun _=>?_))
   |exact ih0 _ _ _
   |exact ih1 _ _ _
   |exact LeO.none _
   |refine LeO.ite ?_ ?_
   |refine LeO.bind ?_ (fun _=>?_)
set_option maxHeartbeats 8000000 in
set_option maxRecDepth 100000 in
theorem copseref1_Put.calls (k:Nat) (a0:Int) (a1:Int) (r1:List Int) (r2:Int) (w:World) (h:copseref1_Put.f k a0 a1=some (r1,r2)) :
  Calls Tryd.prog 64 #[.int .u64 a0,.int .i64 a1] w fun e w'=>∃ v0_:Value,e=.returned (.tuple #[v0_,.int .i64 r2])∧Kd.R (Kd.int .u8) 5 w' w.heap.size (fun _=>True) v0_ r1∧Below w.heap.size w w':=by
 have HB:=Aside0.mk (Below.refl w.heap.size w)
 have H:(if a1<1 then (copseref1_Put.j0 k a0 a1 true) else (if a1 > 8 then (copseref1_Put.j0 k a0 a1 true) else (if a1<8 then (if 0≤(IntKind.u64.wrap (wrap64 (8*a1))) then (copseref1_Put.j0 k a0 a1 ((shr .u64 a0 (IntKind.u64.wrap (wrap64 (8*a1)))) != 0)) else (none)) else (copseref1_Put.j0 k a0 a1 false))))=some (r1,r2):=h
 clear h
 have HC3:=Aside0.mk H
 clear H
 go_enter Tryd.func64,Tryd.ntmps64
 go_upto_region 1 with (fail)
 go_cut [25] (fun v25 wc=>∃ (kq:Nat) (x25_2:Bool),v25=.bool x25_2∧Aside0 (copseref1_Put.j0 kq a0 a1 x25_2=some (r1,r2))∧Aside0 (kq≤k)∧Aside0 (Below w.heap.size w wc))
 case first=>
  have H:=HC3.out
  clear HC3
  by_cases c4:a1<1
  ·
   rw[if_pos c4] at H
   have c4b0:decide (a1<1)=true:=decide_eq_true c4
   clear c4
   (first|rw[c4b0]|(simp only[i64_w,i32_w];rw[c4b0])|skip)
   have H':=Aside0.mk H
   clear H
   go_wp2
   go_meet
   case rel=>exact ⟨_,(true),(by first|rfl|(simp;done)|(simp[*];done)),H',⟨by first|omega|exact Nat.le_refl _⟩,⟨upB HB.out⟩⟩
  ·
   rw[if_neg c4] at H
   have c4b0:decide (a1<1)=false:=decide_eq_false c4
   clear c4
   (first|rw[c4b0]|(simp only[i64_w,i32_w];rw[c4b0])|skip)
   by_cases c5:a1 > 8
   ·
    rw[if_pos c5] at H
    have c5b0:decide (8<a1)=true:=decide_eq_true c5
    clear c5
    have H':=Aside0.mk H
    clear H
    go_wp2
    go_meet
    case rel=>exact ⟨_,(true),(by first|rfl|(simp;done)|(simp[*];done)),H',⟨by first|omega|exact Nat.le_refl _⟩,⟨upB HB.out⟩⟩
   ·
    rw[if_neg c5] at H
    have c5b0:decide (8<a1)=false:=decide_eq_false c5
    clear c5
    by_cases c6:a1<8
    ·
     rw[if_pos c6] at H
     have c6b0:decide (a1<8)=true:=decide_eq_true c6
     clear c6
     obtain⟨ji7,hji7⟩ : ∃ j_:Int,(IntKind.u64.wrap (wrap64 (8*a1)))=j_:=⟨_,rfl⟩
     replace H:(if 0≤(ji7) then (copseref1_Put.j0 k a0 a1 ((shr .u64 a0 (ji7)) != 0)) else (none))=some (r1,r2):=by first|(rw[hji7] at H;exact H)|(simp only[hji7] at H ⊢;exact H)
     by_cases c8:0≤(ji7)
     ·
      rw[if_pos c8] at H
      have c8b0:=eq_true c8
      have c8b1:decide (0≤(ji7))=true:=decide_eq_true c8
      clear c8
      obtain⟨ji9,hji9⟩ : ∃ j_:Int,(shr .u64 a0 (ji7))=j_:=⟨_,rfl⟩
      replace H:(copseref1_Put.j0 k a0 a1 ((ji9) != 0))=some (r1,r2):=by first|(rw[hji9] at H;exact H)|(simp only[hji9] at H ⊢;exact H)
      have hji9_:(a0 / 2 ^ min (ji7).toNat 64)=ji9:=hji9
      have hji9z:(ji7)≤64→(a0 / 2 ^ (ji7).toNat)=ji9:=shr_small hji9
      have H':=Aside0.mk H
      clear H
      go_wp2
      go_meet
      case rel=>exact ⟨_,(((ji9) != 0)),(by first|rfl|(simp;done)|(simp only[←hji9] <;> (first|rfl|simp))|(simp[*];done)),H',⟨by first|omega|exact Nat.le_refl _⟩,⟨upB HB.out⟩⟩
     ·
      rw[if_neg c8] at H
      exact absurd H (by simp)
    ·
     rw[if_neg c6] at H
     have c6b0:decide (a1<8)=false:=decide_eq_false c6
     clear c6
     have H':=Aside0.mk H
     clear H
     go_wp2
     go_meet
     case rel=>exact ⟨_,(false),(by first|rfl|(simp;done)|(simp[*];done)),H',⟨by first|omega|exact Nat.le_refl _⟩,⟨upB HB.out⟩⟩
 case rest=>
  clear HC3
  try clear p2
  try clear c4
  try clear c4b0
  try clear c5
  try clear c5b0
  try clear c6
  try clear c6b0
  try clear p6
  try clear c8
  try clear c8b0
  try clear c8b1
  obtain⟨kq,x25_2,rfl,HA,HJ2,HB⟩:=hcut
  cases kq with
  |zero=>exact absurd HA.out (by simp[copseref1_Put.j0])
  |succ kj2=>
   have H:=HA.out
   clear HA
   simp only[copseref1_Put.j0] at H
   by_cases c10:x25_2=true
   ·
    subst c10
    have H1:(some (([]:List Int),1))=some (r1,r2):=by rw[if_pos rfl] at H;exact H
    clear H
    have H:=H1
    clear H1
    simp only[Option.some.injEq,Prod.mk.injEq] at H
    obtain⟨rfl,rfl⟩:=H
    go_wp2
    go_ret2
    exact ⟨_,by first|rfl|(simp[errW_none,errW_some] <;> rfl)|(simp[*,errW_none,errW_some] <;> rfl),by first|exact Kd.R_nil _ _ _ _ _|exact Kd.N_nil _ _ _ _ _|exact Kd.V_nil _ _ _ _ _|exact Kd.Q_nil _ _ _ _ _|exact Kd.S_nil _ _ _ _ _,upB HB.out⟩
   ·
    replace c10:=Bool.eq_false_iff.mpr c10
    subst c10
    have H1:(copseref1_Put.l0 kj2 a0 ([]:List Int) (wrap64 (a1 - 1)))=some (r1,r2):=by rw[if_neg (show ¬ (false=true) by decide)] at H;exact H
    clear H
    have H:=H1
    clear H1
    have H':=Aside0.mk H
    clear H
    go_wp2
    go_loopg [6,7] kj2 (fun kq v6 v7 w'=>∃ (x6_2:List Int) (x7_2:Int),v7=.int .i64 x7_2∧Aside0 (copseref1_Put.l0 kq a0 x6_2 x7_2=some (r1,r2))∧Aside0 (kq≤kj2)∧Aside0 (Kd.R (Kd.int .u8) 5 w' w.heap.size (fun _=>True) v6 x6_2)∧Aside0 (Below w.heap.size w w'))
    case atStart=>exact ⟨(([]:List Int)),(wrap64 (a1 - 1)),(by first|rfl|(simp;done)|(simp[*];done)),H',⟨Nat.le_refl _⟩,⟨by first|exact Kd.R_nil _ _ _ _ _|exact Kd.N_nil _ _ _ _ _|exact Kd.V_nil _ _ _ _ _|exact Kd.Q_nil _ _ _ _ _|exact Kd.S_nil _ _ _ _ _⟩,⟨upB HB.out⟩⟩
    case round=>
     clear H'
     try clear c1
     try clear p2
     try clear c4
     try clear c4b0
     try clear c5
     try clear c5b0
     try clear c6
     try clear c6b0
     try clear p6
     try clear c8
     try clear c8b0
     try clear c8b1
     try clear c10
     try clear p2
     try clear p6
     obtain⟨x6_2,x7_2,rfl,HA,HK2,HO_6,HB⟩:=hrel
     cases gk with
     |zero=>exact absurd HA.out (by simp[copseref1_Put.l0])
     |succ k2=>
      have H:=HA.out
      clear HA
      simp only[copseref1_Put.l0] at H
      by_cases c11:x7_2≥0
      ·
       rw[if_pos c11] at H
       have c11b0:decide (0≤x7_2)=true:=decide_eq_true c11
       clear c11
       obtain⟨ji12,hji12⟩ : ∃ j_:Int,(IntKind.u64.wrap (wrap64 (8*x7_2)))=j_:=⟨_,rfl⟩
       replace H:(if 0≤(ji12) then (if x6_2.length<140737488355328 then (copseref1_Put.l0 k2 a0 (x6_2++[(shr .u64 a0 (ji12)) % 256]) (wrap64 (x7_2 - 1))) else (none)) else (none))=some (r1,r2):=by first|(rw[hji12] at H;exact H)|(simp only[hji12] at H ⊢;exact H)
       by_cases c13:0≤(ji12)
       ·
        rw[if_pos c13] at H
        have c13b0:=eq_true c13
        have c13b1:decide (0≤(ji12))=true:=decide_eq_true c13
        clear c13
        obtain⟨ji14,hji14⟩ : ∃ j_:Int,(shr .u64 a0 (ji12))=j_:=⟨_,rfl⟩
        replace H:(if x6_2.length<140737488355328 then (copseref1_Put.l0 k2 a0 (x6_2++[(ji14) % 256]) (wrap64 (x7_2 - 1))) else (none))=some (r1,r2):=by first|(rw[hji14] at H;exact H)|(simp only[hji14] at H ⊢;exact H)
        have hji14_:(a0 / 2 ^ min (ji12).toNat 64)=ji14:=hji14
        have hji14z:(ji12)≤64→(a0 / 2 ^ (ji12).toNat)=ji14:=shr_small hji14
        by_cases c15:x6_2.length<140737488355328
        ·
         rw[if_pos c15] at H
         have LMc15:=Aside0.mk c15
         clear c15
         obtain⟨y305,hy305⟩ : ∃ y_:List Int,y_=(x6_2++[(ji14) % 256]):=⟨_,rfl⟩
         replace H:(copseref1_Put.l0 k2 a0 y305 (wrap64 (x7_2 - 1)))=some (r1,r2):=by first|(rw[hy305];with_reducible exact H)|(have H2_:=(Option.bind_some _ _).symm.trans H;rw[hy305];with_reducible exact H2_)|(have H2_:=(Option.bind_some _ _).symm.trans H;with_reducible exact H2_)|with_reducible exact H|(rw[hy305];exact H)|exact H
         have Ny305:=Aside0.mk hy305
         clear hy305
         have H':=Aside0.mk H
         clear H
         go_wp2_with (first|((with_reducible refine gate_builtin (b:=.append) (xs:=#[.tmp 32,.tmp 39]) rfl ?_);at_builtin;refine Kd.R_append (Kd.int .u8) (w0:=w) w.heap.size rfl (.tmp 32) (.tmp 39) 83 5 (.int .u8 0) 1 rfl Tryd.underlying83 info5 rfl (by decide) (by omega) u6 x6_2 ((ji14) % 256) [.int .u8 ((ji14) % 256)] (fun _=>True) (fun _=>False) rfl rfl ?aP (fun _ hk=>hk.elim) ?aF ?aO ?aB ?aS ?aL ?_;(case aP=>exact rfl);(case aB=>exact (upB HB.out));(case aF=>exact (fun _ _=>trivial));(case aO=>exact (upK HO_6.out));(case aS=>exact (below_size (upB HB.out)));(case aL=>have:=LMc15.out;omega);intro v306 w16 ho hb hg hat;rw[←Ny305.out] at ho;have n0_:=Aside0.mk (hb);have n1_:=Aside0.mk (ho);clear HB;clear HO_6;have HB:=n0_;have HO307:=n1_;clear n0_ n1_;clear ho hb hg hat))
         go_roundg k2
         case measure=>have:=HJ2.out;have:=HK2.out;omega
         case rel=>exact ⟨(y305),(wrap64 (x7_2 - 1)),(by first|rfl|(simp;done)|(simp[*];done)),H',⟨by have:=HJ2.out;have:=HK2.out;omega⟩,⟨by (with_reducible repeat (first|apply Kd.R_alloc|apply Kd.R_drewN|apply Kd.R_drew));exact HO307.out⟩,⟨upB HB.out⟩⟩
        ·
         rw[if_neg c15] at H
         exact absurd H (by simp)
       ·
        rw[if_neg c13] at H
        exact absurd H (by simp)
      ·
       rw[if_neg c11] at H
       have c11b0:decide (0≤x7_2)=false:=decide_eq_false c11
       clear c11
       simp only[Option.some.injEq,Prod.mk.injEq] at H
       obtain⟨rfl,rfl⟩:=H
       go_wp2
       go_ret2
       exact ⟨_,by first|rfl|(simp[errW_none,errW_some] <;> rfl)|(simp[*,errW_none,errW_some] <;> rfl),by (with_reducible repeat (first|apply Kd.R_alloc|apply Kd.R_drewN|apply Kd.R_drew));exact HO_6.out,upB HB.out⟩

/-! ### copseref1_Bytes: function 60 -/
def copseref1_Bytes.f (k:Nat) (a0:Int) (a1:Int):Option (List Int):=(copseref1_Put.f k (IntKind.u64.wrap (a0)) a1).bind fun bt308=>(some bt308.1)
theorem copseref1_Bytes.mono : ∀ a0 a1 k,LeO (copseref1_Bytes.f k a0 a1) (copseref1_Bytes.f (k+1) a0 a1):=by
 intro a0 a1 k
 unfold copseref1_Bytes.f
 repeat' first
   |(with_reducible exact copseref1_Put.mono _ _ _)
   |(with_reducible exact LeO.refl _)
   |(with_reducible exact LeO.none _)
   |(with_reducible refine LeO.ite ?_ ?_)
   |(with_reducible refine LeO.bind ?_ (fun _=>?_))
   |exact copseref1_Put.mono _ _ _
   |exact LeO.none _
   |refine LeO.ite ?_ ?_
   |refine LeO.bind ?_ (fun _=>?_)
set_option maxHeartbeats 8000000 in
set_option maxRecDepth 100000 in
theorem copseref1_Bytes.calls (k:Nat) (a0:Int) (a1:Int) (r:List Int) (w:World) (h:copseref1_Bytes.f k a0 a1=some r) :
  Calls Tryd.prog 60 #[.int .i64 a0,.int .i64 a1] w fun e w'=>∃ v0_:Value,e=.returned (v0_)∧Kd.R (Kd.int .u8) 5 w' w.heap.size (fun _=>True) v0_ r∧Below w.heap.size w w':=by
 have HB:=Aside0.mk (Below.refl w.heap.size w)
 have H:((copseref1_Put.f k (IntKind.u64.wrap (a0)) a1).bind fun bt308=>(some bt308.1))=some r:=h
 clear h
 replace H:=Option.bind_eq_some_iff.mp H
 obtain⟨⟨t308,t309⟩,A30,H⟩:=H
 try dsimp only at H
 have A3:=Aside0.mk A30
 clear A30
 obtain rfl:=Option.some.inj H
 go_enter Tryd.func60,Tryd.ntmps60
 go_wp2_with (first|((with_reducible refine gate_callee (f:=64) rfl ?_);refine goesL_ (some 11) rfl rfl Tryd.func64 (by kernel_rfl) rfl #[.int .u64 (IntKind.u64.wrap (a0)),.int .i64 a1] rfl (by (try simp only[ml_]);first|done|rfl|(simp only[List.length_drop,List.length_take];rfl)) ?_;(with_reducible refine (copseref1_Put.calls k (IntKind.u64.wrap (a0)) a1 t308 t309 _ A3.out).mono ?_);rintro e w4 ⟨v310,rfl,ho0,hb⟩;refine ⟨_,rfl,?_⟩;have n0_:=Aside0.mk (Kd.R_lower ho0 (below_size (upB HB.out)));have n1_:=Aside0.mk (below_step (upB HB.out) hb);clear HB;have HO311:=n0_;have HB:=n1_;clear n0_ n1_;(try clear hb);(try clear hb2);(try clear hk);(try clear hi);(try clear ho0)))
 go_ret
 exact ⟨_,by first|rfl|(simp[errW_none,errW_some] <;> rfl)|(simp[*,errW_none,errW_some] <;> rfl),by (with_reducible repeat (first|apply Kd.R_alloc|apply Kd.R_drewN|apply Kd.R_drew));exact HO311.out,upB HB.out⟩

/-! ### copseref7_cell: function 40 -/
def copseref7_cell.f (k:Nat) (a0_0:ByteArray) (a0_1:ByteArray):Option (ByteArray):=(copseref1_Bytes.f k (a0_0.size:Int) 1).bind fun t313=>((copseref1_Bytes.f k (a0_1.size:Int) 2).bind fun t316=>(if t313.length+t316.length<140737488355328 then ((some (t313++t316:List Int)).bind fun y319=>(if (strOfNums y319).size+a0_0.size≤9223372036854775807 then (if ((strOfNums y319)++a0_0).size+a0_1.size≤9223372036854775807 then (some (((strOfNums y319)++a0_0)++a0_1)) else (none)) else (none))) else (none)))
theorem copseref7_cell.mono : ∀ a0 a1 k,LeO (copseref7_cell.f k a0 a1) (copseref7_cell.f (k+1) a0 a1):=by
 intro a0 a1 k
 unfold copseref7_cell.f
 repeat' first
   |(with_reducible exact copseref1_Bytes.mono _ _ _)
   |(with_reducible exact LeO.refl _)
   |(with_reducible exact LeO.none _)
   |(with_reducible refine LeO.ite ?_ ?_)
   |(with_reducible refine LeO.bind ?_ (fun _=>?_))
   |exact copseref1_Bytes.mono _ _ _
   |exact LeO.none _
   |refine LeO.ite ?_ ?_
   |refine LeO.bind ?_ (fun _=>?_)
set_option maxHeartbeats 8000000 in
set_option maxRecDepth 100000 in
theorem copseref7_cell.calls (k:Nat) (a0_0:ByteArray) (a0_1:ByteArray) (r:ByteArray) (w:World) (h:copseref7_cell.f k a0_0 a0_1=some r) :
  Calls Tryd.prog 40 #[.agg #[.string a0_0,.string a0_1]] w fun e w'=>e=.returned (.string r)∧Below w.heap.size w w':=by
 have hu58:=Tryd.underlying58
 have HB:=Aside0.mk (Below.refl w.heap.size w)
 have H:((copseref1_Bytes.f k (a0_0.size:Int) 1).bind fun t313=>((copseref1_Bytes.f k (a0_1.size:Int) 2).bind fun t316=>(if t313.length+t316.length<140737488355328 then ((some (t313++t316:List Int)).bind fun y319=>(if (strOfNums y319).size+a0_0.size≤9223372036854775807 then (if ((strOfNums y319)++a0_0).size+a0_1.size≤9223372036854775807 then (some (((strOfNums y319)++a0_0)++a0_1)) else (none)) else (none))) else (none))))=some r:=h
 clear h
 replace H:=Option.bind_eq_some_iff.mp H
 obtain⟨t313,A20,H⟩:=H
 try dsimp only at H
 have A2:=Aside0.mk A20
 clear A20
 replace H:=Option.bind_eq_some_iff.mp H
 obtain⟨t316,A30,H⟩:=H
 try dsimp only at H
 have A3:=Aside0.mk A30
 clear A30
 by_cases c4:t313.length+t316.length<140737488355328
 ·
  rw[if_pos c4] at H
  have LMc4:=Aside0.mk c4
  clear c4
  obtain⟨y319,hy319⟩ : ∃ y_:List Int,y_=(t313++t316):=⟨_,rfl⟩
  replace H:(if (strOfNums y319).size+a0_0.size≤9223372036854775807 then (if ((strOfNums y319)++a0_0).size+a0_1.size≤9223372036854775807 then (some (((strOfNums y319)++a0_0)++a0_1)) else (none)) else (none))=some r:=by first|(rw[hy319];with_reducible exact H)|(have H2_:=(Option.bind_some _ _).symm.trans H;rw[hy319];with_reducible exact H2_)|(have H2_:=(Option.bind_some _ _).symm.trans H;with_reducible exact H2_)|with_reducible exact H|(rw[hy319];exact H)|exact H
  have Ny319:=Aside0.mk hy319
  clear hy319
  by_cases c5:(strOfNums y319).size+a0_0.size≤9223372036854775807
  ·
   rw[if_pos c5] at H
   have c5b0:=eq_true c5
   have c5b1:decide ((strOfNums y319).size+a0_0.size≤9223372036854775807)=true:=decide_eq_true c5
   try have c5b2:(9223372036854775807<(strOfNums y319).size+a0_0.size)=False:=eq_false (Nat.not_lt.2 c5)
   by_cases c6:((strOfNums y319)++a0_0).size+a0_1.size≤9223372036854775807
   ·
    rw[if_pos c6] at H
    have c6b0:=eq_true c6
    have c6b1:decide (((strOfNums y319)++a0_0).size+a0_1.size≤9223372036854775807)=true:=decide_eq_true c6
    try have c6b2:(9223372036854775807<((strOfNums y319)++a0_0).size+a0_1.size)=False:=eq_false (Nat.not_lt.2 c6)
    obtain rfl:=Option.some.inj H
    go_enter Tryd.func40,Tryd.ntmps40
    go_wp2_with (first|((with_reducible refine gate_dst (N:=1) rfl ?_);refine box_event ?hg (N:=1) ?hd (cs:=#[.string a0_0,.string a0_1]) (t:=58) ?hr ?_;(case hd=>rfl);(case hg=>rfl);(case hr=>first|(go_simp;done)|(go_simp;rfl));intro gb312 hg w7 hbox hb;have n0_:=Aside0.mk (below_step (upB HB.out) hb);have n1_:=Aside0.mk (hbox);have n2_:=Aside0.mk ((by rw[hg];exact (below_size (upB HB.out)):w.heap.size≤gb312));have n3_:=Aside0.mk ((by rw[hg];exact (below_size (upB HB.out)):w.heap.size≤gb312));clear HB;have HB:=n0_;have BK312:=n1_;have GW312:=n2_;have GE312:=n3_;clear n0_ n1_ n2_ n3_;clear hb hbox hg;have hcz8_0:w7.cell? ⟨gb312,0,none⟩=some (.string a0_0):=(blk_cell BK312.out 0).trans rfl;have hcz8_1:w7.cell? ⟨gb312,1,none⟩=some (.string a0_1):=(blk_cell BK312.out 1).trans rfl;have hfz8_0:=blk_frozen BK312.out 0;have hfz8_1:=blk_frozen BK312.out 1)|((with_reducible refine gate_callee (f:=60) rfl ?_);refine goesL_ (some 7) rfl rfl Tryd.func60 (by kernel_rfl) rfl #[.int .i64 (a0_0.size:Int),.int .i64 1] rfl (by (try simp only[ml_]);first|done|rfl|(simp only[List.length_drop,List.length_take];rfl)) ?_;(with_reducible refine (copseref1_Bytes.calls k (a0_0.size:Int) 1 t313 _ A2.out).mono ?_);rintro e w9 ⟨v314,rfl,ho0,hb⟩;refine ⟨_,rfl,?_⟩;have n0_:=Aside0.mk (Kd.R_lower ho0 (below_size (by repeat (first|exact upB HB.out|refine below_set ?_ GE312.out))));have n1_:=Aside0.mk (blk_below (g:=gb312) (o:=.cells #[.string a0_0,.string a0_1] 58 (0,0)) (upX BK312.out) hb);have n2_:=Aside0.mk (below_step (by repeat (first|exact upB HB.out|refine below_set ?_ GE312.out)) hb);clear BK312;clear HB;have HO315:=n0_;have BK312:=n1_;have HB:=n2_;clear n0_ n1_ n2_;(try clear hb);(try clear hb2);(try clear hk);(try clear hi);(try clear ho0);have hcz10_0:w9.cell? ⟨gb312,0,none⟩=some (.string a0_0):=(blk_cell BK312.out 0).trans rfl;have hcz10_1:w9.cell? ⟨gb312,1,none⟩=some (.string a0_1):=(blk_cell BK312.out 1).trans rfl;have hfz10_0:=blk_frozen BK312.out 0;have hfz10_1:=blk_frozen BK312.out 1)|((with_reducible refine gate_callee (f:=60) rfl ?_);refine goesL_ (some 12) rfl rfl Tryd.func60 (by kernel_rfl) rfl #[.int .i64 (a0_1.size:Int),.int .i64 2] rfl (by (try simp only[ml_]);first|done|rfl|(simp only[List.length_drop,List.length_take];rfl)) ?_;(with_reducible refine (copseref1_Bytes.calls k (a0_1.size:Int) 2 t316 _ A3.out).mono ?_);rintro e w11 ⟨v317,rfl,ho0,hb⟩;refine ⟨_,rfl,?_⟩;have n0_:=Aside0.mk (Kd.R_elder' (upK HO315.out) (Kd.R_base ho0) hb);have n1_:=Aside0.mk (Kd.R_lower (Kd.R_new' ho0 (Kd.R_lt (upK HO315.out))) (below_size (by repeat (first|exact upB HB.out|refine below_set ?_ GE312.out))));have n2_:=Aside0.mk (blk_below (g:=gb312) (o:=.cells #[.string a0_0,.string a0_1] 58 (0,0)) (upX BK312.out) hb);have n3_:=Aside0.mk (below_step (by repeat (first|exact upB HB.out|refine below_set ?_ GE312.out)) hb);clear HO315;clear BK312;clear HB;have HO315:=n0_;have HO318:=n1_;have BK312:=n2_;have HB:=n3_;clear n0_ n1_ n2_ n3_;(try clear hb);(try clear hb2);(try clear hk);(try clear hi);(try clear ho0);obtain⟨Ao13,co13,eo13⟩:=Kd.R_slice HO318.out;subst eo13)|((with_reducible refine gate_builtin (b:=.append) (xs:=#[.tmp 8,.tmp 12]) rfl ?_);at_builtin;refine Kd.R_append_rows (Kd.int .u8) (w0:=w) w.heap.size rfl (.tmp 8) (.tmp 12) 83 5 (.int .u8 0) 1 rfl Tryd.underlying83 info5 rfl (by decide) (by omega) v314 t313 t316 _ _ _ (fun k_=>some k_≠(.slice Ao13 t316.length co13:Value).ownBlock) (fun _=>False) rfl rfl ?aO ?aR (fun _ _ h=>h) (fun _ h=>h.elim) ?aF ?aB ?aS ?aL ?_;(case aR=>exact upC (Kd.R_reads' HO318.out).2.2);(case aB=>exact (by repeat (first|exact upB HB.out|refine below_set ?_ GE312.out)));(case aF=>exact (fun k_ hk=>Kd.fresh' (Kd.R_lt (upK HO318.out)) k_ hk));(case aO=>exact (by exact Kd.R_mono (upK HO315.out) (fun _ hk=>hk.2)));(case aS=>exact (below_size (by repeat (first|exact upB HB.out|refine below_set ?_ GE312.out))));(case aL=>have:=LMc4.out;omega);intro v320 w12 ho hb hg hat;rw[←Ny319.out] at ho;have n0_:=Aside0.mk (blk_grown (g:=gb312) (o:=.cells #[.string a0_0,.string a0_1] 58 (0,0)) (upX BK312.out) hg (Kd.R_ne HO315.out BK312.out (by decide)));have n1_:=Aside0.mk (Kd.R_after (ok:=(fun _=>True)) (upK HO318.out) hg hat);have n2_:=Aside0.mk (hb);have n3_:=Aside0.mk (ho);clear BK312;clear HO318;clear HB;clear HO315;have BK312:=n0_;have HO318:=n1_;have HB:=n2_;have HO321:=n3_;clear n0_ n1_ n2_ n3_;clear ho hb hg hat;have hcv14:=own_string (P:=Tryd.prog) Tryd.underlying83 Tryd.underlying5 Tryd.underlying9 (Kd.own_of_R HO321.out);have hcz15_0:w12.cell? ⟨gb312,0,none⟩=some (.string a0_0):=(blk_cell BK312.out 0).trans rfl;have hcz15_1:w12.cell? ⟨gb312,1,none⟩=some (.string a0_1):=(blk_cell BK312.out 1).trans rfl;have hfz15_0:=blk_frozen BK312.out 0;have hfz15_1:=blk_frozen BK312.out 1))
    go_ret
    exact ⟨by first|rfl|(simp[errW_none,errW_some] <;> rfl)|(simp[*,errW_none,errW_some] <;> rfl),by repeat (first|exact upB HB.out|refine below_set ?_ GE312.out|apply pw_below_drewN)⟩
   ·
    rw[if_neg c6] at H
    exact absurd H (by simp)
  ·
   rw[if_neg c5] at H
   exact absurd H (by simp)
 ·
  rw[if_neg c4] at H
  exact absurd H (by simp)

/-! ### copseref6_Size: function 61 -/
def copseref6_Size.l0:Nat→List ByteArray→Int→Int→Option (Int)
 |0,_,_,_=>none
 |k+1,x0,x3,x4=>if x4<(x0.length:Int) then (if 0≤x4 then (copseref6_Size.l0 k x0 (wrap64 ((wrap64 (x3+2))+((rdOf ByteArray.empty x0 x4).size:Int))) (wrap64 (x4+1))) else (none)) else (some x3)
def copseref6_Size.f (k:Nat) (l0:List ByteArray):Option (Int):=copseref6_Size.l0 k l0 0 0
theorem copseref6_Size.mono_l : ∀ k,(∀ y0 y1 y2,LeO (copseref6_Size.l0 k y0 y1 y2) (copseref6_Size.l0 (k+1) y0 y1 y2))
 |0=>fun _ _ _ r h=>by simp[copseref6_Size.l0] at h
 |k+1=>by
  have ih0:=copseref6_Size.mono_l k
  ·
   intro y0 y1 y2
   unfold copseref6_Size.l0
   repeat' first
   |(with_reducible exact ih0 _ _ _)
   |(with_reducible exact LeO.refl _)
   |(with_reducible exact LeO.none _)
   |(with_reducible refine LeO.ite ?_ ?_)
   |(with_reducible refine LeO.bind ?_ (fun _=>?_))
   |exact ih0 _ _ _
   |exact LeO.none _
   |refine LeO.ite ?_ ?_
   |refine LeO.bind ?_ (fun _=>?_)
theorem copseref6_Size.mono : ∀ a0 k,LeO (copseref6_Size.f k a0) (copseref6_Size.f (k+1) a0):=by
 intro a0 k
 have ih0:=copseref6_Size.mono_l k
 unfold copseref6_Size.f
 repeat' first
   |(with_reducible exact ih0 _ _ _)
   |(with_reducible exact LeO.refl _)
   |(with_reducible exact LeO.none _)
   |(with_reducible refine LeO.ite ?_ ?_)
   |(with_reducible refine LeO.bind ?_ (fun _=>?_))
   |exact ih0 _ _ _
   |exact LeO.none _
   |refine LeO.ite ?_ ?_
   |refine LeO.bind ?_ (fun _=>?_)
set_option maxHeartbeats 8000000 in
set_option maxRecDepth 100000 in
theorem copseref6_Size.calls (k:Nat) (A0:Option Addr) (c0:Nat) (l0:List ByteArray) (r:Int) (w:World) (hr0:Kd.C Kd.string w A0 l0.length l0) (hc0:l0.length≤c0) (h:copseref6_Size.f k l0=some r) :
  Calls Tryd.prog 61 #[.slice A0 l0.length c0] w fun e w'=>e=.returned (.int .i64 r)∧Drawn0 w w':=by
 have HR0:=Aside0.mk hr0
 have HC0:=Aside0.mk hc0
 clear hr0 hc0
 have H:(copseref6_Size.l0 k l0 0 0)=some r:=h
 clear h
 have H':=Aside0.mk H
 clear H
 go_enter Tryd.func61,Tryd.ntmps61
 go_wp2
 go_loopg [3,4] k (fun kq v3 v4 w'=>∃ (x3_1:Int) (x4_1:Int),v3=.int .i64 x3_1∧v4=.int .i64 x4_1∧Aside0 (copseref6_Size.l0 kq l0 x3_1 x4_1=some r)∧Aside0 (kq≤k)∧Drawn0 w w')
 case atStart=>exact ⟨(0),(0),(by first|rfl|(simp;done)|(simp[*];done)),(by first|rfl|(simp;done)|(simp[*];done)),H',⟨Nat.le_refl _⟩,by repeat (first|exact Drawn0.refl _|apply Drawn0.step)⟩
 case round=>
  clear H'
  obtain⟨x3_1,x4_1,rfl,rfl,HA,HK1,⟨m1,rfl⟩⟩:=hrel
  cases gk with
  |zero=>exact absurd HA.out (by simp[copseref6_Size.l0])
  |succ k1=>
   have H:=HA.out
   clear HA
   simp only[copseref6_Size.l0] at H
   by_cases c2:x4_1<(l0.length:Int)
   ·
    rw[if_pos c2] at H
    have c2b0:decide (x4_1<(l0.length:Int))=true:=decide_eq_true c2
    clear c2
    by_cases c3:0≤x4_1
    ·
     rw[if_pos c3] at H
     have c3b0:decide (0≤x4_1)=true:=decide_eq_true c3
     clear c3
     have H':=Aside0.mk H
     clear H
     have p322:0≤(x4_1:Int):=of_decide_eq_true (by assumption)
     have q322:x4_1<(l0.length:Int):=of_decide_eq_true (by assumption)
     obtain⟨ad322,e322,hx322_0⟩:=Kd.at_string HR0.out x4_1 p322 q322
     cases e322
     replace p322:=eq_true p322
     replace q322:=eq_true q322
     go_wp2
     go_roundg k1
     case measure=>have:=HK1.out;omega
     case rel=>exact ⟨(wrap64 ((wrap64 (x3_1+2))+((rdOf ByteArray.empty l0 x4_1).size:Int))),(wrap64 (x4_1+1)),(by first|rfl|(simp;done)|(simp[*];done)),(by first|rfl|(simp;done)|(simp[*];done)),H',⟨by have:=HK1.out;omega⟩,by repeat (first|exact Drawn0.refl _|apply Drawn0.step)⟩
    ·
     rw[if_neg c3] at H
     exact absurd H (by simp)
   ·
    rw[if_neg c2] at H
    have c2b0:decide (x4_1<(l0.length:Int))=false:=decide_eq_false c2
    clear c2
    obtain rfl:=Option.some.inj H
    go_wp2
    go_ret
    exact ⟨by first|rfl|(simp;done)|(simp[*];done),by repeat (first|exact Drawn0.refl _|apply Drawn0.step)⟩

/-! ### copseref6_Lay: function 41 -/
mutual
def copseref6_Lay.l0:Nat→List ByteArray→Int→List Int→Int→Int→Option (ByteArray×Int)
 |0,_,_,_,_,_=>none
 |k+1,x0,x4,x5,x6,x7=>if x7<(x0.length:Int) then (if 0≤x7 then ((some (([(wrap64 (Int.tdiv (wrap64 (x6+((rdOf ByteArray.empty x0 x7).size:Int))) 256)) % 256,(Int.tmod (wrap64 (x6+((rdOf ByteArray.empty x0 x7).size:Int))) 256) % 256]:List Int):List Int)).bind fun y325=>(if x5.length+y325.length<140737488355328 then (copseref6_Lay.l0 k x0 x4 (x5++y325) (wrap64 (x6+((rdOf ByteArray.empty x0 x7).size:Int))) (wrap64 (x7+1))) else (none))) else (none)) else (copseref6_Lay.l1 k x0 x4 x5 0)
def copseref6_Lay.l1:Nat→List ByteArray→Int→List Int→Int→Option (ByteArray×Int)
 |0,_,_,_,_=>none
 |k+1,x0,x4,x5,x8=>if x8<(x0.length:Int) then (if 0≤x8 then (if x5.length+(rdOf ByteArray.empty x0 x8).size<140737488355328 then (copseref6_Lay.l1 k x0 x4 (x5++bytesOf (rdOf ByteArray.empty x0 x8)) (wrap64 (x8+1))) else (none)) else (none)) else (copseref6_Lay.l2 k x5 x4)
def copseref6_Lay.l2:Nat→List Int→Int→Option (ByteArray×Int)
 |0,_,_=>none
 |k+1,x5,x9=>if x9<4072 then (if x5.length<140737488355328 then (copseref6_Lay.l2 k (x5++[0]) (wrap64 (x9+1))) else (none)) else (some (strOfNums x5,0))
end
def copseref6_Lay.f (k:Nat) (l0:List ByteArray):Option (ByteArray×Int):=(copseref6_Size.f k l0).bind fun t323=>(if t323 > 4072 then (some ((⟨#[]⟩:ByteArray),3)) else (copseref6_Lay.l0 k l0 t323 ([]:List Int) (wrap64 (2*(l0.length:Int))) 0))
theorem copseref6_Lay.mono_l : ∀ k,(∀ y0 y1 y2 y3 y4,LeO (copseref6_Lay.l0 k y0 y1 y2 y3 y4) (copseref6_Lay.l0 (k+1) y0 y1 y2 y3 y4))∧(∀ y0 y1 y2 y3,LeO (copseref6_Lay.l1 k y0 y1 y2 y3) (copseref6_Lay.l1 (k+1) y0 y1 y2 y3))∧(∀ y0 y1,LeO (copseref6_Lay.l2 k y0 y1) (copseref6_Lay.l2 (k+1) y0 y1))
 |0=>⟨fun _ _ _ _ _ r h=>by simp[copseref6_Lay.l0] at h,fun _ _ _ _ r h=>by simp[copseref6_Lay.l1] at h,fun _ _ r h=>by simp[copseref6_Lay.l2] at h⟩
 |k+1=>by
  obtain⟨ih0,ih1,ih2⟩:=copseref6_Lay.mono_l k
  refine ⟨?_,?_,?_⟩
  ·
   intro y0 y1 y2 y3 y4
   unfold copseref6_Lay.l0
   repeat' first
   |(with_reducible exact ih0 _ _ _ _ _)
   |(with_reducible exact ih1 _ _ _ _)
   |(with_reducible exact ih2 _ _)
   |(with_reducible exact copseref6_Size.mono _ _)
   |(with_reducible exact LeO.refl _)
   |(with_reducible exact LeO.none _)
   |(with_reducible refine LeO.ite ?_ ?_)
   |(with_reducible refine LeO.bind ?_ (fun _=>?_))
   |exact ih0 _ _ _ _ _
   |exact ih1 _ _ _ _
   |exact ih2 _ _
   |exact copseref6_Size.mono _ _
   |exact LeO.none _
   |refine LeO.ite ?_ ?_
   |refine LeO.bind ?_ (fun _=>?_)
  ·
   intro y0 y1 y2 y3
   unfold copseref6_Lay.l1
   repeat' first
   |(with_reducible exact ih0 _ _ _ _ _)
   |(with_reducible exact ih1 _ _ _ _)
   |(with_reducible exact ih2 _ _)
   |(with_reducible exact copseref6_Size.mono _ _)
   |(with_reducible exact LeO.refl _)
   |(with_reducible exact LeO.none _)
   |(with_reducible refine LeO.ite ?_ ?_)
   |(with_reducible refine LeO.bind ?_ (fun _=>?_))
   |exact ih0 _ _ _ _ _
   |exact ih1 _ _ _ _
   |exact ih2 _ _
   |exact copseref6_Size.mono _ _
   |exact LeO.none _
   |refine LeO.ite ?_ ?_
   |refine LeO.bind ?_ (fun _=>?_)
  ·
   intro y0 y1
   unfold copseref6_Lay.l2
   repeat' first
   |(with_reducible exact ih0 _ _ _ _ _)
   |(with_reducible exact ih1 _ _ _ _)
   |(with_reducible exact ih2 _ _)
   |(with_reducible exact copseref6_Size.mono _ _)
   |(with_reducible exact LeO.refl _)
   |(with_reducible exact LeO.none _)
   |(with_reducible refine LeO.ite ?_ ?_)
   |(with_reducible refine LeO.bind ?_ (fun _=>?_))
   |exact ih0 _ _ _ _ _
   |exact ih1 _ _ _ _
   |exact ih2 _ _
   |exact copseref6_Size.mono _ _
   |exact LeO.none _
   |refine LeO.ite ?_ ?_
   |refine LeO.bind ?_ (fun _=>?_)
theorem copseref6_Lay.mono : ∀ a0 k,LeO (copseref6_Lay.f k a0) (copseref6_Lay.f (k+1) a0):=by
 intro a0 k
 obtain⟨ih0,ih1,ih2⟩:=copseref6_Lay.mono_l k
 unfold copseref6_Lay.f
 repeat' first
   |(with_reducible exact ih0 _ _ _ _ _)
   |(with_reducible exact ih1 _ _ _ _)
   |(with_reducible exact ih2 _ _)
   |(with_reducible exact copseref6_Size.mono _ _)
   |(with_reducible exact LeO.refl _)
   |(with_reducible exact LeO.none _)
   |(with_reducible refine LeO.ite ?_ ?_)
   |(with_reducible refine LeO.bind ?_ (fun _=>?_))
   |exact ih0 _ _ _ _ _
   |exact ih1 _ _ _ _
   |exact ih2 _ _
   |exact copseref6_Size.mono _ _
   |exact LeO.none _
   |refine LeO.ite ?_ ?_
   |refine LeO.bind ?_ (fun _=>?_)
set_option maxHeartbeats 8000000 in
set_option maxRecDepth 100000 in
theorem copseref6_Lay.calls (k:Nat) (A0:Option Addr) (c0:Nat) (l0:List ByteArray) (r1:ByteArray) (r2:Int) (w:World) (hr0:Kd.C Kd.string w A0 l0.length l0) (hc0:l0.length≤c0) (h:copseref6_Lay.f k l0=some (r1,r2)) :
  Calls Tryd.prog 41 #[.slice A0 l0.length c0] w fun e w'=>e=.returned (.tuple #[.string r1,.int .i64 r2])∧Below w.heap.size w w':=by
 have HR0:=Aside0.mk hr0
 have HC0:=Aside0.mk hc0
 clear hr0 hc0
 have HB:=Aside0.mk (Below.refl w.heap.size w)
 have H:((copseref6_Size.f k l0).bind fun t323=>(if t323 > 4072 then (some ((⟨#[]⟩:ByteArray),3)) else (copseref6_Lay.l0 k l0 t323 ([]:List Int) (wrap64 (2*(l0.length:Int))) 0)))=some (r1,r2):=h
 clear h
 replace H:=Option.bind_eq_some_iff.mp H
 obtain⟨t323,A20,H⟩:=H
 try dsimp only at H
 have A2:=Aside0.mk A20
 clear A20
 by_cases c3:t323 > 4072
 ·
  rw[if_pos c3] at H
  have c3b0:decide (4072<t323)=true:=decide_eq_true c3
  clear c3
  simp only[Option.some.injEq,Prod.mk.injEq] at H
  obtain⟨rfl,rfl⟩:=H
  go_enter Tryd.func41,Tryd.ntmps41
  go_wp2_with (first|((with_reducible refine gate_callee (f:=61) rfl ?_);refine goesL_ (some 11) rfl rfl Tryd.func61 (by kernel_rfl) rfl #[.slice A0 l0.length c0] rfl (by (try simp only[ml_]);first|done|rfl|(simp only[List.length_drop,List.length_take];rfl)) ?_;(with_reducible refine (copseref6_Size.calls k _ _ l0 t323 _ ?side1 ?side2 A2.out).mono ?_);(case side1=>exact upC HR0.out);(case side2=>exact HC0.out);rintro e w' ⟨rfl,⟨nd,rfl⟩⟩;refine ⟨_,rfl,?_⟩))
  go_ret2
  exact ⟨by first|rfl|(simp[errW_none,errW_some] <;> rfl)|(simp[*,errW_none,errW_some] <;> rfl),upB HB.out⟩
 ·
  rw[if_neg c3] at H
  have c3b0:decide (4072<t323)=false:=decide_eq_false c3
  clear c3
  have H':=Aside0.mk H
  clear H
  go_enter Tryd.func41,Tryd.ntmps41
  go_wp2_with (first|((with_reducible refine gate_callee (f:=61) rfl ?_);refine goesL_ (some 11) rfl rfl Tryd.func61 (by kernel_rfl) rfl #[.slice A0 l0.length c0] rfl (by (try simp only[ml_]);first|done|rfl|(simp only[List.length_drop,List.length_take];rfl)) ?_;(with_reducible refine (copseref6_Size.calls k _ _ l0 t323 _ ?side1 ?side2 A2.out).mono ?_);(case side1=>exact upC HR0.out);(case side2=>exact HC0.out);rintro e w' ⟨rfl,⟨nd,rfl⟩⟩;refine ⟨_,rfl,?_⟩))
  go_loopg [5,6,7] k (fun kq v5 v6 v7 w'=>∃ (x5_1:List Int) (x6_1:Int) (x7_1:Int),v6=.int .i64 x6_1∧v7=.int .i64 x7_1∧Aside0 (copseref6_Lay.l0 kq l0 t323 x5_1 x6_1 x7_1=some (r1,r2))∧Aside0 (kq≤k)∧Aside0 (Kd.R (Kd.int .u8) 5 w' w.heap.size (fun _=>True) v5 x5_1)∧Aside0 (Below w.heap.size w w'))
  case atStart=>exact ⟨(([]:List Int)),(wrap64 (2*(l0.length:Int))),(0),(by first|rfl|(simp;done)|(simp[*];done)),(by first|rfl|(simp;done)|(simp[*];done)),H',⟨Nat.le_refl _⟩,⟨by first|exact Kd.R_nil _ _ _ _ _|exact Kd.N_nil _ _ _ _ _|exact Kd.V_nil _ _ _ _ _|exact Kd.Q_nil _ _ _ _ _|exact Kd.S_nil _ _ _ _ _⟩,⟨upB HB.out⟩⟩
  case round=>
   clear H'
   try clear p2
   try clear c3
   try clear c3b0
   obtain⟨x5_1,x6_1,x7_1,rfl,rfl,HA,HK1,HO_5,HB⟩:=hrel
   cases gk with
   |zero=>exact absurd HA.out (by simp[copseref6_Lay.l0])
   |succ k1=>
    have H:=HA.out
    clear HA
    simp only[copseref6_Lay.l0] at H
    by_cases c4:x7_1<(l0.length:Int)
    ·
     rw[if_pos c4] at H
     have c4b0:decide (x7_1<(l0.length:Int))=true:=decide_eq_true c4
     clear c4
     by_cases c5:0≤x7_1
     ·
      rw[if_pos c5] at H
      have c5b0:decide (0≤x7_1)=true:=decide_eq_true c5
      clear c5
      obtain⟨y325,hy325⟩ : ∃ y_:List Int,y_=(([(wrap64 (Int.tdiv (wrap64 (x6_1+((rdOf ByteArray.empty l0 x7_1).size:Int))) 256)) % 256,(Int.tmod (wrap64 (x6_1+((rdOf ByteArray.empty l0 x7_1).size:Int))) 256) % 256]:List Int)):=⟨_,rfl⟩
      replace H:(if x5_1.length+y325.length<140737488355328 then (copseref6_Lay.l0 k1 l0 t323 (x5_1++y325) (wrap64 (x6_1+((rdOf ByteArray.empty l0 x7_1).size:Int))) (wrap64 (x7_1+1))) else (none))=some (r1,r2):=by first|(rw[hy325];with_reducible exact H)|(have H2_:=(Option.bind_some _ _).symm.trans H;rw[hy325];with_reducible exact H2_)|(have H2_:=(Option.bind_some _ _).symm.trans H;with_reducible exact H2_)|with_reducible exact H|(rw[hy325];exact H)|exact H
      have Ny325:=Aside0.mk hy325
      clear hy325
      by_cases c6:x5_1.length+y325.length<140737488355328
      ·
       rw[if_pos c6] at H
       have LMc6:=Aside0.mk c6
       clear c6
       obtain⟨y328,hy328⟩ : ∃ y_:List Int,y_=(x5_1++y325):=⟨_,rfl⟩
       replace H:(copseref6_Lay.l0 k1 l0 t323 y328 (wrap64 (x6_1+((rdOf ByteArray.empty l0 x7_1).size:Int))) (wrap64 (x7_1+1)))=some (r1,r2):=by first|(rw[hy328];with_reducible exact H)|(have H2_:=(Option.bind_some _ _).symm.trans H;rw[hy328];with_reducible exact H2_)|(have H2_:=(Option.bind_some _ _).symm.trans H;with_reducible exact H2_)|with_reducible exact H|(rw[hy328];exact H)|exact H
       have Ny328:=Aside0.mk hy328
       clear hy328
       have H':=Aside0.mk H
       clear H
       have p324:0≤(x7_1:Int):=of_decide_eq_true (by assumption)
       have q324:x7_1<(l0.length:Int):=of_decide_eq_true (by assumption)
       obtain⟨ad324,e324,hx324_0⟩:=Kd.at_string HR0.out x7_1 p324 q324
       cases e324
       replace hx324_0:=(HB.out.cell (World.block_lt_of_cell? w _ hx324_0)).trans hx324_0
       replace p324:=eq_true p324
       replace q324:=eq_true q324
       go_wp2_with (first|((with_reducible refine gate_dst (N:=37) rfl ?_);refine Kd.R_lit (Kd.int .u8) _ 5 ?hg (N:=37) ?hd (xs:=([(wrap64 (Int.tdiv (wrap64 (x6_1+((rdOf ByteArray.empty l0 x7_1).size:Int))) 256)) % 256,(Int.tmod (wrap64 (x6_1+((rdOf ByteArray.empty l0 x7_1).size:Int))) 256) % 256]:List Int)) (inner:=[.int .u8 ((wrap64 (Int.tdiv (wrap64 (x6_1+((rdOf ByteArray.empty l0 x7_1).size:Int))) 256)) % 256),.int .u8 ((Int.tmod (wrap64 (x6_1+((rdOf ByteArray.empty l0 x7_1).size:Int))) 256) % 256)]) (ok:=fun _=>True) (okp:=fun _=>True) ?hr ?hp (fun _ hk=>hk) trivial (Below.refl _ _) (Nat.le_refl _) (by simp) ?_;(case hd=>rfl);(case hg=>rfl);(case hr=>first|(go_simp;done)|(go_simp;rfl));(case hp=>exact (Reps.one (show Kd.M (Kd.int .u8) _ _ _ ((wrap64 (Int.tdiv (wrap64 (x6_1+((rdOf ByteArray.empty l0 x7_1).size:Int))) 256)) % 256) [.int .u8 ((wrap64 (Int.tdiv (wrap64 (x6_1+((rdOf ByteArray.empty l0 x7_1).size:Int))) 256)) % 256)] from rfl) (Reps.one (show Kd.M (Kd.int .u8) _ _ _ ((Int.tmod (wrap64 (x6_1+((rdOf ByteArray.empty l0 x7_1).size:Int))) 256) % 256) [.int .u8 ((Int.tmod (wrap64 (x6_1+((rdOf ByteArray.empty l0 x7_1).size:Int))) 256) % 256)] from rfl) (Reps.none _ _))));intro v326 w7 ho8 hb hg_ hnew_;clear hg_ hnew_;(first|rw[←Ny325.out] at ho8|(simp only[Int.reduceToNat] at ho8;rw[←Ny325.out] at ho8));have n0_:=Aside0.mk (Kd.R_elder' (upK HO_5.out) (Kd.R_base ho8) hb);have n1_:=Aside0.mk (Kd.R_lower (Kd.R_new' ho8 (Kd.R_lt (upK HO_5.out))) (below_size (upB HB.out)));have n2_:=Aside0.mk (below_step (upB HB.out) hb);clear HO_5;clear HB;have HO_5:=n0_;have HO327:=n1_;have HB:=n2_;clear n0_ n1_ n2_;clear hb ho8;obtain⟨Ao10,co10,eo10⟩:=Kd.R_slice HO327.out;subst eo10)|((with_reducible refine gate_builtin (b:=.append) (xs:=#[.tmp 30,.tmp 37]) rfl ?_);at_builtin;refine Kd.R_append_rows (Kd.int .u8) (w0:=w) w.heap.size rfl (.tmp 30) (.tmp 37) 83 5 (.int .u8 0) 1 rfl Tryd.underlying83 info5 rfl (by decide) (by omega) u5 x5_1 y325 _ _ _ (fun k_=>some k_≠(.slice Ao10 y325.length co10:Value).ownBlock) (fun _=>False) rfl rfl ?aO ?aR (fun _ _ h=>h) (fun _ h=>h.elim) ?aF ?aB ?aS ?aL ?_;(case aR=>exact upC (Kd.R_reads' HO327.out).2.2);(case aB=>exact (upB HB.out));(case aF=>exact (fun k_ hk=>Kd.fresh' (Kd.R_lt (upK HO327.out)) k_ hk));(case aO=>exact (by exact Kd.R_mono (upK HO_5.out) (fun _ hk=>hk.2)));(case aS=>exact (below_size (upB HB.out)));(case aL=>have:=LMc6.out;omega);intro v329 w9 ho hb hg hat;rw[←Ny328.out] at ho;have n0_:=Aside0.mk (Kd.R_after (ok:=(fun _=>True)) (upK HO327.out) hg hat);have n1_:=Aside0.mk (hb);have n2_:=Aside0.mk (ho);clear HO327;clear HB;clear HO_5;have HO327:=n0_;have HB:=n1_;have HO330:=n2_;clear n0_ n1_ n2_;clear ho hb hg hat))
       go_roundg k1
       case measure=>have:=HK1.out;omega
       case rel=>exact ⟨(y328),(wrap64 (x6_1+((rdOf ByteArray.empty l0 x7_1).size:Int))),(wrap64 (x7_1+1)),(by first|rfl|(simp;done)|(simp[*];done)),(by first|rfl|(simp;done)|(simp[*];done)),H',⟨by have:=HK1.out;omega⟩,⟨by exact Kd.R_mono (upK HO330.out) (fun _ hk=>trivial)⟩,⟨upB HB.out⟩⟩
      ·
       rw[if_neg c6] at H
       exact absurd H (by simp)
     ·
      rw[if_neg c5] at H
      exact absurd H (by simp)
    ·
     rw[if_neg c4] at H
     have c4b0:decide (x7_1<(l0.length:Int))=false:=decide_eq_false c4
     clear c4
     have H':=Aside0.mk H
     clear H
     go_wp2
     go_loopg [5,8] k1 (fun kq v5 v8 w'=>∃ (x5_2:List Int) (x8_2:Int),v8=.int .i64 x8_2∧Aside0 (copseref6_Lay.l1 kq l0 t323 x5_2 x8_2=some (r1,r2))∧Aside0 (kq≤k1)∧Aside0 (Kd.R (Kd.int .u8) 5 w' w.heap.size (fun _=>True) v5 x5_2)∧Aside0 (Below w.heap.size w w'))
     case atStart=>exact ⟨(x5_1),(0),(by first|rfl|(simp;done)|(simp[*];done)),H',⟨Nat.le_refl _⟩,⟨by (with_reducible repeat (first|apply Kd.R_alloc|apply Kd.R_drewN|apply Kd.R_drew));exact HO_5.out⟩,⟨upB HB.out⟩⟩
     case round=>
      clear H'
      try clear p2
      try clear c3
      try clear c3b0
      try clear p3
      try clear q3
      try clear hx3
      try clear c4
      try clear c4b0
      try clear c5
      try clear c5b0
      try clear c6
      try clear p6
      try clear hx324_0
      try clear p2
      try clear p324
      try clear q324
      obtain⟨x5_2,x8_2,rfl,HA,HK2,HO_5,HB⟩:=hrel
      cases gk with
      |zero=>exact absurd HA.out (by simp[copseref6_Lay.l1])
      |succ k2=>
       have H:=HA.out
       clear HA
       simp only[copseref6_Lay.l1] at H
       by_cases c11:x8_2<(l0.length:Int)
       ·
        rw[if_pos c11] at H
        have c11b0:decide (x8_2<(l0.length:Int))=true:=decide_eq_true c11
        clear c11
        by_cases c12:0≤x8_2
        ·
         rw[if_pos c12] at H
         have c12b0:decide (0≤x8_2)=true:=decide_eq_true c12
         clear c12
         by_cases c13:x5_2.length+(rdOf ByteArray.empty l0 x8_2).size<140737488355328
         ·
          rw[if_pos c13] at H
          have LMc13:=Aside0.mk c13
          clear c13
          obtain⟨y332,hy332⟩ : ∃ y_:List Int,y_=(x5_2++bytesOf (rdOf ByteArray.empty l0 x8_2)):=⟨_,rfl⟩
          replace H:(copseref6_Lay.l1 k2 l0 t323 y332 (wrap64 (x8_2+1)))=some (r1,r2):=by first|(rw[hy332];with_reducible exact H)|(have H2_:=(Option.bind_some _ _).symm.trans H;rw[hy332];with_reducible exact H2_)|(have H2_:=(Option.bind_some _ _).symm.trans H;with_reducible exact H2_)|with_reducible exact H|(rw[hy332];exact H)|exact H
          have Ny332:=Aside0.mk hy332
          clear hy332
          have H':=Aside0.mk H
          clear H
          have p331:0≤(x8_2:Int):=of_decide_eq_true (by assumption)
          have q331:x8_2<(l0.length:Int):=of_decide_eq_true (by assumption)
          obtain⟨ad331,e331,hx331_0⟩:=Kd.at_string HR0.out x8_2 p331 q331
          cases e331
          replace hx331_0:=(HB.out.cell (World.block_lt_of_cell? w _ hx331_0)).trans hx331_0
          replace p331:=eq_true p331
          replace q331:=eq_true q331
          go_wp2_with (first|(at_builtin;refine print_append_str (w0:=w) w.heap.size rfl (.tmp 45) _ 83 9 5 rfl Tryd.underlying83 Tryd.underlying9 info5 u5 x5_2 (rdOf ByteArray.empty l0 x8_2) rfl rfl ?aO ?aB ?aS ?aL ?_;(case aB=>exact (upB HB.out));(case aO=>first|exact (Kd.own_of_R (upK HO_5.out))|exact own_nil _ _ _ _);(case aS=>exact (below_size (upB HB.out)));(case aL=>have:=LMc13.out;omega);intro v333 w14 ho0 hb hg;have ho:=Kd.R_of_own (h1:=fun _=>rfl) (ok:=fun _=>True) ho0 (fun _ _=>trivial);clear ho0;have hat:=True.intro;(first|(rw[←Ny332.out] at ho;change Kd.R (Kd.int .u8) 5 w14 w.heap.size (fun _=>True) v333 y332 at ho)|(replace ho:Kd.R (Kd.int .u8) 5 w14 w.heap.size (fun _=>True) v333 y332:=(by rw[Ny332.out];exact ho)));have n0_:=Aside0.mk (hb);have n1_:=Aside0.mk (ho);clear HB;clear HO_5;have HB:=n0_;have HO334:=n1_;clear n0_ n1_;clear ho hb hg hat))
          go_roundg k2
          case measure=>have:=HK1.out;have:=HK2.out;omega
          case rel=>exact ⟨(y332),(wrap64 (x8_2+1)),(by first|rfl|(simp;done)|(simp[*];done)),H',⟨by have:=HK1.out;have:=HK2.out;omega⟩,⟨by (with_reducible repeat (first|apply Kd.R_alloc|apply Kd.R_drewN|apply Kd.R_drew));exact HO334.out⟩,⟨upB HB.out⟩⟩
         ·
          rw[if_neg c13] at H
          exact absurd H (by simp)
        ·
         rw[if_neg c12] at H
         exact absurd H (by simp)
       ·
        rw[if_neg c11] at H
        have c11b0:decide (x8_2<(l0.length:Int))=false:=decide_eq_false c11
        clear c11
        have H':=Aside0.mk H
        clear H
        go_wp2
        go_loopg [5,9] k2 (fun kq v5 v9 w'=>∃ (x5_3:List Int) (x9_3:Int),v9=.int .i64 x9_3∧Aside0 (copseref6_Lay.l2 kq x5_3 x9_3=some (r1,r2))∧Aside0 (kq≤k2)∧Aside0 (Kd.R (Kd.int .u8) 5 w' w.heap.size (fun _=>True) v5 x5_3)∧Aside0 (Below w.heap.size w w'))
        case atStart=>exact ⟨(x5_2),(t323),(by first|rfl|(simp;done)|(simp[*];done)),H',⟨Nat.le_refl _⟩,⟨by (with_reducible repeat (first|apply Kd.R_alloc|apply Kd.R_drewN|apply Kd.R_drew));exact HO_5.out⟩,⟨upB HB.out⟩⟩
        case round=>
         clear H'
         try clear c1
         try clear p2
         try clear c3
         try clear c3b0
         try clear p3
         try clear q3
         try clear hx3
         try clear c4
         try clear c4b0
         try clear c5
         try clear c5b0
         try clear c6
         try clear p6
         try clear c11
         try clear c11b0
         try clear c12
         try clear c12b0
         try clear c13
         try clear hx324_0
         try clear hx331_0
         try clear p2
         try clear p3
         try clear p324
         try clear p331
         try clear p6
         try clear q3
         try clear q324
         try clear q331
         obtain⟨x5_3,x9_3,rfl,HA,HK3,HO_5,HB⟩:=hrel
         cases gk with
         |zero=>exact absurd HA.out (by simp[copseref6_Lay.l2])
         |succ k3=>
          have H:=HA.out
          clear HA
          simp only[copseref6_Lay.l2] at H
          by_cases c15:x9_3<4072
          ·
           rw[if_pos c15] at H
           have c15b0:decide (x9_3<4072)=true:=decide_eq_true c15
           clear c15
           by_cases c16:x5_3.length<140737488355328
           ·
            rw[if_pos c16] at H
            have LMc16:=Aside0.mk c16
            clear c16
            obtain⟨y335,hy335⟩ : ∃ y_:List Int,y_=(x5_3++[0]):=⟨_,rfl⟩
            replace H:(copseref6_Lay.l2 k3 y335 (wrap64 (x9_3+1)))=some (r1,r2):=by first|(rw[hy335];with_reducible exact H)|(have H2_:=(Option.bind_some _ _).symm.trans H;rw[hy335];with_reducible exact H2_)|(have H2_:=(Option.bind_some _ _).symm.trans H;with_reducible exact H2_)|with_reducible exact H|(rw[hy335];exact H)|exact H
            have Ny335:=Aside0.mk hy335
            clear hy335
            have H':=Aside0.mk H
            clear H
            go_wp2_with (first|((with_reducible refine gate_builtin (b:=.append) (xs:=#[.tmp 56,.tmp 57]) rfl ?_);at_builtin;refine Kd.R_append (Kd.int .u8) (w0:=w) w.heap.size rfl (.tmp 56) (.tmp 57) 83 5 (.int .u8 0) 1 rfl Tryd.underlying83 info5 rfl (by decide) (by omega) u5 x5_3 0 [.int .u8 0] (fun _=>True) (fun _=>False) rfl rfl ?aP (fun _ hk=>hk.elim) ?aF ?aO ?aB ?aS ?aL ?_;(case aP=>exact rfl);(case aB=>exact (upB HB.out));(case aF=>exact (fun _ _=>trivial));(case aO=>exact (upK HO_5.out));(case aS=>exact (below_size (upB HB.out)));(case aL=>have:=LMc16.out;omega);intro v336 w17 ho hb hg hat;rw[←Ny335.out] at ho;have n0_:=Aside0.mk (hb);have n1_:=Aside0.mk (ho);clear HB;clear HO_5;have HB:=n0_;have HO337:=n1_;clear n0_ n1_;clear ho hb hg hat))
            go_roundg k3
            case measure=>have:=HK1.out;have:=HK2.out;have:=HK3.out;omega
            case rel=>exact ⟨(y335),(wrap64 (x9_3+1)),(by first|rfl|(simp;done)|(simp[*];done)),H',⟨by have:=HK1.out;have:=HK2.out;have:=HK3.out;omega⟩,⟨by (with_reducible repeat (first|apply Kd.R_alloc|apply Kd.R_drewN|apply Kd.R_drew));exact HO337.out⟩,⟨upB HB.out⟩⟩
           ·
            rw[if_neg c16] at H
            exact absurd H (by simp)
          ·
           rw[if_neg c15] at H
           have c15b0:decide (x9_3<4072)=false:=decide_eq_false c15
           clear c15
           simp only[Option.some.injEq,Prod.mk.injEq] at H
           obtain⟨rfl,rfl⟩:=H
           have hcv18:=own_string (P:=Tryd.prog) Tryd.underlying83 Tryd.underlying5 Tryd.underlying9 (Kd.own_of_R HO_5.out)
           go_wp2
           go_ret2
           exact ⟨by first|rfl|(simp[errW_none,errW_some] <;> rfl)|(simp[*,errW_none,errW_some] <;> rfl),upB HB.out⟩

end Go.Proofs.YtdailhlghlledaaDoor.XLeafNew
