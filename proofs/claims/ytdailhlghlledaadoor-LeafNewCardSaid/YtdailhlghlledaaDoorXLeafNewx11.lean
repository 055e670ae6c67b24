-- Printed for this claim by a program (wip/printx) that builds on the kit's print. Not trusted: Lean checks it.
-- slim
import Derived.Test.YtdailhlghlledaaDoorXLeafNewx0
import Derived.Test.YtdailhlghlledaaDoorXLeafNewx10
namespace Go.Proofs.YtdailhlghlledaaDoor.XLeafNew
open Go.RowKit Go.Proofs.YtdailhlghlledaaDoorW.PrintWords Go.Proofs.YtdailhlghlledaaDoorW.PrintLast Go.Proofs.YtdailhlghlledaaDoorW.PrintMore
attribute [local go_sem] max2_int min2_int max_two min_two max_three min_three max_four min_four   -- for this text's walks alone
set_option linter.unusedVariables false
set_option linter.unusedSimpArgs false

/-! ### copseref6_sum: function 62 -/
def copseref6_sum.l0:Nat→List Int→Int→Int→Int→Option (Int)
 |0,_,_,_,_=>none
 |k+1,x0,x2,x7,x8=>if x8<x2 then (if 0≤x8 then (if x8<(x0.length:Int) then (copseref6_sum.l0 k x0 x2 (wrap64 (x7+(rd x0 x8))) (wrap64 (x8+1))) else (none)) else (none)) else (some x7)
def copseref6_sum.f (k:Nat) (l0:List Int) (a1:Int) (a2:Int):Option (Int):=copseref6_sum.l0 k l0 a2 0 a1
theorem copseref6_sum.mono_l : ∀ k,(∀ y0 y1 y2 y3,LeO (copseref6_sum.l0 k y0 y1 y2 y3) (copseref6_sum.l0 (k+1) y0 y1 y2 y3))
 |0=>fun _ _ _ _ r h=>by simp[copseref6_sum.l0] at h
 |k+1=>by
  have ih0:=copseref6_sum.mono_l k
  ·
   intro y0 y1 y2 y3
   unfold copseref6_sum.l0
   repeat' first
   |(with_reducible exact ih0 _ _ _ _)
   |(with_reducible exact LeO.refl _)
   |(with_reducible exact LeO.none _)
   |(with_reducible refine LeO.ite ?_ ?_)
   |(with_reducible refine LeO.bind ?_ (fun _=>?_))
   |exact ih0 _ _ _ _
   |exact LeO.none _
   |refine LeO.ite ?_ ?_
   |refine LeO.bind ?_ (fun _=>?_)
theorem copseref6_sum.mono : ∀ a0 a1 a2 k,LeO (copseref6_sum.f k a0 a1 a2) (copseref6_sum.f (k+1) a0 a1 a2):=by
 intro a0 a1 a2 k
 have ih0:=copseref6_sum.mono_l k
 unfold copseref6_sum.f
 repeat' first
   |(with_reducible exact ih0 _ _ _ _)
   |(with_reducible exact LeO.refl _)
   |(with_reducible exact LeO.none _)
   |(with_reducible refine LeO.ite ?_ ?_)
   |(with_reducible refine LeO.bind ?_ (fun _=>?_))
   |exact ih0 _ _ _ _
   |exact LeO.none _
   |refine LeO.ite ?_ ?_
   |refine LeO.bind ?_ (fun _=>?_)
set_option maxHeartbeats 8000000 in
set_option maxRecDepth 100000 in
theorem copseref6_sum.calls (k:Nat) (A0:Option Addr) (c0:Nat) (l0:List Int) (a1:Int) (a2:Int) (r:Int) (w:World) (hr0:Kd.C (Kd.int .i64) w A0 l0.length l0) (hc0:l0.length≤c0) (h:copseref6_sum.f k l0 a1 a2=some r) :
  Calls Tryd.prog 62 #[.slice A0 l0.length c0,.int .i64 a1,.int .i64 a2] w fun e w'=>e=.returned (.int .i64 r)∧Drawn0 w w':=by
 have HR0:=Aside0.mk hr0
 have HC0:=Aside0.mk hc0
 clear hr0 hc0
 have H:(copseref6_sum.l0 k l0 a2 0 a1)=some r:=h
 clear h
 have H':=Aside0.mk H
 clear H
 go_enter Tryd.func62,Tryd.ntmps62
 go_wp2
 go_loopg [7,8] k (fun kq v7 v8 w'=>∃ (x7_1:Int) (x8_1:Int),v7=.int .i64 x7_1∧v8=.int .i64 x8_1∧Aside0 (copseref6_sum.l0 kq l0 a2 x7_1 x8_1=some r)∧Aside0 (kq≤k)∧Drawn0 w w')
 case atStart=>exact ⟨(0),(a1),(by first|rfl|(simp;done)|(simp[*];done)),(by first|rfl|(simp;done)|(simp[*];done)),H',⟨Nat.le_refl _⟩,by repeat (first|exact Drawn0.refl _|apply Drawn0.step)⟩
 case round=>
  clear H'
  try clear p2
  obtain⟨x7_1,x8_1,rfl,rfl,HA,HK1,⟨m1,rfl⟩⟩:=hrel
  cases gk with
  |zero=>exact absurd HA.out (by simp[copseref6_sum.l0])
  |succ k1=>
   have H:=HA.out
   clear HA
   simp only[copseref6_sum.l0] at H
   by_cases c4:x8_1<a2
   ·
    rw[if_pos c4] at H
    have c4b0:decide (x8_1<a2)=true:=decide_eq_true c4
    clear c4
    by_cases c5:0≤x8_1
    ·
     rw[if_pos c5] at H
     have c5b0:decide (0≤x8_1)=true:=decide_eq_true c5
     clear c5
     by_cases c6:x8_1<(l0.length:Int)
     ·
      rw[if_pos c6] at H
      have c6b0:decide (x8_1<(l0.length:Int))=true:=decide_eq_true c6
      clear c6
      have H':=Aside0.mk H
      clear H
      have p279:0≤(x8_1:Int):=of_decide_eq_true (by assumption)
      have q279:x8_1<(l0.length:Int):=of_decide_eq_true (by assumption)
      obtain⟨ad279,e279,hx279_0⟩:=Kd.at_int HR0.out x8_1 p279 q279
      cases e279
      replace p279:=eq_true p279
      replace q279:=eq_true q279
      go_wp2
      go_roundg k1
      case measure=>have:=HK1.out;omega
      case rel=>exact ⟨(wrap64 (x7_1+(rd l0 x8_1))),(wrap64 (x8_1+1)),(by first|rfl|(simp;done)|(simp[*];done)),(by first|rfl|(simp;done)|(simp[*];done)),H',⟨by have:=HK1.out;omega⟩,by repeat (first|exact Drawn0.refl _|apply Drawn0.step)⟩
     ·
      rw[if_neg c6] at H
      exact absurd H (by simp)
    ·
     rw[if_neg c5] at H
     exact absurd H (by simp)
   ·
    rw[if_neg c4] at H
    have c4b0:decide (x8_1<a2)=false:=decide_eq_false c4
    clear c4
    obtain rfl:=Option.some.inj H
    go_wp2
    go_ret
    exact ⟨by first|rfl|(simp;done)|(simp[*];done),by repeat (first|exact Drawn0.refl _|apply Drawn0.step)⟩

/-! ### copseref6_apart: function 63 -/
def copseref6_apart.f (a0:Int) (a1:Int):Option (Int):=if a0<a1 then (some (wrap64 (a1 - a0))) else (some (wrap64 (a0 - a1)))
set_option maxHeartbeats 8000000 in
set_option maxRecDepth 100000 in
theorem copseref6_apart.calls (a0:Int) (a1:Int) (r:Int) (w:World) (h:copseref6_apart.f a0 a1=some r) :
  Calls Tryd.prog 63 #[.int .i64 a0,.int .i64 a1] w fun e w'=>e=.returned (.int .i64 r)∧Drawn0 w w':=by
 have H:(if a0<a1 then (some (wrap64 (a1 - a0))) else (some (wrap64 (a0 - a1))))=some r:=h
 clear h
 by_cases c3:a0<a1
 ·
  rw[if_pos c3] at H
  have c3b0:decide (a0<a1)=true:=decide_eq_true c3
  clear c3
  obtain rfl:=Option.some.inj H
  go_enter Tryd.func63,Tryd.ntmps63
  go_wp2
  go_ret
  exact ⟨by first|rfl|(simp;done)|(simp[*];done),by repeat (first|exact Drawn0.refl _|apply Drawn0.step)⟩
 ·
  rw[if_neg c3] at H
  have c3b0:decide (a0<a1)=false:=decide_eq_false c3
  clear c3
  obtain rfl:=Option.some.inj H
  go_enter Tryd.func63,Tryd.ntmps63
  go_wp2
  go_ret
  exact ⟨by first|rfl|(simp;done)|(simp[*];done),by repeat (first|exact Drawn0.refl _|apply Drawn0.step)⟩

/-! ### copseref6_nearest: function 57 -/
def copseref6_nearest.l0:Nat→List Int→Int→Int→Int→Int→Int→Int→Int→Option (Int)
 |0,_,_,_,_,_,_,_,_=>none
 |k+1,x0,x1,x2,x7,x8,x9,x10,x11=>if x11≤x1 then (if 0≤(wrap64 (x11 - 1)) then (if (wrap64 (x11 - 1))<(x0.length:Int) then (if 0≤(wrap64 ((wrap64 (x11 - 1))+x2)) then (if (wrap64 ((wrap64 (x11 - 1))+x2))<(x0.length:Int) then ((copseref6_apart.f (wrap64 (x8+(rd x0 (wrap64 (x11 - 1))))) (wrap64 (x9 - (rd x0 (wrap64 ((wrap64 (x11 - 1))+x2)))))).bind fun t285=>(if t285<x10 then (copseref6_nearest.l0 k x0 x1 x2 x11 (wrap64 (x8+(rd x0 (wrap64 (x11 - 1))))) (wrap64 (x9 - (rd x0 (wrap64 ((wrap64 (x11 - 1))+x2))))) t285 (wrap64 (x11+1))) else (copseref6_nearest.l0 k x0 x1 x2 x7 (wrap64 (x8+(rd x0 (wrap64 (x11 - 1))))) (wrap64 (x9 - (rd x0 (wrap64 ((wrap64 (x11 - 1))+x2))))) x10 (wrap64 (x11+1))))) else (none)) else (none)) else (none)) else (none)) else (some x7)
def copseref6_nearest.f (k:Nat) (l0:List Int) (a1:Int) (a2:Int):Option (Int):=(copseref6_sum.f k l0 0 1).bind fun t280=>((copseref6_sum.f k l0 (wrap64 (1+a2)) (l0.length:Int)).bind fun t281=>((copseref6_apart.f t280 t281).bind fun t282=>(copseref6_nearest.l0 k l0 a1 a2 1 t280 t281 t282 2)))
theorem copseref6_nearest.mono_l : ∀ k,(∀ y0 y1 y2 y3 y4 y5 y6 y7,LeO (copseref6_nearest.l0 k y0 y1 y2 y3 y4 y5 y6 y7) (copseref6_nearest.l0 (k+1) y0 y1 y2 y3 y4 y5 y6 y7))
 |0=>fun _ _ _ _ _ _ _ _ r h=>by simp[copseref6_nearest.l0] at h
 |k+1=>by
  have ih0:=copseref6_nearest.mono_l k
  ·
   intro y0 y1 y2 y3 y4 y5 y6 y7
   unfold copseref6_nearest.l0
   repeat' first
   |(with_reducible exact ih0 _ _ _ _ _ _ _ _)
   |(with_reducible exact copseref6_sum.mono _ _ _ _)
   |(with_reducible exact LeO.refl _)
   |(with_reducible exact LeO.none _)
   |(with_reducible refine LeO.ite ?_ ?_)
   |(with_reducible refine LeO.bind ?_ (fun _=>?_))
   |exact ih0 _ _ _ _ _ _ _ _
   |exact copseref6_sum.mono _ _ _ _
   |exact LeO.none _
   |refine LeO.ite ?_ ?_
   |refine LeO.bind ?_ (fun _=>?_)
theorem copseref6_nearest.mono : ∀ a0 a1 a2 k,LeO (copseref6_nearest.f k a0 a1 a2) (copseref6_nearest.f (k+1) a0 a1 a2):=by
 intro a0 a1 a2 k
 have ih0:=copseref6_nearest.mono_l k
 unfold copseref6_nearest.f
 repeat' first
   |(with_reducible exact ih0 _ _ _ _ _ _ _ _)
   |(with_reducible exact copseref6_sum.mono _ _ _ _)
   |(with_reducible exact LeO.refl _)
   |(with_reducible exact LeO.none _)
   |(with_reducible refine LeO.ite ?_ ?_)
   |(with_reducible refine LeO.bind ?_ (fun _=>?_))
   |exact ih0 _ _ _ _ _ _ _ _
   |exact copseref6_sum.mono _ _ _ _
   |exact LeO.none _
   |refine LeO.ite ?_ ?_
   |refine LeO.bind ?_ (fun _=>?_)
set_option maxHeartbeats 8000000 in
set_option maxRecDepth 100000 in
theorem copseref6_nearest.calls (k:Nat) (A0:Option Addr) (c0:Nat) (l0:List Int) (a1:Int) (a2:Int) (r:Int) (w:World) (hr0:Kd.C (Kd.int .i64) w A0 l0.length l0) (hc0:l0.length≤c0) (h:copseref6_nearest.f k l0 a1 a2=some r) :
  Calls Tryd.prog 57 #[.slice A0 l0.length c0,.int .i64 a1,.int .i64 a2] w fun e w'=>e=.returned (.int .i64 r)∧Drawn0 w w':=by
 have HR0:=Aside0.mk hr0
 have HC0:=Aside0.mk hc0
 clear hr0 hc0
 have H:((copseref6_sum.f k l0 0 1).bind fun t280=>((copseref6_sum.f k l0 (wrap64 (1+a2)) (l0.length:Int)).bind fun t281=>((copseref6_apart.f t280 t281).bind fun t282=>(copseref6_nearest.l0 k l0 a1 a2 1 t280 t281 t282 2))))=some r:=h
 clear h
 replace H:=Option.bind_eq_some_iff.mp H
 obtain⟨t280,A40,H⟩:=H
 try dsimp only at H
 have A4:=Aside0.mk A40
 clear A40
 replace H:=Option.bind_eq_some_iff.mp H
 obtain⟨t281,A50,H⟩:=H
 try dsimp only at H
 have A5:=Aside0.mk A50
 clear A50
 replace H:=Option.bind_eq_some_iff.mp H
 obtain⟨t282,A60,H⟩:=H
 try dsimp only at H
 have A6:=Aside0.mk A60
 clear A60
 have H':=Aside0.mk H
 clear H
 go_enter Tryd.func57,Tryd.ntmps57
 go_wp2_with (first|((with_reducible refine gate_callee (f:=62) rfl ?_);refine goesL_ (some 14) rfl rfl Tryd.func62 (by kernel_rfl) rfl #[.slice A0 l0.length c0,.int .i64 0,.int .i64 1] rfl (by (try simp only[ml_]);first|done|rfl|(simp only[List.length_drop,List.length_take];rfl)) ?_;(with_reducible refine (copseref6_sum.calls k _ _ l0 0 1 t280 _ ?side1 ?side2 A4.out).mono ?_);(case side1=>exact upC HR0.out);(case side2=>exact HC0.out);rintro e w' ⟨rfl,⟨nd,rfl⟩⟩;refine ⟨_,rfl,?_⟩)|((with_reducible refine gate_callee (f:=62) rfl ?_);refine goesL_ (some 20) rfl rfl Tryd.func62 (by kernel_rfl) rfl #[.slice A0 l0.length c0,.int .i64 (wrap64 (1+a2)),.int .i64 (l0.length:Int)] rfl (by (try simp only[ml_]);first|done|rfl|(simp only[List.length_drop,List.length_take];rfl)) ?_;(with_reducible refine (copseref6_sum.calls k _ _ l0 (wrap64 (1+a2)) (l0.length:Int) t281 _ ?side1 ?side2 A5.out).mono ?_);(case side1=>exact upC HR0.out);(case side2=>exact HC0.out);rintro e w' ⟨rfl,⟨nd,rfl⟩⟩;refine ⟨_,rfl,?_⟩)|((with_reducible refine gate_callee (f:=63) rfl ?_);refine goesL_ (some 23) rfl rfl Tryd.func63 (by kernel_rfl) rfl #[.int .i64 t280,.int .i64 t281] rfl (by (try simp only[ml_]);first|done|rfl|(simp only[List.length_drop,List.length_take];rfl)) ?_;(with_reducible refine (copseref6_apart.calls t280 t281 t282 _ A6.out).mono ?_);rintro e w' ⟨rfl,⟨nd,rfl⟩⟩;refine ⟨_,rfl,?_⟩))
 go_loopg [7,8,9,10,11] k (fun kq v7 v8 v9 v10 v11 w'=>∃ (x7_1:Int) (x8_1:Int) (x9_1:Int) (x10_1:Int) (x11_1:Int),v7=.int .i64 x7_1∧v8=.int .i64 x8_1∧v9=.int .i64 x9_1∧v10=.int .i64 x10_1∧v11=.int .i64 x11_1∧Aside0 (copseref6_nearest.l0 kq l0 a1 a2 x7_1 x8_1 x9_1 x10_1 x11_1=some r)∧Aside0 (kq≤k)∧Drawn0 w w')
 case atStart=>exact ⟨(1),(t280),(t281),(t282),(2),(by first|rfl|(simp;done)|(simp[*];done)),(by first|rfl|(simp;done)|(simp[*];done)),(by first|rfl|(simp;done)|(simp[*];done)),(by first|rfl|(simp;done)|(simp[*];done)),(by first|rfl|(simp;done)|(simp[*];done)),H',⟨Nat.le_refl _⟩,by repeat (first|exact Drawn0.refl _|apply Drawn0.step)⟩
 case round=>
  clear H'
  try clear p2
  try clear c5
  try clear c6
  try clear p6
  obtain⟨x7_1,x8_1,x9_1,x10_1,x11_1,rfl,rfl,rfl,rfl,rfl,HA,HK1,⟨m1,rfl⟩⟩:=hrel
  cases gk with
  |zero=>exact absurd HA.out (by simp[copseref6_nearest.l0])
  |succ k1=>
   have H:=HA.out
   clear HA
   simp only[copseref6_nearest.l0] at H
   by_cases c7:x11_1≤a1
   ·
    rw[if_pos c7] at H
    have c7b0:decide (x11_1≤a1)=true:=decide_eq_true c7
    clear c7
    obtain⟨ji8,hji8⟩ : ∃ j_:Int,(wrap64 (x11_1 - 1))=j_:=⟨_,rfl⟩
    replace H:(if 0≤(ji8) then (if (ji8)<(l0.length:Int) then (if 0≤(wrap64 ((ji8)+a2)) then (if (wrap64 ((ji8)+a2))<(l0.length:Int) then ((copseref6_apart.f (wrap64 (x8_1+(rd l0 (ji8)))) (wrap64 (x9_1 - (rd l0 (wrap64 ((ji8)+a2)))))).bind fun t285=>(if t285<x10_1 then (copseref6_nearest.l0 k1 l0 a1 a2 x11_1 (wrap64 (x8_1+(rd l0 (ji8)))) (wrap64 (x9_1 - (rd l0 (wrap64 ((ji8)+a2))))) t285 (wrap64 (x11_1+1))) else (copseref6_nearest.l0 k1 l0 a1 a2 x7_1 (wrap64 (x8_1+(rd l0 (ji8)))) (wrap64 (x9_1 - (rd l0 (wrap64 ((ji8)+a2))))) x10_1 (wrap64 (x11_1+1))))) else (none)) else (none)) else (none)) else (none))=some r:=by first|(rw[hji8] at H;exact H)|(simp only[hji8] at H ⊢;exact H)
    have hji8w:(IntKind.i64.wrap (x11_1 - 1))=ji8:=(i64_w _).trans hji8
    by_cases c9:0≤(ji8)
    ·
     rw[if_pos c9] at H
     have c9b0:decide (0≤(ji8))=true:=decide_eq_true c9
     clear c9
     by_cases c10:(ji8)<(l0.length:Int)
     ·
      rw[if_pos c10] at H
      have c10b0:decide ((ji8)<(l0.length:Int))=true:=decide_eq_true c10
      clear c10
      obtain⟨ji11,hji11⟩ : ∃ j_:Int,(wrap64 ((ji8)+a2))=j_:=⟨_,rfl⟩
      replace H:(if 0≤(ji11) then (if (ji11)<(l0.length:Int) then ((copseref6_apart.f (wrap64 (x8_1+(rd l0 (ji8)))) (wrap64 (x9_1 - (rd l0 (ji11))))).bind fun t285=>(if t285<x10_1 then (copseref6_nearest.l0 k1 l0 a1 a2 x11_1 (wrap64 (x8_1+(rd l0 (ji8)))) (wrap64 (x9_1 - (rd l0 (ji11)))) t285 (wrap64 (x11_1+1))) else (copseref6_nearest.l0 k1 l0 a1 a2 x7_1 (wrap64 (x8_1+(rd l0 (ji8)))) (wrap64 (x9_1 - (rd l0 (ji11)))) x10_1 (wrap64 (x11_1+1))))) else (none)) else (none))=some r:=by first|(rw[hji11] at H;exact H)|(simp only[hji11] at H ⊢;exact H)
      have hji11w:(IntKind.i64.wrap ((ji8)+a2))=ji11:=(i64_w _).trans hji11
      by_cases c12:0≤(ji11)
      ·
       rw[if_pos c12] at H
       have c12b0:decide (0≤(ji11))=true:=decide_eq_true c12
       clear c12
       by_cases c13:(ji11)<(l0.length:Int)
       ·
        rw[if_pos c13] at H
        have c13b0:decide ((ji11)<(l0.length:Int))=true:=decide_eq_true c13
        clear c13
        replace H:=Option.bind_eq_some_iff.mp H
        obtain⟨t285,A140,H⟩:=H
        try dsimp only at H
        have A14:=Aside0.mk A140
        clear A140
        by_cases c15:t285<x10_1
        ·
         rw[if_pos c15] at H
         have c15b0:decide (t285<x10_1)=true:=decide_eq_true c15
         clear c15
         have H':=Aside0.mk H
         clear H
         have p283:0≤((ji8):Int):=of_decide_eq_true (by assumption)
         have q283:(ji8)<(l0.length:Int):=of_decide_eq_true (by assumption)
         obtain⟨ad283,e283,hx283_0⟩:=Kd.at_int HR0.out (ji8) p283 q283
         cases e283
         replace p283:=eq_true p283
         replace q283:=eq_true q283
         have p284:0≤((ji11):Int):=of_decide_eq_true (by assumption)
         have q284:(ji11)<(l0.length:Int):=of_decide_eq_true (by assumption)
         obtain⟨ad284,e284,hx284_0⟩:=Kd.at_int HR0.out (ji11) p284 q284
         obtain rfl:ad283=ad284:=(by injection e284)
         replace p284:=eq_true p284
         replace q284:=eq_true q284
         go_wp2_with (first|((with_reducible refine gate_callee (f:=63) rfl ?_);refine goesL_ (some 47) rfl rfl Tryd.func63 (by kernel_rfl) rfl #[.int .i64 (wrap64 (x8_1+(rd l0 (ji8)))),.int .i64 (wrap64 (x9_1 - (rd l0 (ji11))))] rfl (by (try simp only[List.map_toArray,List.map_cons,List.map_nil]);first|done|(simp only[hji11,hji8];rfl)|rfl|(simp only[List.length_drop,List.length_take];rfl)) ?_;(with_reducible refine (copseref6_apart.calls (wrap64 (x8_1+(rd l0 (ji8)))) (wrap64 (x9_1 - (rd l0 (ji11)))) t285 _ A14.out).mono ?_);rintro e w' ⟨rfl,⟨nd,rfl⟩⟩;refine ⟨_,rfl,?_⟩))
         go_roundg k1
         case measure=>have:=HK1.out;omega
         case rel=>exact ⟨(x11_1),(wrap64 (x8_1+(rd l0 (ji8)))),(wrap64 (x9_1 - (rd l0 (ji11)))),(t285),(wrap64 (x11_1+1)),(by first|rfl|(simp;done)|(simp[*];done)),(by first|rfl|(simp;done)|(simp only[←hji8] <;> (first|rfl|simp))|(simp[*];done)),(by first|rfl|(simp;done)|(simp only[←hji11] <;> (first|rfl|simp))|(simp[*];done)),(by first|rfl|(simp;done)|(simp[*];done)),(by first|rfl|(simp;done)|(simp[*];done)),H',⟨by have:=HK1.out;omega⟩,by repeat (first|exact Drawn0.refl _|apply Drawn0.step)⟩
        ·
         rw[if_neg c15] at H
         have c15b0:decide (t285<x10_1)=false:=decide_eq_false c15
         clear c15
         have H':=Aside0.mk H
         clear H
         have p283:0≤((ji8):Int):=of_decide_eq_true (by assumption)
         have q283:(ji8)<(l0.length:Int):=of_decide_eq_true (by assumption)
         obtain⟨ad283,e283,hx283_0⟩:=Kd.at_int HR0.out (ji8) p283 q283
         cases e283
         replace p283:=eq_true p283
         replace q283:=eq_true q283
         have p284:0≤((ji11):Int):=of_decide_eq_true (by assumption)
         have q284:(ji11)<(l0.length:Int):=of_decide_eq_true (by assumption)
         obtain⟨ad284,e284,hx284_0⟩:=Kd.at_int HR0.out (ji11) p284 q284
         obtain rfl:ad283=ad284:=(by injection e284)
         replace p284:=eq_true p284
         replace q284:=eq_true q284
         go_wp2_with (first|((with_reducible refine gate_callee (f:=63) rfl ?_);refine goesL_ (some 47) rfl rfl Tryd.func63 (by kernel_rfl) rfl #[.int .i64 (wrap64 (x8_1+(rd l0 (ji8)))),.int .i64 (wrap64 (x9_1 - (rd l0 (ji11))))] rfl (by (try simp only[List.map_toArray,List.map_cons,List.map_nil]);first|done|(simp only[hji11,hji8];rfl)|rfl|(simp only[List.length_drop,List.length_take];rfl)) ?_;(with_reducible refine (copseref6_apart.calls (wrap64 (x8_1+(rd l0 (ji8)))) (wrap64 (x9_1 - (rd l0 (ji11)))) t285 _ A14.out).mono ?_);rintro e w' ⟨rfl,⟨nd,rfl⟩⟩;refine ⟨_,rfl,?_⟩))
         go_roundg k1
         case measure=>have:=HK1.out;omega
         case rel=>exact ⟨(x7_1),(wrap64 (x8_1+(rd l0 (ji8)))),(wrap64 (x9_1 - (rd l0 (ji11)))),(x10_1),(wrap64 (x11_1+1)),(by first|rfl|(simp;done)|(simp[*];done)),(by first|rfl|(simp;done)|(simp only[←hji8] <;> (first|rfl|simp))|(simp[*];done)),(by first|rfl|(simp;done)|(simp only[←hji11] <;> (first|rfl|simp))|(simp[*];done)),(by first|rfl|(simp;done)|(simp[*];done)),(by first|rfl|(simp;done)|(simp[*];done)),H',⟨by have:=HK1.out;omega⟩,by repeat (first|exact Drawn0.refl _|apply Drawn0.step)⟩
       ·
        rw[if_neg c13] at H
        exact absurd H (by simp)
      ·
       rw[if_neg c12] at H
       exact absurd H (by simp)
     ·
      rw[if_neg c10] at H
      exact absurd H (by simp)
    ·
     rw[if_neg c9] at H
     exact absurd H (by simp)
   ·
    rw[if_neg c7] at H
    have c7b0:decide (x11_1≤a1)=false:=decide_eq_false c7
    clear c7
    obtain rfl:=Option.some.inj H
    go_wp2
    go_ret
    exact ⟨by first|rfl|(simp;done)|(simp[*];done),by repeat (first|exact Drawn0.refl _|apply Drawn0.step)⟩

/-! ### copseref6_Cut: function 37 -/
def copseref6_Cut.f (k:Nat) (l0:List Int):Option (Int×Int):=if (l0.length:Int)<2 then (some (0,4)) else ((copseref6_fine.f k l0).bind fun t286=>(if t286=true then ((copseref6_nearest.f k l0 (wrap64 ((l0.length:Int) - 1)) 0).bind fun t287=>(some (t287,0))) else (some (0,1))))
theorem copseref6_Cut.mono : ∀ a0 k,LeO (copseref6_Cut.f k a0) (copseref6_Cut.f (k+1) a0):=by
 intro a0 k
 unfold copseref6_Cut.f
 repeat' first
   |(with_reducible exact copseref6_fine.mono _ _)
   |(with_reducible exact copseref6_nearest.mono _ _ _ _)
   |(with_reducible exact LeO.refl _)
   |(with_reducible exact LeO.none _)
   |(with_reducible refine LeO.ite ?_ ?_)
   |(with_reducible refine LeO.bind ?_ (fun _=>?_))
   |exact copseref6_fine.mono _ _
   |exact copseref6_nearest.mono _ _ _ _
   |exact LeO.none _
   |refine LeO.ite ?_ ?_
   |refine LeO.bind ?_ (fun _=>?_)
set_option maxHeartbeats 8000000 in
set_option maxRecDepth 100000 in
theorem copseref6_Cut.calls (k:Nat) (A0:Option Addr) (c0:Nat) (l0:List Int) (r1:Int) (r2:Int) (w:World) (hr0:Kd.C (Kd.int .i64) w A0 l0.length l0) (hc0:l0.length≤c0) (h:copseref6_Cut.f k l0=some (r1,r2)) :
  Calls Tryd.prog 37 #[.slice A0 l0.length c0] w fun e w'=>e=.returned (.tuple #[.int .i64 r1,.int .i64 r2])∧Drawn0 w w':=by
 have HR0:=Aside0.mk hr0
 have HC0:=Aside0.mk hc0
 clear hr0 hc0
 have H:(if (l0.length:Int)<2 then (some (0,4)) else ((copseref6_fine.f k l0).bind fun t286=>(if t286=true then ((copseref6_nearest.f k l0 (wrap64 ((l0.length:Int) - 1)) 0).bind fun t287=>(some (t287,0))) else (some (0,1)))))=some (r1,r2):=h
 clear h
 by_cases c2:(l0.length:Int)<2
 ·
  rw[if_pos c2] at H
  have c2b0:decide ((l0.length:Int)<2)=true:=decide_eq_true c2
  have c2b1:decide (l0.length<2)=true:=decide_eq_true (by omega)
  clear c2
  simp only[Option.some.injEq,Prod.mk.injEq] at H
  obtain⟨rfl,rfl⟩:=H
  go_enter Tryd.func37,Tryd.ntmps37
  go_wp2
  go_ret2
  exact ⟨by first|rfl|(simp;done)|(simp[*];done),by repeat (first|exact Drawn0.refl _|apply Drawn0.step)⟩
 ·
  rw[if_neg c2] at H
  have c2b0:decide ((l0.length:Int)<2)=false:=decide_eq_false c2
  have c2b1:decide (l0.length<2)=false:=decide_eq_false (by omega)
  clear c2
  replace H:=Option.bind_eq_some_iff.mp H
  obtain⟨t286,A30,H⟩:=H
  try dsimp only at H
  have A3:=Aside0.mk A30
  clear A30
  by_cases c4:t286=true
  ·
   subst c4
   have H1:((copseref6_nearest.f k l0 (wrap64 ((l0.length:Int) - 1)) 0).bind fun t287=>(some (t287,0)))=some (r1,r2):=by rw[if_pos rfl] at H;exact H
   clear H
   have H:=H1
   clear H1
   replace H:=Option.bind_eq_some_iff.mp H
   obtain⟨t287,A50,H⟩:=H
   try dsimp only at H
   have A5:=Aside0.mk A50
   clear A50
   simp only[Option.some.injEq,Prod.mk.injEq] at H
   obtain⟨rfl,rfl⟩:=H
   go_enter Tryd.func37,Tryd.ntmps37
   go_wp2_with (first|((with_reducible refine gate_callee (f:=56) rfl ?_);refine goesL_ (some 9) rfl rfl Tryd.func56 (by kernel_rfl) rfl #[.slice A0 l0.length c0] rfl (by (try simp only[ml_]);first|done|rfl|(simp only[List.length_drop,List.length_take];rfl)) ?_;(with_reducible refine (copseref6_fine.calls k _ _ l0 true _ ?side1 ?side2 A3.out).mono ?_);(case side1=>exact upC HR0.out);(case side2=>exact HC0.out);rintro e w' ⟨rfl,⟨nd,rfl⟩⟩;refine ⟨_,rfl,?_⟩)|((with_reducible refine gate_callee (f:=57) rfl ?_);refine goesL_ (some 16) rfl rfl Tryd.func57 (by kernel_rfl) rfl #[.slice A0 l0.length c0,.int .i64 (wrap64 ((l0.length:Int) - 1)),.int .i64 0] rfl (by (try simp only[ml_]);first|done|rfl|(simp only[List.length_drop,List.length_take];rfl)) ?_;(with_reducible refine (copseref6_nearest.calls k _ _ l0 (wrap64 ((l0.length:Int) - 1)) 0 t287 _ ?side1 ?side2 A5.out).mono ?_);(case side1=>exact upC HR0.out);(case side2=>exact HC0.out);rintro e w' ⟨rfl,⟨nd,rfl⟩⟩;refine ⟨_,rfl,?_⟩))
   go_ret2
   exact ⟨by first|rfl|(simp;done)|(simp[*];done),by repeat (first|exact Drawn0.refl _|apply Drawn0.step)⟩
  ·
   replace c4:=Bool.eq_false_iff.mpr c4
   subst c4
   have H1:(some (0,1))=some (r1,r2):=by rw[if_neg (show ¬ (false=true) by decide)] at H;exact H
   clear H
   have H:=H1
   clear H1
   simp only[Option.some.injEq,Prod.mk.injEq] at H
   obtain⟨rfl,rfl⟩:=H
   go_enter Tryd.func37,Tryd.ntmps37
   go_wp2_with (first|((with_reducible refine gate_callee (f:=56) rfl ?_);refine goesL_ (some 9) rfl rfl Tryd.func56 (by kernel_rfl) rfl #[.slice A0 l0.length c0] rfl (by (try simp only[ml_]);first|done|rfl|(simp only[List.length_drop,List.length_take];rfl)) ?_;(with_reducible refine (copseref6_fine.calls k _ _ l0 false _ ?side1 ?side2 A3.out).mono ?_);(case side1=>exact upC HR0.out);(case side2=>exact HC0.out);rintro e w' ⟨rfl,⟨nd,rfl⟩⟩;refine ⟨_,rfl,?_⟩))
   go_ret2
   exact ⟨by first|rfl|(simp;done)|(simp[*];done),by repeat (first|exact Drawn0.refl _|apply Drawn0.step)⟩

/-! ### copseref7_Cut: function 19 -/
mutual
def copseref7_Cut.l0:Nat→List (S58)→List Int→Int→Option ((List (S58))×(List (S58))×Int)
 |0,_,_,_=>none
 |k+1,x0,x5,x6=>if x6<(x0.length:Int) then (if 0≤x6 then (if x5.length<17592186044416 then (copseref7_Cut.l0 k x0 (x5++[wrap64 ((wrap64 (5+(((rd_T58 x0 x6).f0).size:Int)))+(((rd_T58 x0 x6).f1).size:Int))]) (wrap64 (x6+1))) else (none)) else (none)) else ((copseref6_Cut.f k x5).bind fun bt293=>(if bt293.2=0 then (copseref7_Cut.l1 k x0 bt293.1 ([]:List (S58)) ([]:List (S58)) 0) else (some (([]:List (S58)),([]:List (S58)),bt293.2))))
def copseref7_Cut.l1:Nat→List (S58)→Int→List (S58)→List (S58)→Int→Option ((List (S58))×(List (S58))×Int)
 |0,_,_,_,_,_=>none
 |k+1,x0,x7,x9,x10,x11=>if x11<(x0.length:Int) then (if x11<x7 then (if 0≤x11 then (if x9.length<4398046511104 then (copseref7_Cut.l1 k x0 x7 (x9++[(⟨(rd_T58 x0 x11).f0,(rd_T58 x0 x11).f1⟩:S58)]) x10 (wrap64 (x11+1))) else (none)) else (none)) else (if 0≤x11 then (if x10.length<4398046511104 then (copseref7_Cut.l1 k x0 x7 x9 (x10++[(⟨(rd_T58 x0 x11).f0,(rd_T58 x0 x11).f1⟩:S58)]) (wrap64 (x11+1))) else (none)) else (none))) else (some (x9,x10,0))
end
def copseref7_Cut.f (k:Nat) (l0:List (S58)):Option ((List (S58))×(List (S58))×Int):=copseref7_Cut.l0 k l0 ([]:List Int) 0
theorem copseref7_Cut.mono_l : ∀ k,(∀ y0 y1 y2,LeO (copseref7_Cut.l0 k y0 y1 y2) (copseref7_Cut.l0 (k+1) y0 y1 y2))∧(∀ y0 y1 y2 y3 y4,LeO (copseref7_Cut.l1 k y0 y1 y2 y3 y4) (copseref7_Cut.l1 (k+1) y0 y1 y2 y3 y4))
 |0=>⟨fun _ _ _ r h=>by simp[copseref7_Cut.l0] at h,fun _ _ _ _ _ r h=>by simp[copseref7_Cut.l1] at h⟩
 |k+1=>by
  obtain⟨ih0,ih1⟩:=copseref7_Cut.mono_l k
  refine ⟨?_,?_⟩
  ·
   intro y0 y1 y2
   unfold copseref7_Cut.l0
   repeat' first
   |(with_reducible exact ih0 _ _ _)
   |(with_reducible exact ih1 _ _ _ _ _)
   |(with_reducible exact copseref6_Cut.mono _ _)
   |(with_reducible exact LeO.refl _)
   |(with_reducible exact LeO.none _)
   |(with_reducible refine LeO.ite ?_ ?_)
   |(with_reducible refine LeO.bind ?_ (fun _=>?_))
   |exact ih0 _ _ _
   |exact ih1 _ _ _ _ _
   |exact copseref6_Cut.mono _ _
   |exact LeO.none _
   |refine LeO.ite ?_ ?_
   |refine LeO.bind ?_ (fun _=>?_)
  ·
   intro y0 y1 y2 y3 y4
   unfold copseref7_Cut.l1
   repeat' first
   |(with_reducible exact ih0 _ _ _)
   |(with_reducible exact ih1 _ _ _ _ _)
   |(with_reducible exact copseref6_Cut.mono _ _)
   |(with_reducible exact LeO.refl _)
   |(with_reducible exact LeO.none _)
   |(with_reducible refine LeO.ite ?_ ?_)
   |(with_reducible refine LeO.bind ?_ (fun _=>?_))
   |exact ih0 _ _ _
   |exact ih1 _ _ _ _ _
   |exact copseref6_Cut.mono _ _
   |exact LeO.none _
   |refine LeO.ite ?_ ?_
   |refine LeO.bind ?_ (fun _=>?_)
theorem copseref7_Cut.mono : ∀ a0 k,LeO (copseref7_Cut.f k a0) (copseref7_Cut.f (k+1) a0):=by
 intro a0 k
 obtain⟨ih0,ih1⟩:=copseref7_Cut.mono_l k
 unfold copseref7_Cut.f
 repeat' first
   |(with_reducible exact ih0 _ _ _)
   |(with_reducible exact ih1 _ _ _ _ _)
   |(with_reducible exact copseref6_Cut.mono _ _)
   |(with_reducible exact LeO.refl _)
   |(with_reducible exact LeO.none _)
   |(with_reducible refine LeO.ite ?_ ?_)
   |(with_reducible refine LeO.bind ?_ (fun _=>?_))
   |exact ih0 _ _ _
   |exact ih1 _ _ _ _ _
   |exact copseref6_Cut.mono _ _
   |exact LeO.none _
   |refine LeO.ite ?_ ?_
   |refine LeO.bind ?_ (fun _=>?_)
def copseref7_Cut.T5:Bool×List (List Nat×List Nat):=(true,[([],[]),([],[]),([],[]),([1,2],[1,2]),([3],[3]),([4],[4]),([5],[5]),([6],[6]),([],[]),([],[]),([8,9],[8,9]),([10],[10]),([11],[11]),([12],[12]),([7,13],[7,13]),([14],[14]),([0,15],[0,15]),([16,16,0,1,2,3,4,5,6,7,8,9,10,11,12,13,14,15,16],[0,16])])
def copseref7_Cut.B5:List Nat:=[0,0,0,6,14,30,62,126,0,0,768,1792,3840,7936,16382,32766,65535,131071]
theorem copseref7_Cut.tab5:rtab .any (opsOf Tryd.f19 5)=copseref7_Cut.T5:=by kernel_rfl
theorem copseref7_Cut.bits5:waitsOk copseref7_Cut.T5.2 copseref7_Cut.B5=true:=by kernel_rfl
set_option maxHeartbeats 8000000 in
set_option maxRecDepth 100000 in
theorem copseref7_Cut.calls (k:Nat) (A0:Option Addr) (c0:Nat) (l0:List (S58)) (r1:List (S58)) (r2:List (S58)) (r3:Int) (w:World) (hr0:Kd.C k58 w A0 l0.length l0) (hc0:l0.length≤c0) (h:copseref7_Cut.f k l0=some (r1,r2,r3)) :
  Calls Tryd.prog 19 #[.slice A0 l0.length c0] w fun e w'=>∃ v0_ v1_:Value,e=.returned (.tuple #[v0_,v1_,.int .i64 r3])∧Kd.R k58 58 w' w.heap.size (fun k_=>some k_≠(v1_:Value).ownBlock) v0_ r1∧Kd.R k58 58 w' w.heap.size (fun k_=>some k_≠(v0_:Value).ownBlock) v1_ r2∧Below w.heap.size w w':=by
 have hu58:=Tryd.underlying58
 have HR0:=Aside0.mk hr0
 have HC0:=Aside0.mk hc0
 clear hr0 hc0
 have HB:=Aside0.mk (Below.refl w.heap.size w)
 have H:(copseref7_Cut.l0 k l0 ([]:List Int) 0)=some (r1,r2,r3):=h
 clear h
 have H':=Aside0.mk H
 clear H
 go_enter Tryd.func19,Tryd.ntmps19
 go_wp2
 go_loopg [5,6] k (fun kq v5 v6 w'=>∃ (x5_1:List Int) (x6_1:Int),v6=.int .i64 x6_1∧Aside0 (copseref7_Cut.l0 kq l0 x5_1 x6_1=some (r1,r2,r3))∧Aside0 (kq≤k)∧Aside0 (Kd.R (Kd.int .i64) 3 w' w.heap.size (fun _=>True) v5 x5_1)∧Aside0 (Below w.heap.size w w'))
 case atStart=>exact ⟨(([]:List Int)),(0),(by first|rfl|(simp;done)|(simp[*];done)),H',⟨Nat.le_refl _⟩,⟨by first|exact Kd.R_nil _ _ _ _ _|exact Kd.N_nil _ _ _ _ _|exact Kd.V_nil _ _ _ _ _|exact Kd.Q_nil _ _ _ _ _|exact Kd.S_nil _ _ _ _ _⟩,⟨upB HB.out⟩⟩
 case round=>
  clear H'
  try clear c1
  obtain⟨x5_1,x6_1,rfl,HA,HK1,HO_5,HB⟩:=hrel
  cases gk with
  |zero=>exact absurd HA.out (by simp[copseref7_Cut.l0])
  |succ k1=>
   have H:=HA.out
   clear HA
   simp only[copseref7_Cut.l0] at H
   by_cases c2:x6_1<(l0.length:Int)
   ·
    rw[if_pos c2] at H
    have c2b0:decide (x6_1<(l0.length:Int))=true:=decide_eq_true c2
    clear c2
    by_cases c3:0≤x6_1
    ·
     rw[if_pos c3] at H
     have c3b0:decide (0≤x6_1)=true:=decide_eq_true c3
     clear c3
     by_cases c4:x5_1.length<17592186044416
     ·
      rw[if_pos c4] at H
      have LMc4:=Aside0.mk c4
      clear c4
      obtain⟨y290,hy290⟩ : ∃ y_:List Int,y_=(x5_1++[wrap64 ((wrap64 (5+(((rd_T58 l0 x6_1).f0).size:Int)))+(((rd_T58 l0 x6_1).f1).size:Int))]):=⟨_,rfl⟩
      replace H:(copseref7_Cut.l0 k1 l0 y290 (wrap64 (x6_1+1)))=some (r1,r2,r3):=by first|(rw[hy290];with_reducible exact H)|(have H2_:=(Option.bind_some _ _).symm.trans H;rw[hy290];with_reducible exact H2_)|(have H2_:=(Option.bind_some _ _).symm.trans H;with_reducible exact H2_)|with_reducible exact H|(rw[hy290];exact H)|exact H
      have Ny290:=Aside0.mk hy290
      clear hy290
      have H':=Aside0.mk H
      clear H
      try go_wp2
      have n0_:=Aside0.mk (Kd.R_drew HO_5.out)
      have n1_:=Aside0.mk (below_drew1 HB.out)
      clear HO_5
      clear HB
      have HO_5:=n0_
      have HB:=n1_
      clear n0_ n1_
      have p288:0≤(x6_1:Int):=of_decide_eq_true (by assumption)
      have q288:x6_1<(l0.length:Int):=of_decide_eq_true (by assumption)
      obtain⟨ad288,e288,hx288_0,hx288_1⟩:=at_T58 HR0.out x6_1 p288 q288
      have hw288_1:=hx288_1
      have hw288_0:=hx288_0
      cases e288
      replace hx288_0:=(HB.out.cell (World.block_lt_of_cell? w _ hx288_0)).trans hx288_0
      replace hx288_1:=(HB.out.cell (World.block_lt_of_cell? w _ hx288_1)).trans hx288_1
      replace p288:=eq_true p288
      replace q288:=eq_true q288
      have p289:0≤(x6_1:Int):=of_decide_eq_true (by assumption)
      have q289:x6_1<(l0.length:Int):=of_decide_eq_true (by assumption)
      obtain⟨ad289,e289,hx289_0,hx289_1⟩:=at_T58 HR0.out x6_1 p289 q289
      have hw289_1:=hx289_1
      have hw289_0:=hx289_0
      obtain rfl:ad288=ad289:=(by injection e289)
      replace hx289_0:=(HB.out.cell (World.block_lt_of_cell? w _ hx289_0)).trans hx289_0
      replace hx289_1:=(HB.out.cell (World.block_lt_of_cell? w _ hx289_1)).trans hx289_1
      replace p289:=eq_true p289
      replace q289:=eq_true q289
      refine start_ (n:=18) (S:=fun w'=>w'.cell? (ad288.add ((x6_1).toNat*2))=some (.string ((rd_T58 l0 x6_1).f0))∧w'.cell? ⟨(ad288.add ((x6_1).toNat*2)).block,(ad288.add ((x6_1).toNat*2)).off+1,none⟩=some (.string ((rd_T58 l0 x6_1).f1))∧w'.cell? (ad288.add ((x6_1).toNat*2))=some (.string ((rd_T58 l0 x6_1).f0))∧w'.cell? ⟨(ad288.add ((x6_1).toNat*2)).block,(ad288.add ((x6_1).toNat*2)).off+1,none⟩=some (.string ((rd_T58 l0 x6_1).f1))) (ds:=[]) #[false,false,false,false,false,false,false,false,false,false,false,false,false,false,false,false,false,false] (by kernel_rfl) rfl rfl ⟨((HB.out.cell (World.block_lt_of_cell? w _ hw288_0)).trans hw288_0),((HB.out.cell (World.block_lt_of_cell? w _ hw288_1)).trans hw288_1),((HB.out.cell (World.block_lt_of_cell? w _ hw289_0)).trans hw289_0),((HB.out.cell (World.block_lt_of_cell? w _ hw289_1)).trans hw289_1)⟩ (fun hHeld=>?_);refine with_tabW copseref7_Cut.tab5 copseref7_Cut.bits5 (fun HT_ HW_=>?_)
      generalize wr.drew=w5 at HO_5 HB hx288_0 hx288_1 hx289_0 hx289_1 hHeld ⊢
      refine pure_ (i:=0) (N:=some 18) (v:=?_) (a':=?_) #[true,false,false,false,false,false,false,false,false,false,false,false,false,false,false,false,false,false] rfl rfl (any_of HT_.out (by kernel_rfl)) (fun _ _ _ h=>h) (Or.inl ⟨by rfl,?_⟩) ?_ ?_
      rotate_left
      ·
       intro w'
       go_simp
       with_reducible rfl
      rotate_left
      ·
       simp only[pt_]
       rfl
      refine pure_ (i:=1) (N:=some 19) (v:=?_) (a':=?_) #[true,true,false,false,false,false,false,false,false,false,false,false,false,false,false,false,false,false] rfl rfl (any_of HT_.out (by kernel_rfl)) (fun _ _ _ h=>h) (Or.inl ⟨by rfl,?_⟩) ?_ ?_
      rotate_left
      ·
       intro w'
       go_simp
       with_reducible rfl
      rotate_left
      ·
       simp only[pt_]
       rfl
      refine pure_ (i:=2) (N:=some 20) (v:=?_) (a':=?_) #[true,true,true,false,false,false,false,false,false,false,false,false,false,false,false,false,false,false] rfl rfl (any_of HT_.out (by kernel_rfl)) (fun _ _ _ h=>h) (Or.inl ⟨by rfl,?_⟩) ?_ ?_
      rotate_left
      ·
       intro w'
       go_simp
       with_reducible rfl
      rotate_left
      ·
       simp only[pt_]
       rfl
      refine pure_ (i:=3) (N:=some 21) (v:=?_) (a':=?_) #[true,true,true,true,false,false,false,false,false,false,false,false,false,false,false,false,false,false] rfl rfl (any_of HT_.out (by kernel_rfl)) (fun _ _ _ h=>h) (Or.inl ⟨by rfl,?_⟩) ?_ ?_
      rotate_left
      ·
       intro w'
       go_simp
       with_reducible rfl
      rotate_left
      ·
       simp only[pt_]
       rfl
      refine pure_ (i:=4) (N:=some 22) (v:=?_) (a':=?_) #[true,true,true,true,true,false,false,false,false,false,false,false,false,false,false,false,false,false] rfl rfl (any_of HT_.out (by kernel_rfl)) (fun _ _ _ h=>h) (Or.inl ⟨by rfl,?_⟩) ?_ ?_
      rotate_left
      ·
       intro w'
       go_simp
       with_reducible rfl
      rotate_left
      ·
       simp only[pt_]
       rfl
      refine pure_ (i:=8) (N:=some 26) (v:=?_) (a':=?_) #[true,true,true,true,true,false,false,false,true,false,false,false,false,false,false,false,false,false] rfl rfl (any_of HT_.out (by kernel_rfl)) (fun _ _ _ h=>h) (Or.inl ⟨by rfl,?_⟩) ?_ ?_
      rotate_left
      ·
       intro w'
       go_simp
       with_reducible rfl
      rotate_left
      ·
       simp only[pt_]
       rfl
      refine pure_ (i:=9) (N:=some 27) (v:=?_) (a':=?_) #[true,true,true,true,true,false,false,false,true,true,false,false,false,false,false,false,false,false] rfl rfl (any_of HT_.out (by kernel_rfl)) (fun _ _ _ h=>h) (Or.inl ⟨by rfl,?_⟩) ?_ ?_
      rotate_left
      ·
       intro w'
       go_simp
       with_reducible rfl
      rotate_left
      ·
       simp only[pt_]
       rfl
      refine pure_ (i:=10) (N:=some 28) (v:=?_) (a':=?_) #[true,true,true,true,true,false,false,false,true,true,true,false,false,false,false,false,false,false] rfl rfl (any_of HT_.out (by kernel_rfl)) (fun _ _ _ h=>h) (Or.inl ⟨by rfl,?_⟩) ?_ ?_
      rotate_left
      ·
       intro w'
       go_simp
       with_reducible rfl
      rotate_left
      ·
       simp only[pt_]
       rfl
      refine pure_ (i:=11) (N:=some 29) (v:=?_) (a':=?_) #[true,true,true,true,true,false,false,false,true,true,true,true,false,false,false,false,false,false] rfl rfl (any_of HT_.out (by kernel_rfl)) (fun _ _ _ h=>h) (Or.inl ⟨by rfl,?_⟩) ?_ ?_
      rotate_left
      ·
       intro w'
       go_simp
       with_reducible rfl
      rotate_left
      ·
       simp only[pt_]
       rfl
      refine take_ (i:=5) (N:=some 23) (v:=?_) (a':=?_) #[true,true,true,true,true,true,false,false,true,true,true,true,false,false,false,false,false,false] rfl rfl (take_ofW HT_.out HW_.out (by kernel_rfl)) (fun _ _ _ h=>h) (Or.inl ⟨by rfl,?_⟩) hHeld ?_ ?_
      rotate_left
      ·
       rintro w' ⟨s0,s1,s2,s3⟩
       go_simp
       with_reducible rfl
      rotate_left
      ·
       simp only[pt_]
       rfl
      refine pure_ (i:=6) (N:=some 24) (v:=?_) (a':=?_) #[true,true,true,true,true,true,true,false,true,true,true,true,false,false,false,false,false,false] rfl rfl (any_of HT_.out (by kernel_rfl)) (fun _ _ _ h=>h) (Or.inl ⟨by rfl,?_⟩) ?_ ?_
      rotate_left
      ·
       intro w'
       go_simp
       with_reducible rfl
      rotate_left
      ·
       simp only[pt_]
       rfl
      refine pure_ (i:=7) (N:=some 25) (v:=?_) (a':=?_) #[true,true,true,true,true,true,true,true,true,true,true,true,false,false,false,false,false,false] rfl rfl (any_of HT_.out (by kernel_rfl)) (fun _ _ _ h=>h) (Or.inl ⟨by rfl,?_⟩) ?_ ?_
      rotate_left
      ·
       intro w'
       go_simp
       with_reducible rfl
      rotate_left
      ·
       simp only[pt_]
       rfl
      refine take_ (i:=12) (N:=some 30) (v:=?_) (a':=?_) #[true,true,true,true,true,true,true,true,true,true,true,true,true,false,false,false,false,false] rfl rfl (take_ofW HT_.out HW_.out (by kernel_rfl)) (fun _ _ _ h=>h) (Or.inl ⟨by rfl,?_⟩) hHeld ?_ ?_
      rotate_left
      ·
       rintro w' ⟨s0,s1,s2,s3⟩
       go_simp
       with_reducible rfl
      rotate_left
      ·
       simp only[pt_]
       rfl
      refine pure_ (i:=13) (N:=some 31) (v:=?_) (a':=?_) #[true,true,true,true,true,true,true,true,true,true,true,true,true,true,false,false,false,false] rfl rfl (any_of HT_.out (by kernel_rfl)) (fun _ _ _ h=>h) (Or.inl ⟨by rfl,?_⟩) ?_ ?_
      rotate_left
      ·
       intro w'
       go_simp
       with_reducible rfl
      rotate_left
      ·
       simp only[pt_]
       rfl
      refine pure_ (i:=14) (N:=some 32) (v:=?_) (a':=?_) #[true,true,true,true,true,true,true,true,true,true,true,true,true,true,true,false,false,false] rfl rfl (any_of HT_.out (by kernel_rfl)) (fun _ _ _ h=>h) (Or.inl ⟨by rfl,?_⟩) ?_ ?_
      rotate_left
      ·
       intro w'
       go_simp
       with_reducible rfl
      rotate_left
      ·
       simp only[pt_]
       rfl
      refine one_ (i:=15) (N:=some 33) #[true,true,true,true,true,true,true,true,true,true,true,true,true,true,true,true,false,false] rfl rfl (one_of HT_.out (by kernel_rfl)) (by decide) (fun K hK=>?_)
      refine value_ (w1:=?_) (v:=?_) (by rfl) rfl ?_ ?_
      rotate_left 2
      ·
       go_simp
       constructor
       ·
        rfl
       ·
        rfl
      refine hK.out _ _ ⟨(World.cell?_alloc_lt _ _ _ (World.block_lt_of_cell? _ _ (((HB.out.cell (World.block_lt_of_cell? w _ hw288_0)).trans hw288_0)))).trans (((HB.out.cell (World.block_lt_of_cell? w _ hw288_0)).trans hw288_0)),(World.cell?_alloc_lt _ _ _ (World.block_lt_of_cell? _ _ (((HB.out.cell (World.block_lt_of_cell? w _ hw288_1)).trans hw288_1)))).trans (((HB.out.cell (World.block_lt_of_cell? w _ hw288_1)).trans hw288_1)),(World.cell?_alloc_lt _ _ _ (World.block_lt_of_cell? _ _ (((HB.out.cell (World.block_lt_of_cell? w _ hw289_0)).trans hw289_0)))).trans (((HB.out.cell (World.block_lt_of_cell? w _ hw289_0)).trans hw289_0)),(World.cell?_alloc_lt _ _ _ (World.block_lt_of_cell? _ _ (((HB.out.cell (World.block_lt_of_cell? w _ hw289_1)).trans hw289_1)))).trans (((HB.out.cell (World.block_lt_of_cell? w _ hw289_1)).trans hw289_1))⟩ (fun hHeld=>?_)
      clear hK K
      refine norm_ (a':=?_) ?_ ?_
      rotate_left
      ·
       show Act.put _ (some 33) _=_
       simp only[pt_]
       rfl
      refine one_ (i:=16) (N:=some 34) #[true,true,true,true,true,true,true,true,true,true,true,true,true,true,true,true,true,false] rfl rfl (one_of HT_.out (by kernel_rfl)) (by decide) (fun K hK=>?_)
      refine Kd.R_append_step (Kd.int .i64) (w0:=w) w.heap.size (by rfl) (.tmp 18) (.tmp 33) 65 3 (.int .i64 0) 8 rfl Tryd.underlying65 info3 rfl (by decide) (by omega) u5 x5_1 (wrap64 ((wrap64 (5+(((rd_T58 l0 x6_1).f0).size:Int)))+(((rd_T58 l0 x6_1).f1).size:Int))) [.int .i64 (wrap64 ((wrap64 (5+(((rd_T58 l0 x6_1).f0).size:Int)))+(((rd_T58 l0 x6_1).f1).size:Int)))] (fun _=>True) (fun _=>False) rfl rfl ?aP (fun _ hk=>hk.elim) ?aF ?aO ?aB ?aS ?aL ?_
      (case aP=>exact rfl)
      (case aB=>exact (upB HB.out))
      (case aF=>exact (fun _ _=>trivial))
      (case aO=>exact (upK HO_5.out))
      (case aS=>exact (below_size (upB HB.out)))
      (case aL=>have:=LMc4.out;omega)
      intro v291 w6 ho hb hg hat
      rw[←Ny290.out] at ho
      have n0_:=Aside0.mk (hb)
      have n1_:=Aside0.mk (ho)
      clear HB
      clear HO_5
      have HB:=n0_
      have HO292:=n1_
      clear n0_ n1_
      clear ho hb hg hat
      refine hK.out _ _ ⟨((HB.out.cell (World.block_lt_of_cell? w _ hw288_0)).trans hw288_0),((HB.out.cell (World.block_lt_of_cell? w _ hw288_1)).trans hw288_1),((HB.out.cell (World.block_lt_of_cell? w _ hw289_0)).trans hw289_0),((HB.out.cell (World.block_lt_of_cell? w _ hw289_1)).trans hw289_1)⟩ (fun hHeld=>?_)
      clear hK K
      refine norm_ (a':=?_) ?_ ?_
      rotate_left
      ·
       show Act.put _ (some 34) _=_
       simp only[pt_]
       rfl
      refine pure_ (i:=17) (N:=some 5) (v:=?_) (a':=?_) #[true,true,true,true,true,true,true,true,true,true,true,true,true,true,true,true,true,true] rfl rfl (any_of HT_.out (by kernel_rfl)) (fun _ _ _ h=>h) (Or.inl ⟨by rfl,?_⟩) ?_ ?_
      rotate_left
      ·
       intro w'
       go_simp
       with_reducible rfl
      rotate_left
      ·
       simp only[pt_]
       rfl
      refine done_ (done_of HT_.out (by kernel_rfl)) ?_
      try go_wp2
      go_roundg k1
      case measure=>have:=HK1.out;omega
      case rel=>exact ⟨(y290),(wrap64 (x6_1+1)),(by first|rfl|(simp;done)|(simp[*];done)),H',⟨by have:=HK1.out;omega⟩,⟨by (with_reducible repeat (first|apply Kd.R_alloc|apply Kd.R_drewN|apply Kd.R_drew));exact HO292.out⟩,⟨upB HB.out⟩⟩
     ·
      rw[if_neg c4] at H
      exact absurd H (by simp)
    ·
     rw[if_neg c3] at H
     exact absurd H (by simp)
   ·
    rw[if_neg c2] at H
    have c2b0:decide (x6_1<(l0.length:Int))=false:=decide_eq_false c2
    clear c2
    replace H:=Option.bind_eq_some_iff.mp H
    obtain⟨⟨t293,t294⟩,A70,H⟩:=H
    try dsimp only at H
    have A7:=Aside0.mk A70
    clear A70
    by_cases c8:t294=0
    ·
     rw[if_pos c8] at H
     have c8b0:(t294==0)=true:=beq_iff_eq.mpr c8
     have c8b1:(t294 != 0)=false:=bne_eq_false_iff_eq.mpr c8
     clear c8
     have H':=Aside0.mk H
     clear H
     obtain⟨Ao9,co9,eo9⟩:=Kd.R_slice HO_5.out
     subst eo9
     go_wp2_with (first|((with_reducible refine gate_callee (f:=37) rfl ?_);refine goesL_ (some 37) rfl rfl Tryd.func37 (by kernel_rfl) rfl #[.slice Ao9 x5_1.length co9] rfl (by (try simp only[ml_]);first|done|rfl|(simp only[List.length_drop,List.length_take];rfl)) ?_;(with_reducible refine (copseref6_Cut.calls k1 _ _ x5_1 t293 t294 _ ?side1 ?side2 A7.out).mono ?_);(case side1=>exact upC (Kd.R_reads' HO_5.out).2.2);(case side2=>exact (Kd.R_reads' HO_5.out).2.1);rintro e w' ⟨rfl,⟨nd,rfl⟩⟩;refine ⟨_,rfl,?_⟩))
     go_loopg [9,10,11] k1 (fun kq v9 v10 v11 w'=>∃ (x9_2:List (S58)) (x10_2:List (S58)) (x11_2:Int),v11=.int .i64 x11_2∧Aside0 (copseref7_Cut.l1 kq l0 t293 x9_2 x10_2 x11_2=some (r1,r2,r3))∧Aside0 (kq≤k1)∧Aside0 (Kd.R k58 58 w' w.heap.size (fun k_=>some k_≠(v10:Value).ownBlock) v9 x9_2)∧Aside0 (Kd.R k58 58 w' w.heap.size (fun k_=>some k_≠(v9:Value).ownBlock) v10 x10_2)∧Aside0 (Below w.heap.size w w'))
     case atStart=>exact ⟨(([]:List (S58))),(([]:List (S58))),(0),(by first|rfl|(simp;done)|(simp[*];done)),H',⟨Nat.le_refl _⟩,⟨by first|exact Kd.R_nil _ _ _ _ _|exact Kd.N_nil _ _ _ _ _|exact Kd.V_nil _ _ _ _ _|exact Kd.Q_nil _ _ _ _ _|exact Kd.S_nil _ _ _ _ _⟩,⟨by first|exact Kd.R_nil _ _ _ _ _|exact Kd.N_nil _ _ _ _ _|exact Kd.V_nil _ _ _ _ _|exact Kd.Q_nil _ _ _ _ _|exact Kd.S_nil _ _ _ _ _⟩,⟨upB HB.out⟩⟩
     case round=>
      clear H'
      try clear c1
      try clear c2
      try clear c2b0
      try clear p2
      try clear q2
      try clear hx2
      try clear c3
      try clear c3b0
      try clear c4
      try clear p6
      try clear c8
      try clear c8b0
      try clear c8b1
      try clear hx288_0
      try clear hx288_1
      try clear hx289_0
      try clear hx289_1
      try clear p288
      try clear p289
      try clear q288
      try clear q289
      obtain⟨x9_2,x10_2,x11_2,rfl,HA,HK2,HO_9,HO_10,HB⟩:=hrel
      cases gk with
      |zero=>exact absurd HA.out (by simp[copseref7_Cut.l1])
      |succ k2=>
       have H:=HA.out
       clear HA
       simp only[copseref7_Cut.l1] at H
       by_cases c10:x11_2<(l0.length:Int)
       ·
        rw[if_pos c10] at H
        have c10b0:decide (x11_2<(l0.length:Int))=true:=decide_eq_true c10
        clear c10
        by_cases c11:x11_2<t293
        ·
         rw[if_pos c11] at H
         have c11b0:decide (x11_2<t293)=true:=decide_eq_true c11
         clear c11
         by_cases c12:0≤x11_2
         ·
          rw[if_pos c12] at H
          have c12b0:decide (0≤x11_2)=true:=decide_eq_true c12
          clear c12
          by_cases c13:x9_2.length<4398046511104
          ·
           rw[if_pos c13] at H
           have LMc13:=Aside0.mk c13
           clear c13
           obtain⟨y296,hy296⟩ : ∃ y_:List (S58),y_=(x9_2++[(⟨(rd_T58 l0 x11_2).f0,(rd_T58 l0 x11_2).f1⟩:S58)]):=⟨_,rfl⟩
           replace H:(copseref7_Cut.l1 k2 l0 t293 y296 x10_2 (wrap64 (x11_2+1)))=some (r1,r2,r3):=by first|(rw[hy296];with_reducible exact H)|(have H2_:=(Option.bind_some _ _).symm.trans H;rw[hy296];with_reducible exact H2_)|(have H2_:=(Option.bind_some _ _).symm.trans H;with_reducible exact H2_)|with_reducible exact H|(rw[hy296];exact H)|exact H
           have Ny296:=Aside0.mk hy296
           clear hy296
           have H':=Aside0.mk H
           clear H
           have p295:0≤(x11_2:Int):=of_decide_eq_true (by assumption)
           have q295:x11_2<(l0.length:Int):=of_decide_eq_true (by assumption)
           obtain⟨ad295,e295,hx295_0,hx295_1⟩:=at_T58 HR0.out x11_2 p295 q295
           cases e295
           replace hx295_0:=(HB.out.cell (World.block_lt_of_cell? w _ hx295_0)).trans hx295_0
           replace hx295_1:=(HB.out.cell (World.block_lt_of_cell? w _ hx295_1)).trans hx295_1
           replace p295:=eq_true p295
           replace q295:=eq_true q295
           go_wp2_with (first|((with_reducible refine gate_builtin (b:=.append) (xs:=#[.tmp 52,.tmp 57]) rfl ?_);at_builtin;refine Kd.R_append k58 (w0:=w) w.heap.size rfl (.tmp 52) (.tmp 57) 22 58 (.agg #[(.string ⟨#[]⟩),(.string ⟨#[]⟩)]) 32 rfl Tryd.underlying22 info58 rfl (by decide) (by omega) u9 x9_2 (⟨(rd_T58 l0 x11_2).f0,(rd_T58 l0 x11_2).f1⟩:S58) [.string ((rd_T58 l0 x11_2).f0),.string ((rd_T58 l0 x11_2).f1)] (fun k_=>some k_≠(u10:Value).ownBlock) (fun _=>False) rfl rfl ?aP (fun _ hk=>hk.elim) ?aF ?aO ?aB ?aS ?aL ?_;(case aP=>exact k58_mkM _ _ _ (⟨(rd_T58 l0 x11_2).f0,(rd_T58 l0 x11_2).f1⟩:S58));(case aB=>exact (upB HB.out));(case aF=>exact (fun k_ hk=>Kd.fresh' (Kd.R_lt (upK HO_10.out)) k_ hk));(case aO=>exact (upK HO_9.out));(case aS=>exact (below_size (upB HB.out)));(case aL=>have:=LMc13.out;omega);intro v297 w14 ho hb hg hat;rw[←Ny296.out] at ho;have n0_:=Aside0.mk (Kd.R_after (ok:=(fun _=>True)) (by exact Kd.R_mono (upK HO_10.out) (fun _ hk=>⟨trivial,hk⟩)) hg hat);have n1_:=Aside0.mk (hb);have n2_:=Aside0.mk (ho);clear HO_10;clear HB;clear HO_9;have HO_10:=n0_;have HB:=n1_;have HO298:=n2_;clear n0_ n1_ n2_;clear ho hb hg hat))
           go_roundg k2
           case measure=>have:=HK1.out;have:=HK2.out;omega
           case rel=>exact ⟨(y296),(x10_2),(wrap64 (x11_2+1)),(by first|rfl|(simp;done)|(simp[*];done)),H',⟨by have:=HK1.out;have:=HK2.out;omega⟩,⟨by (with_reducible repeat (first|apply Kd.R_alloc|apply Kd.R_drewN|apply Kd.R_drew));exact HO298.out⟩,⟨by exact Kd.R_mono (upK HO_10.out) (fun _ hk=>hk.2)⟩,⟨upB HB.out⟩⟩
          ·
           rw[if_neg c13] at H
           exact absurd H (by simp)
         ·
          rw[if_neg c12] at H
          exact absurd H (by simp)
        ·
         rw[if_neg c11] at H
         have c11b0:decide (x11_2<t293)=false:=decide_eq_false c11
         clear c11
         by_cases c15:0≤x11_2
         ·
          rw[if_pos c15] at H
          have c15b0:decide (0≤x11_2)=true:=decide_eq_true c15
          clear c15
          by_cases c16:x10_2.length<4398046511104
          ·
           rw[if_pos c16] at H
           have LMc16:=Aside0.mk c16
           clear c16
           obtain⟨y300,hy300⟩ : ∃ y_:List (S58),y_=(x10_2++[(⟨(rd_T58 l0 x11_2).f0,(rd_T58 l0 x11_2).f1⟩:S58)]):=⟨_,rfl⟩
           replace H:(copseref7_Cut.l1 k2 l0 t293 x9_2 y300 (wrap64 (x11_2+1)))=some (r1,r2,r3):=by first|(rw[hy300];with_reducible exact H)|(have H2_:=(Option.bind_some _ _).symm.trans H;rw[hy300];with_reducible exact H2_)|(have H2_:=(Option.bind_some _ _).symm.trans H;with_reducible exact H2_)|with_reducible exact H|(rw[hy300];exact H)|exact H
           have Ny300:=Aside0.mk hy300
           clear hy300
           have H':=Aside0.mk H
           clear H
           have p299:0≤(x11_2:Int):=of_decide_eq_true (by assumption)
           have q299:x11_2<(l0.length:Int):=of_decide_eq_true (by assumption)
           obtain⟨ad299,e299,hx299_0,hx299_1⟩:=at_T58 HR0.out x11_2 p299 q299
           cases e299
           replace hx299_0:=(HB.out.cell (World.block_lt_of_cell? w _ hx299_0)).trans hx299_0
           replace hx299_1:=(HB.out.cell (World.block_lt_of_cell? w _ hx299_1)).trans hx299_1
           replace p299:=eq_true p299
           replace q299:=eq_true q299
           go_wp2_with (first|((with_reducible refine gate_builtin (b:=.append) (xs:=#[.tmp 59,.tmp 64]) rfl ?_);at_builtin;refine Kd.R_append k58 (w0:=w) w.heap.size rfl (.tmp 59) (.tmp 64) 22 58 (.agg #[(.string ⟨#[]⟩),(.string ⟨#[]⟩)]) 32 rfl Tryd.underlying22 info58 rfl (by decide) (by omega) u10 x10_2 (⟨(rd_T58 l0 x11_2).f0,(rd_T58 l0 x11_2).f1⟩:S58) [.string ((rd_T58 l0 x11_2).f0),.string ((rd_T58 l0 x11_2).f1)] (fun k_=>some k_≠(u9:Value).ownBlock) (fun _=>False) rfl rfl ?aP (fun _ hk=>hk.elim) ?aF ?aO ?aB ?aS ?aL ?_;(case aP=>exact k58_mkM _ _ _ (⟨(rd_T58 l0 x11_2).f0,(rd_T58 l0 x11_2).f1⟩:S58));(case aB=>exact (upB HB.out));(case aF=>exact (fun k_ hk=>Kd.fresh' (Kd.R_lt (upK HO_9.out)) k_ hk));(case aO=>exact (upK HO_10.out));(case aS=>exact (below_size (upB HB.out)));(case aL=>have:=LMc16.out;omega);intro v301 w17 ho hb hg hat;rw[←Ny300.out] at ho;have n0_:=Aside0.mk (Kd.R_after (ok:=(fun _=>True)) (by exact Kd.R_mono (upK HO_9.out) (fun _ hk=>⟨trivial,hk⟩)) hg hat);have n1_:=Aside0.mk (hb);have n2_:=Aside0.mk (ho);clear HO_9;clear HB;clear HO_10;have HO_9:=n0_;have HB:=n1_;have HO302:=n2_;clear n0_ n1_ n2_;clear ho hb hg hat))
           go_roundg k2
           case measure=>have:=HK1.out;have:=HK2.out;omega
           case rel=>exact ⟨(x9_2),(y300),(wrap64 (x11_2+1)),(by first|rfl|(simp;done)|(simp[*];done)),H',⟨by have:=HK1.out;have:=HK2.out;omega⟩,⟨by exact Kd.R_mono (upK HO_9.out) (fun _ hk=>hk.2)⟩,⟨by (with_reducible repeat (first|apply Kd.R_alloc|apply Kd.R_drewN|apply Kd.R_drew));exact HO302.out⟩,⟨upB HB.out⟩⟩
          ·
           rw[if_neg c16] at H
           exact absurd H (by simp)
         ·
          rw[if_neg c15] at H
          exact absurd H (by simp)
       ·
        rw[if_neg c10] at H
        have c10b0:decide (x11_2<(l0.length:Int))=false:=decide_eq_false c10
        clear c10
        simp only[Option.some.injEq,Prod.mk.injEq] at H
        obtain⟨rfl,rfl,rfl⟩:=H
        go_wp2
        go_ret3
        exact ⟨_,_,by first|rfl|(simp[errW_none,errW_some] <;> rfl)|(simp[*,errW_none,errW_some] <;> rfl),by (with_reducible repeat (first|apply Kd.R_alloc|apply Kd.R_drewN|apply Kd.R_drew));exact HO_9.out,by (with_reducible repeat (first|apply Kd.R_alloc|apply Kd.R_drewN|apply Kd.R_drew));exact HO_10.out,upB HB.out⟩
    ·
     rw[if_neg c8] at H
     have c8b0:(t294==0)=false:=beq_eq_false_iff_ne.mpr c8
     have c8b1:(t294 != 0)=true:=bne_iff_ne.mpr c8
     simp only[Option.some.injEq,Prod.mk.injEq] at H
     obtain⟨rfl,rfl,rfl⟩:=H
     obtain⟨Ao18,co18,eo18⟩:=Kd.R_slice HO_5.out
     subst eo18
     go_wp2_with (first|((with_reducible refine gate_callee (f:=37) rfl ?_);refine goesL_ (some 37) rfl rfl Tryd.func37 (by kernel_rfl) rfl #[.slice Ao18 x5_1.length co18] rfl (by (try simp only[ml_]);first|done|rfl|(simp only[List.length_drop,List.length_take];rfl)) ?_;(with_reducible refine (copseref6_Cut.calls k1 _ _ x5_1 t293 t294 _ ?side1 ?side2 A7.out).mono ?_);(case side1=>exact upC (Kd.R_reads' HO_5.out).2.2);(case side2=>exact (Kd.R_reads' HO_5.out).2.1);rintro e w' ⟨rfl,⟨nd,rfl⟩⟩;refine ⟨_,rfl,?_⟩))
     go_ret3
     exact ⟨_,_,by first|rfl|(simp[errW_none,errW_some] <;> rfl)|(simp[*,errW_none,errW_some] <;> rfl),by first|exact Kd.R_nil _ _ _ _ _|exact Kd.N_nil _ _ _ _ _|exact Kd.V_nil _ _ _ _ _|exact Kd.Q_nil _ _ _ _ _|exact Kd.S_nil _ _ _ _ _,by first|exact Kd.R_nil _ _ _ _ _|exact Kd.N_nil _ _ _ _ _|exact Kd.V_nil _ _ _ _ _|exact Kd.Q_nil _ _ _ _ _|exact Kd.S_nil _ _ _ _ _,upB HB.out⟩

end Go.Proofs.YtdailhlghlledaaDoor.XLeafNew
