-- Printed for this claim by a program (wip/printx) that builds on the kit's print. Not trusted: Lean checks it.
-- slim
import Derived.Test.YtdailhlghlledaaDoorXLeafNewx0
import Derived.Test.YtdailhlghlledaaDoorXLeafNewx9
namespace Go.Proofs.YtdailhlghlledaaDoor.XLeafNew
open Go.RowKit Go.Proofs.YtdailhlghlledaaDoorW.PrintWords Go.Proofs.YtdailhlghlledaaDoorW.PrintLast Go.Proofs.YtdailhlghlledaaDoorW.PrintMore
attribute [local go_sem] max2_int min2_int max_two min_two max_three min_three max_four min_four   -- for this text's walks alone
set_option linter.unusedVariables false
set_option linter.unusedSimpArgs false

/-! ### copsekit_Num: function 16 -/
def copsekit_Num.f (a0:Option Int):Option (Int):=if a0.isNone=true then (some 0) else (if en (a0.getD 0)=en 1 then (some 1) else (if en (a0.getD 0)=en 2 then (some 2) else (if en (a0.getD 0)=en 3 then (some 3) else (if en (a0.getD 0)=en 4 then (some 4) else (if en (a0.getD 0)=en 5 then (some 5) else (if en (a0.getD 0)=en 6 then (some 6) else (if en (a0.getD 0)=en 7 then (some 7) else ((copsekit_more.f (some (a0.getD 0))).bind fun t270=>(some t270)))))))))
set_option maxHeartbeats 8000000 in
set_option maxRecDepth 100000 in
theorem copsekit_Num.calls (E:Int→Addr) (a0:Option Int) (r:Int) (w:World) (hG:Glob E w) (h:copsekit_Num.f a0=some r) :
  Calls Tryd.prog 16 #[errW E a0] w fun e w'=>e=.returned (.int .i64 r)∧Drawn0 w w':=by
 have hu28:=Tryd.underlying28
 have hu100:=Tryd.underlying100
 have HG:=Aside0.mk hG
 clear hG
 have H:(if a0.isNone=true then (some 0) else (if en (a0.getD 0)=en 1 then (some 1) else (if en (a0.getD 0)=en 2 then (some 2) else (if en (a0.getD 0)=en 3 then (some 3) else (if en (a0.getD 0)=en 4 then (some 4) else (if en (a0.getD 0)=en 5 then (some 5) else (if en (a0.getD 0)=en 6 then (some 6) else (if en (a0.getD 0)=en 7 then (some 7) else ((copsekit_more.f (some (a0.getD 0))).bind fun t270=>(some t270))))))))))=some r:=h
 clear h
 rcases a0 with _|q269
 ·
  have H1:(some 0)=some r:=by rw[if_pos (show (none:Option Int).isNone=true by rfl)] at H;exact H
  clear H
  have H:=H1
  clear H1
  simp only[errW_none,errW_some]
  obtain rfl:=Option.some.inj H
  go_enter Tryd.func16,Tryd.ntmps16
  go_wp2
  go_ret
  exact ⟨by first|rfl|(simp;done)|(simp[*];done),by repeat (first|exact Drawn0.refl _|apply Drawn0.step)⟩
 ·
  have H1:(if en q269=en 1 then (some 1) else (if en q269=en 2 then (some 2) else (if en q269=en 3 then (some 3) else (if en q269=en 4 then (some 4) else (if en q269=en 5 then (some 5) else (if en q269=en 6 then (some 6) else (if en q269=en 7 then (some 7) else ((copsekit_more.f (some q269)).bind fun t270=>(some t270)))))))))=some r:=by rw[if_neg (show ¬ (some q269).isNone=true by simp)] at H;exact H
  clear H
  have H:=H1
  clear H1
  simp only[errW_none,errW_some]
  by_cases c2:en q269=en 1
  ·
   rw[if_pos c2] at H
   have c2b0:(en q269==en 1)=true:=beq_iff_eq.mpr c2
   have c2b1:(en q269 != en 1)=false:=bne_eq_false_iff_eq.mpr c2
   clear c2
   obtain rfl:=Option.some.inj H
   have hx3:w.cell? ⟨0,0,none⟩=some (errW E (some 1)):=Glob.c0 (upG HG.out)
   simp only[errW_some] at hx3
   have hx4:=fun n_=>Glob.eql_drewN ((upG HG.out):Glob E w) n_ q269 1
   simp only[errW_some] at hx4
   have hx5:=Glob.eql ((upG HG.out):Glob E w) q269 1
   simp only[errW_some] at hx5
   go_enter Tryd.func16,Tryd.ntmps16
   go_wp2
   go_ret
   exact ⟨by first|rfl|(simp;done)|(simp[*];done),by repeat (first|exact Drawn0.refl _|apply Drawn0.step)⟩
  ·
   rw[if_neg c2] at H
   have c2b0:(en q269==en 1)=false:=beq_eq_false_iff_ne.mpr c2
   have c2b1:(en q269 != en 1)=true:=bne_iff_ne.mpr c2
   by_cases c6:en q269=en 2
   ·
    rw[if_pos c6] at H
    have c6b0:(en q269==en 2)=true:=beq_iff_eq.mpr c6
    have c6b1:(en q269 != en 2)=false:=bne_eq_false_iff_eq.mpr c6
    clear c6
    obtain rfl:=Option.some.inj H
    have hx7:w.cell? ⟨0,0,none⟩=some (errW E (some 1)):=Glob.c0 (upG HG.out)
    simp only[errW_some] at hx7
    have hx8:=fun n_=>Glob.eql_drewN ((upG HG.out):Glob E w) n_ q269 1
    simp only[errW_some] at hx8
    have hx9:=Glob.eql ((upG HG.out):Glob E w) q269 1
    simp only[errW_some] at hx9
    have hx10:w.cell? ⟨4,0,none⟩=some (errW E (some 2)):=Glob.c4 (upG HG.out)
    simp only[errW_some] at hx10
    have hx11:=fun n_=>Glob.eql_drewN ((upG HG.out):Glob E w) n_ q269 2
    simp only[errW_some] at hx11
    have hx12:=Glob.eql ((upG HG.out):Glob E w) q269 2
    simp only[errW_some] at hx12
    go_enter Tryd.func16,Tryd.ntmps16
    go_wp2
    go_ret
    exact ⟨by first|rfl|(simp;done)|(simp[*];done),by repeat (first|exact Drawn0.refl _|apply Drawn0.step)⟩
   ·
    rw[if_neg c6] at H
    have c6b0:(en q269==en 2)=false:=beq_eq_false_iff_ne.mpr c6
    have c6b1:(en q269 != en 2)=true:=bne_iff_ne.mpr c6
    by_cases c13:en q269=en 3
    ·
     rw[if_pos c13] at H
     have c13b0:(en q269==en 3)=true:=beq_iff_eq.mpr c13
     have c13b1:(en q269 != en 3)=false:=bne_eq_false_iff_eq.mpr c13
     clear c13
     obtain rfl:=Option.some.inj H
     have hx14:w.cell? ⟨0,0,none⟩=some (errW E (some 1)):=Glob.c0 (upG HG.out)
     simp only[errW_some] at hx14
     have hx15:=fun n_=>Glob.eql_drewN ((upG HG.out):Glob E w) n_ q269 1
     simp only[errW_some] at hx15
     have hx16:=Glob.eql ((upG HG.out):Glob E w) q269 1
     simp only[errW_some] at hx16
     have hx17:w.cell? ⟨4,0,none⟩=some (errW E (some 2)):=Glob.c4 (upG HG.out)
     simp only[errW_some] at hx17
     have hx18:=fun n_=>Glob.eql_drewN ((upG HG.out):Glob E w) n_ q269 2
     simp only[errW_some] at hx18
     have hx19:=Glob.eql ((upG HG.out):Glob E w) q269 2
     simp only[errW_some] at hx19
     have hx20:w.cell? ⟨2,0,none⟩=some (errW E (some 3)):=Glob.c2 (upG HG.out)
     simp only[errW_some] at hx20
     have hx21:=fun n_=>Glob.eql_drewN ((upG HG.out):Glob E w) n_ q269 3
     simp only[errW_some] at hx21
     have hx22:=Glob.eql ((upG HG.out):Glob E w) q269 3
     simp only[errW_some] at hx22
     go_enter Tryd.func16,Tryd.ntmps16
     go_wp2
     go_ret
     exact ⟨by first|rfl|(simp;done)|(simp[*];done),by repeat (first|exact Drawn0.refl _|apply Drawn0.step)⟩
    ·
     rw[if_neg c13] at H
     have c13b0:(en q269==en 3)=false:=beq_eq_false_iff_ne.mpr c13
     have c13b1:(en q269 != en 3)=true:=bne_iff_ne.mpr c13
     by_cases c23:en q269=en 4
     ·
      rw[if_pos c23] at H
      have c23b0:(en q269==en 4)=true:=beq_iff_eq.mpr c23
      have c23b1:(en q269 != en 4)=false:=bne_eq_false_iff_eq.mpr c23
      clear c23
      obtain rfl:=Option.some.inj H
      have hx24:w.cell? ⟨0,0,none⟩=some (errW E (some 1)):=Glob.c0 (upG HG.out)
      simp only[errW_some] at hx24
      have hx25:=fun n_=>Glob.eql_drewN ((upG HG.out):Glob E w) n_ q269 1
      simp only[errW_some] at hx25
      have hx26:=Glob.eql ((upG HG.out):Glob E w) q269 1
      simp only[errW_some] at hx26
      have hx27:w.cell? ⟨4,0,none⟩=some (errW E (some 2)):=Glob.c4 (upG HG.out)
      simp only[errW_some] at hx27
      have hx28:=fun n_=>Glob.eql_drewN ((upG HG.out):Glob E w) n_ q269 2
      simp only[errW_some] at hx28
      have hx29:=Glob.eql ((upG HG.out):Glob E w) q269 2
      simp only[errW_some] at hx29
      have hx30:w.cell? ⟨2,0,none⟩=some (errW E (some 3)):=Glob.c2 (upG HG.out)
      simp only[errW_some] at hx30
      have hx31:=fun n_=>Glob.eql_drewN ((upG HG.out):Glob E w) n_ q269 3
      simp only[errW_some] at hx31
      have hx32:=Glob.eql ((upG HG.out):Glob E w) q269 3
      simp only[errW_some] at hx32
      have hx33:w.cell? ⟨3,0,none⟩=some (errW E (some 4)):=Glob.c3 (upG HG.out)
      simp only[errW_some] at hx33
      have hx34:=fun n_=>Glob.eql_drewN ((upG HG.out):Glob E w) n_ q269 4
      simp only[errW_some] at hx34
      have hx35:=Glob.eql ((upG HG.out):Glob E w) q269 4
      simp only[errW_some] at hx35
      go_enter Tryd.func16,Tryd.ntmps16
      go_wp2
      go_ret
      exact ⟨by first|rfl|(simp;done)|(simp[*];done),by repeat (first|exact Drawn0.refl _|apply Drawn0.step)⟩
     ·
      rw[if_neg c23] at H
      have c23b0:(en q269==en 4)=false:=beq_eq_false_iff_ne.mpr c23
      have c23b1:(en q269 != en 4)=true:=bne_iff_ne.mpr c23
      by_cases c36:en q269=en 5
      ·
       rw[if_pos c36] at H
       have c36b0:(en q269==en 5)=true:=beq_iff_eq.mpr c36
       have c36b1:(en q269 != en 5)=false:=bne_eq_false_iff_eq.mpr c36
       clear c36
       obtain rfl:=Option.some.inj H
       have hx37:w.cell? ⟨0,0,none⟩=some (errW E (some 1)):=Glob.c0 (upG HG.out)
       simp only[errW_some] at hx37
       have hx38:=fun n_=>Glob.eql_drewN ((upG HG.out):Glob E w) n_ q269 1
       simp only[errW_some] at hx38
       have hx39:=Glob.eql ((upG HG.out):Glob E w) q269 1
       simp only[errW_some] at hx39
       have hx40:w.cell? ⟨4,0,none⟩=some (errW E (some 2)):=Glob.c4 (upG HG.out)
       simp only[errW_some] at hx40
       have hx41:=fun n_=>Glob.eql_drewN ((upG HG.out):Glob E w) n_ q269 2
       simp only[errW_some] at hx41
       have hx42:=Glob.eql ((upG HG.out):Glob E w) q269 2
       simp only[errW_some] at hx42
       have hx43:w.cell? ⟨2,0,none⟩=some (errW E (some 3)):=Glob.c2 (upG HG.out)
       simp only[errW_some] at hx43
       have hx44:=fun n_=>Glob.eql_drewN ((upG HG.out):Glob E w) n_ q269 3
       simp only[errW_some] at hx44
       have hx45:=Glob.eql ((upG HG.out):Glob E w) q269 3
       simp only[errW_some] at hx45
       have hx46:w.cell? ⟨3,0,none⟩=some (errW E (some 4)):=Glob.c3 (upG HG.out)
       simp only[errW_some] at hx46
       have hx47:=fun n_=>Glob.eql_drewN ((upG HG.out):Glob E w) n_ q269 4
       simp only[errW_some] at hx47
       have hx48:=Glob.eql ((upG HG.out):Glob E w) q269 4
       simp only[errW_some] at hx48
       have hx49:w.cell? ⟨5,0,none⟩=some (errW E (some 5)):=Glob.c5 (upG HG.out)
       simp only[errW_some] at hx49
       have hx50:=fun n_=>Glob.eql_drewN ((upG HG.out):Glob E w) n_ q269 5
       simp only[errW_some] at hx50
       have hx51:=Glob.eql ((upG HG.out):Glob E w) q269 5
       simp only[errW_some] at hx51
       go_enter Tryd.func16,Tryd.ntmps16
       go_wp2
       go_ret
       exact ⟨by first|rfl|(simp;done)|(simp[*];done),by repeat (first|exact Drawn0.refl _|apply Drawn0.step)⟩
      ·
       rw[if_neg c36] at H
       have c36b0:(en q269==en 5)=false:=beq_eq_false_iff_ne.mpr c36
       have c36b1:(en q269 != en 5)=true:=bne_iff_ne.mpr c36
       by_cases c52:en q269=en 6
       ·
        rw[if_pos c52] at H
        have c52b0:(en q269==en 6)=true:=beq_iff_eq.mpr c52
        have c52b1:(en q269 != en 6)=false:=bne_eq_false_iff_eq.mpr c52
        clear c52
        obtain rfl:=Option.some.inj H
        have hx53:w.cell? ⟨0,0,none⟩=some (errW E (some 1)):=Glob.c0 (upG HG.out)
        simp only[errW_some] at hx53
        have hx54:=fun n_=>Glob.eql_drewN ((upG HG.out):Glob E w) n_ q269 1
        simp only[errW_some] at hx54
        have hx55:=Glob.eql ((upG HG.out):Glob E w) q269 1
        simp only[errW_some] at hx55
        have hx56:w.cell? ⟨4,0,none⟩=some (errW E (some 2)):=Glob.c4 (upG HG.out)
        simp only[errW_some] at hx56
        have hx57:=fun n_=>Glob.eql_drewN ((upG HG.out):Glob E w) n_ q269 2
        simp only[errW_some] at hx57
        have hx58:=Glob.eql ((upG HG.out):Glob E w) q269 2
        simp only[errW_some] at hx58
        have hx59:w.cell? ⟨2,0,none⟩=some (errW E (some 3)):=Glob.c2 (upG HG.out)
        simp only[errW_some] at hx59
        have hx60:=fun n_=>Glob.eql_drewN ((upG HG.out):Glob E w) n_ q269 3
        simp only[errW_some] at hx60
        have hx61:=Glob.eql ((upG HG.out):Glob E w) q269 3
        simp only[errW_some] at hx61
        have hx62:w.cell? ⟨3,0,none⟩=some (errW E (some 4)):=Glob.c3 (upG HG.out)
        simp only[errW_some] at hx62
        have hx63:=fun n_=>Glob.eql_drewN ((upG HG.out):Glob E w) n_ q269 4
        simp only[errW_some] at hx63
        have hx64:=Glob.eql ((upG HG.out):Glob E w) q269 4
        simp only[errW_some] at hx64
        have hx65:w.cell? ⟨5,0,none⟩=some (errW E (some 5)):=Glob.c5 (upG HG.out)
        simp only[errW_some] at hx65
        have hx66:=fun n_=>Glob.eql_drewN ((upG HG.out):Glob E w) n_ q269 5
        simp only[errW_some] at hx66
        have hx67:=Glob.eql ((upG HG.out):Glob E w) q269 5
        simp only[errW_some] at hx67
        have hx68:w.cell? ⟨6,0,none⟩=some (errW E (some 6)):=Glob.c6 (upG HG.out)
        simp only[errW_some] at hx68
        have hx69:=fun n_=>Glob.eql_drewN ((upG HG.out):Glob E w) n_ q269 6
        simp only[errW_some] at hx69
        have hx70:=Glob.eql ((upG HG.out):Glob E w) q269 6
        simp only[errW_some] at hx70
        go_enter Tryd.func16,Tryd.ntmps16
        go_wp2
        go_ret
        exact ⟨by first|rfl|(simp;done)|(simp[*];done),by repeat (first|exact Drawn0.refl _|apply Drawn0.step)⟩
       ·
        rw[if_neg c52] at H
        have c52b0:(en q269==en 6)=false:=beq_eq_false_iff_ne.mpr c52
        have c52b1:(en q269 != en 6)=true:=bne_iff_ne.mpr c52
        by_cases c71:en q269=en 7
        ·
         rw[if_pos c71] at H
         have c71b0:(en q269==en 7)=true:=beq_iff_eq.mpr c71
         have c71b1:(en q269 != en 7)=false:=bne_eq_false_iff_eq.mpr c71
         clear c71
         obtain rfl:=Option.some.inj H
         have hx72:w.cell? ⟨0,0,none⟩=some (errW E (some 1)):=Glob.c0 (upG HG.out)
         simp only[errW_some] at hx72
         have hx73:=fun n_=>Glob.eql_drewN ((upG HG.out):Glob E w) n_ q269 1
         simp only[errW_some] at hx73
         have hx74:=Glob.eql ((upG HG.out):Glob E w) q269 1
         simp only[errW_some] at hx74
         have hx75:w.cell? ⟨4,0,none⟩=some (errW E (some 2)):=Glob.c4 (upG HG.out)
         simp only[errW_some] at hx75
         have hx76:=fun n_=>Glob.eql_drewN ((upG HG.out):Glob E w) n_ q269 2
         simp only[errW_some] at hx76
         have hx77:=Glob.eql ((upG HG.out):Glob E w) q269 2
         simp only[errW_some] at hx77
         have hx78:w.cell? ⟨2,0,none⟩=some (errW E (some 3)):=Glob.c2 (upG HG.out)
         simp only[errW_some] at hx78
         have hx79:=fun n_=>Glob.eql_drewN ((upG HG.out):Glob E w) n_ q269 3
         simp only[errW_some] at hx79
         have hx80:=Glob.eql ((upG HG.out):Glob E w) q269 3
         simp only[errW_some] at hx80
         have hx81:w.cell? ⟨3,0,none⟩=some (errW E (some 4)):=Glob.c3 (upG HG.out)
         simp only[errW_some] at hx81
         have hx82:=fun n_=>Glob.eql_drewN ((upG HG.out):Glob E w) n_ q269 4
         simp only[errW_some] at hx82
         have hx83:=Glob.eql ((upG HG.out):Glob E w) q269 4
         simp only[errW_some] at hx83
         have hx84:w.cell? ⟨5,0,none⟩=some (errW E (some 5)):=Glob.c5 (upG HG.out)
         simp only[errW_some] at hx84
         have hx85:=fun n_=>Glob.eql_drewN ((upG HG.out):Glob E w) n_ q269 5
         simp only[errW_some] at hx85
         have hx86:=Glob.eql ((upG HG.out):Glob E w) q269 5
         simp only[errW_some] at hx86
         have hx87:w.cell? ⟨6,0,none⟩=some (errW E (some 6)):=Glob.c6 (upG HG.out)
         simp only[errW_some] at hx87
         have hx88:=fun n_=>Glob.eql_drewN ((upG HG.out):Glob E w) n_ q269 6
         simp only[errW_some] at hx88
         have hx89:=Glob.eql ((upG HG.out):Glob E w) q269 6
         simp only[errW_some] at hx89
         have hx90:w.cell? ⟨7,0,none⟩=some (errW E (some 7)):=Glob.c7 (upG HG.out)
         simp only[errW_some] at hx90
         have hx91:=fun n_=>Glob.eql_drewN ((upG HG.out):Glob E w) n_ q269 7
         simp only[errW_some] at hx91
         have hx92:=Glob.eql ((upG HG.out):Glob E w) q269 7
         simp only[errW_some] at hx92
         go_enter Tryd.func16,Tryd.ntmps16
         go_wp2
         go_ret
         exact ⟨by first|rfl|(simp;done)|(simp[*];done),by repeat (first|exact Drawn0.refl _|apply Drawn0.step)⟩
        ·
         rw[if_neg c71] at H
         have c71b0:(en q269==en 7)=false:=beq_eq_false_iff_ne.mpr c71
         have c71b1:(en q269 != en 7)=true:=bne_iff_ne.mpr c71
         replace H:=Option.bind_eq_some_iff.mp H
         obtain⟨t270,A930,H⟩:=H
         try dsimp only at H
         have A93:=Aside0.mk A930
         clear A930
         obtain rfl:=Option.some.inj H
         have hx94:w.cell? ⟨0,0,none⟩=some (errW E (some 1)):=Glob.c0 (upG HG.out)
         simp only[errW_some] at hx94
         have hx95:=fun n_=>Glob.eql_drewN ((upG HG.out):Glob E w) n_ q269 1
         simp only[errW_some] at hx95
         have hx96:=Glob.eql ((upG HG.out):Glob E w) q269 1
         simp only[errW_some] at hx96
         have hx97:w.cell? ⟨4,0,none⟩=some (errW E (some 2)):=Glob.c4 (upG HG.out)
         simp only[errW_some] at hx97
         have hx98:=fun n_=>Glob.eql_drewN ((upG HG.out):Glob E w) n_ q269 2
         simp only[errW_some] at hx98
         have hx99:=Glob.eql ((upG HG.out):Glob E w) q269 2
         simp only[errW_some] at hx99
         have hx100:w.cell? ⟨2,0,none⟩=some (errW E (some 3)):=Glob.c2 (upG HG.out)
         simp only[errW_some] at hx100
         have hx101:=fun n_=>Glob.eql_drewN ((upG HG.out):Glob E w) n_ q269 3
         simp only[errW_some] at hx101
         have hx102:=Glob.eql ((upG HG.out):Glob E w) q269 3
         simp only[errW_some] at hx102
         have hx103:w.cell? ⟨3,0,none⟩=some (errW E (some 4)):=Glob.c3 (upG HG.out)
         simp only[errW_some] at hx103
         have hx104:=fun n_=>Glob.eql_drewN ((upG HG.out):Glob E w) n_ q269 4
         simp only[errW_some] at hx104
         have hx105:=Glob.eql ((upG HG.out):Glob E w) q269 4
         simp only[errW_some] at hx105
         have hx106:w.cell? ⟨5,0,none⟩=some (errW E (some 5)):=Glob.c5 (upG HG.out)
         simp only[errW_some] at hx106
         have hx107:=fun n_=>Glob.eql_drewN ((upG HG.out):Glob E w) n_ q269 5
         simp only[errW_some] at hx107
         have hx108:=Glob.eql ((upG HG.out):Glob E w) q269 5
         simp only[errW_some] at hx108
         have hx109:w.cell? ⟨6,0,none⟩=some (errW E (some 6)):=Glob.c6 (upG HG.out)
         simp only[errW_some] at hx109
         have hx110:=fun n_=>Glob.eql_drewN ((upG HG.out):Glob E w) n_ q269 6
         simp only[errW_some] at hx110
         have hx111:=Glob.eql ((upG HG.out):Glob E w) q269 6
         simp only[errW_some] at hx111
         have hx112:w.cell? ⟨7,0,none⟩=some (errW E (some 7)):=Glob.c7 (upG HG.out)
         simp only[errW_some] at hx112
         have hx113:=fun n_=>Glob.eql_drewN ((upG HG.out):Glob E w) n_ q269 7
         simp only[errW_some] at hx113
         have hx114:=Glob.eql ((upG HG.out):Glob E w) q269 7
         simp only[errW_some] at hx114
         have CA93:=fun (W:World) (hG_:Glob E W)=>copsekit_more.calls E (some q269) t270 W hG_ A93.out
         try simp only[errW_none,errW_some] at CA93
         go_enter Tryd.func16,Tryd.ntmps16
         go_wp2_with (first|(go_at_call 34;(with_reducible refine (CA93 _ ?side1).mono ?_);(case side1=>exact (upG HG.out));rintro e w' ⟨rfl,⟨nd,rfl⟩⟩))
         go_ret
         exact ⟨by first|rfl|(simp;done)|(simp[*];done),by repeat (first|exact Drawn0.refl _|apply Drawn0.step)⟩

/-! ### copseref7_MayBe: function 35 -/
def copseref7_MayBe.f (a0_0:ByteArray) (a0_1:ByteArray):Option (Bool):=if (a0_0.size:Int)≥1 then (if (a0_0.size:Int)≤255 then (some (decide ((a0_1.size:Int)≤700))) else (some false)) else (some false)
set_option maxHeartbeats 8000000 in
set_option maxRecDepth 100000 in
theorem copseref7_MayBe.calls (a0_0:ByteArray) (a0_1:ByteArray) (r:Bool) (w:World) (h:copseref7_MayBe.f a0_0 a0_1=some r) :
  Calls Tryd.prog 35 #[.agg #[.string a0_0,.string a0_1]] w fun e w'=>e=.returned (.bool r)∧Below w.heap.size w w':=by
 have hu58:=Tryd.underlying58
 have HB:=Aside0.mk (Below.refl w.heap.size w)
 have H:(if (a0_0.size:Int)≥1 then (if (a0_0.size:Int)≤255 then (some (decide ((a0_1.size:Int)≤700))) else (some false)) else (some false))=some r:=h
 clear h
 by_cases c2:(a0_0.size:Int)≥1
 ·
  rw[if_pos c2] at H
  have c2b0:decide (1≤(a0_0.size:Int))=true:=decide_eq_true c2
  have c2b1:decide (1≤a0_0.size)=true:=decide_eq_true (by omega)
  clear c2
  by_cases c3:(a0_0.size:Int)≤255
  ·
   rw[if_pos c3] at H
   have c3b0:decide ((a0_0.size:Int)≤255)=true:=decide_eq_true c3
   have c3b1:decide (a0_0.size≤255)=true:=decide_eq_true (by omega)
   clear c3
   obtain rfl:=Option.some.inj H
   go_enter Tryd.func35,Tryd.ntmps35
   go_wp2_with (first|((with_reducible refine gate_dst (N:=1) rfl ?_);(try (refine gate_guard (by rfl) ?_;dsimp only));refine box_event ?hg (N:=1) ?hd (cs:=#[.string a0_0,.string a0_1]) (t:=58) ?hr ?_;(case hd=>rfl);(case hg=>rfl);(case hr=>first|(go_simp;done)|(go_simp;rfl));intro gb271 hg w4 hbox hb;have n0_:=Aside0.mk (below_step (upB HB.out) hb);have n1_:=Aside0.mk (hbox);have n2_:=Aside0.mk ((by rw[hg];exact (below_size (upB HB.out)):w.heap.size≤gb271));have n3_:=Aside0.mk ((by rw[hg];exact (below_size (upB HB.out)):w.heap.size≤gb271));clear HB;have HB:=n0_;have BK271:=n1_;have GW271:=n2_;have GE271:=n3_;clear n0_ n1_ n2_ n3_;clear hb hbox hg;have hcz5_0:w4.cell? ⟨gb271,0,none⟩=some (.string a0_0):=(blk_cell BK271.out 0).trans rfl;have hcz5_1:w4.cell? ⟨gb271,1,none⟩=some (.string a0_1):=(blk_cell BK271.out 1).trans rfl;have hfz5_0:=blk_frozen BK271.out 0;have hfz5_1:=blk_frozen BK271.out 1))
   go_ret
   exact ⟨by first|rfl|(simp[errW_none,errW_some] <;> rfl)|(simp[*,errW_none,errW_some] <;> rfl),by repeat (first|exact upB HB.out|refine below_set ?_ GE271.out|apply pw_below_drewN)⟩
  ·
   rw[if_neg c3] at H
   have c3b0:decide ((a0_0.size:Int)≤255)=false:=decide_eq_false c3
   have c3b1:decide (a0_0.size≤255)=false:=decide_eq_false (by omega)
   clear c3
   obtain rfl:=Option.some.inj H
   go_enter Tryd.func35,Tryd.ntmps35
   go_wp2_with (first|((with_reducible refine gate_dst (N:=1) rfl ?_);(try (refine gate_guard (by rfl) ?_;dsimp only));refine box_event ?hg (N:=1) ?hd (cs:=#[.string a0_0,.string a0_1]) (t:=58) ?hr ?_;(case hd=>rfl);(case hg=>rfl);(case hr=>first|(go_simp;done)|(go_simp;rfl));intro gb271 hg w6 hbox hb;have n0_:=Aside0.mk (below_step (upB HB.out) hb);have n1_:=Aside0.mk (hbox);have n2_:=Aside0.mk ((by rw[hg];exact (below_size (upB HB.out)):w.heap.size≤gb271));have n3_:=Aside0.mk ((by rw[hg];exact (below_size (upB HB.out)):w.heap.size≤gb271));clear HB;have HB:=n0_;have BK271:=n1_;have GW271:=n2_;have GE271:=n3_;clear n0_ n1_ n2_ n3_;clear hb hbox hg;have hcz7_0:w6.cell? ⟨gb271,0,none⟩=some (.string a0_0):=(blk_cell BK271.out 0).trans rfl;have hcz7_1:w6.cell? ⟨gb271,1,none⟩=some (.string a0_1):=(blk_cell BK271.out 1).trans rfl;have hfz7_0:=blk_frozen BK271.out 0;have hfz7_1:=blk_frozen BK271.out 1))
   go_ret
   exact ⟨by first|rfl|(simp[errW_none,errW_some] <;> rfl)|(simp[*,errW_none,errW_some] <;> rfl),by repeat (first|exact upB HB.out|refine below_set ?_ GE271.out|apply pw_below_drewN)⟩
 ·
  rw[if_neg c2] at H
  have c2b0:decide (1≤(a0_0.size:Int))=false:=decide_eq_false c2
  have c2b1:decide (1≤a0_0.size)=false:=decide_eq_false (by omega)
  clear c2
  obtain rfl:=Option.some.inj H
  go_enter Tryd.func35,Tryd.ntmps35
  go_wp2_with (first|((with_reducible refine gate_dst (N:=1) rfl ?_);(try (refine gate_guard (by rfl) ?_;dsimp only));refine box_event ?hg (N:=1) ?hd (cs:=#[.string a0_0,.string a0_1]) (t:=58) ?hr ?_;(case hd=>rfl);(case hg=>rfl);(case hr=>first|(go_simp;done)|(go_simp;rfl));intro gb271 hg w8 hbox hb;have n0_:=Aside0.mk (below_step (upB HB.out) hb);have n1_:=Aside0.mk (hbox);have n2_:=Aside0.mk ((by rw[hg];exact (below_size (upB HB.out)):w.heap.size≤gb271));have n3_:=Aside0.mk ((by rw[hg];exact (below_size (upB HB.out)):w.heap.size≤gb271));clear HB;have HB:=n0_;have BK271:=n1_;have GW271:=n2_;have GE271:=n3_;clear n0_ n1_ n2_ n3_;clear hb hbox hg;have hcz9_0:w8.cell? ⟨gb271,0,none⟩=some (.string a0_0):=(blk_cell BK271.out 0).trans rfl;have hcz9_1:w8.cell? ⟨gb271,1,none⟩=some (.string a0_1):=(blk_cell BK271.out 1).trans rfl;have hfz9_0:=blk_frozen BK271.out 0;have hfz9_1:=blk_frozen BK271.out 1))
  go_ret
  exact ⟨by first|rfl|(simp[errW_none,errW_some] <;> rfl)|(simp[*,errW_none,errW_some] <;> rfl),by repeat (first|exact upB HB.out|refine below_set ?_ GE271.out|apply pw_below_drewN)⟩

/-! ### copseref7_Check: function 17 -/
mutual
def copseref7_Check.l0:Nat→List (S58)→Bool→Int→Option (Int)
 |0,_,_,_=>none
 |k+1,x0,x1,x5=>if x5<(x0.length:Int) then (if 0≤x5 then ((copseref7_MayBe.f ((rd_T58 x0 x5).f0) ((rd_T58 x0 x5).f1)).bind fun t273=>(if t273=true then (copseref7_Check.l0 k x0 x1 (wrap64 (x5+1))) else (some 1))) else (none)) else (copseref7_Check.l1 k x0 x1 1)
def copseref7_Check.l1:Nat→List (S58)→Bool→Int→Option (Int)
 |0,_,_,_=>none
 |k+1,x0,x1,x7=>if x7<(x0.length:Int) then (if 0≤(wrap64 (x7 - 1)) then (if (wrap64 (x7 - 1))<(x0.length:Int) then (if 0≤x7 then (if ((Op.bytesLess (((rd_T58 x0 (wrap64 (x7 - 1))).f0).toList) (((rd_T58 x0 x7).f0).toList))=true) then (copseref7_Check.l1 k x0 x1 (wrap64 (x7+1))) else (some 12)) else (none)) else (none)) else (none)) else ((copseref7_Size.f k x0).bind fun t276=>(if t276 > 4072 then (some 3) else (if (x0.length:Int)=0 then (some 4) else (if x1=true then (some 0) else (if t276<1556 then (some 4) else (some 0))))))
end
def copseref7_Check.f (k:Nat) (l0:List (S58)) (a1:Bool):Option (Int):=copseref7_Check.l0 k l0 a1 0
theorem copseref7_Check.mono_l : ∀ k,(∀ y0 y1 y2,LeO (copseref7_Check.l0 k y0 y1 y2) (copseref7_Check.l0 (k+1) y0 y1 y2))∧(∀ y0 y1 y2,LeO (copseref7_Check.l1 k y0 y1 y2) (copseref7_Check.l1 (k+1) y0 y1 y2))
 |0=>⟨fun _ _ _ r h=>by simp[copseref7_Check.l0] at h,fun _ _ _ r h=>by simp[copseref7_Check.l1] at h⟩
 |k+1=>by
  obtain⟨ih0,ih1⟩:=copseref7_Check.mono_l k
  refine ⟨?_,?_⟩
  ·
   intro y0 y1 y2
   unfold copseref7_Check.l0
   repeat' first
   |(with_reducible exact ih0 _ _ _)
   |(with_reducible exact ih1 _ _ _)
   |(with_reducible exact copseref7_Size.mono _ _)
   |(with_reducible exact LeO.refl _)
   |(with_reducible exact LeO.none _)
   |(with_reducible refine LeO.ite ?_ ?_)
   |(with_reducible refine LeO.bind ?_ (fun _=>?_))
   |exact ih0 _ _ _
   |exact ih1 _ _ _
   |exact copseref7_Size.mono _ _
   |exact LeO.none _
   |refine LeO.ite ?_ ?_
   |refine LeO.bind ?_ (fun _=>?_)
  ·
   intro y0 y1 y2
   unfold copseref7_Check.l1
   repeat' first
   |(with_reducible exact ih0 _ _ _)
   |(with_reducible exact ih1 _ _ _)
   |(with_reducible exact copseref7_Size.mono _ _)
   |(with_reducible exact LeO.refl _)
   |(with_reducible exact LeO.none _)
   |(with_reducible refine LeO.ite ?_ ?_)
   |(with_reducible refine LeO.bind ?_ (fun _=>?_))
   |exact ih0 _ _ _
   |exact ih1 _ _ _
   |exact copseref7_Size.mono _ _
   |exact LeO.none _
   |refine LeO.ite ?_ ?_
   |refine LeO.bind ?_ (fun _=>?_)
theorem copseref7_Check.mono : ∀ a0 a1 k,LeO (copseref7_Check.f k a0 a1) (copseref7_Check.f (k+1) a0 a1):=by
 intro a0 a1 k
 obtain⟨ih0,ih1⟩:=copseref7_Check.mono_l k
 unfold copseref7_Check.f
 repeat' first
   |(with_reducible exact ih0 _ _ _)
   |(with_reducible exact ih1 _ _ _)
   |(with_reducible exact copseref7_Size.mono _ _)
   |(with_reducible exact LeO.refl _)
   |(with_reducible exact LeO.none _)
   |(with_reducible refine LeO.ite ?_ ?_)
   |(with_reducible refine LeO.bind ?_ (fun _=>?_))
   |exact ih0 _ _ _
   |exact ih1 _ _ _
   |exact copseref7_Size.mono _ _
   |exact LeO.none _
   |refine LeO.ite ?_ ?_
   |refine LeO.bind ?_ (fun _=>?_)
set_option maxHeartbeats 8000000 in
set_option maxRecDepth 100000 in
theorem copseref7_Check.calls (k:Nat) (A0:Option Addr) (c0:Nat) (l0:List (S58)) (a1:Bool) (r:Int) (w:World) (hr0:Kd.C k58 w A0 l0.length l0) (hc0:l0.length≤c0) (h:copseref7_Check.f k l0 a1=some r) :
  Calls Tryd.prog 17 #[.slice A0 l0.length c0,.bool a1] w fun e w'=>e=.returned (.int .i64 r)∧Below w.heap.size w w':=by
 have hu58:=Tryd.underlying58
 have HR0:=Aside0.mk hr0
 have HC0:=Aside0.mk hc0
 clear hr0 hc0
 have HB:=Aside0.mk (Below.refl w.heap.size w)
 have H:(copseref7_Check.l0 k l0 a1 0)=some r:=h
 clear h
 have H':=Aside0.mk H
 clear H
 go_enter Tryd.func17,Tryd.ntmps17
 go_wp2
 repeat (go_quiet (fail);try go_wp2)
 go_loopg [5] k (fun kq v5 w'=>∃ (x5_1:Int),v5=.int .i64 x5_1∧Aside0 (copseref7_Check.l0 kq l0 a1 x5_1=some r)∧Aside0 (kq≤k)∧Aside0 (Below w.heap.size w w'))
 case atStart=>exact ⟨(0),(by first|rfl|(simp;done)|(simp[*];done)),H',⟨Nat.le_refl _⟩,⟨upB HB.out⟩⟩
 case round=>
  clear H'
  try clear c1
  try clear p2
  obtain⟨x5_1,rfl,HA,HK1,HB⟩:=hrel
  cases gk with
  |zero=>exact absurd HA.out (by simp[copseref7_Check.l0])
  |succ k1=>
   have H:=HA.out
   clear HA
   simp only[copseref7_Check.l0] at H
   by_cases c3:x5_1<(l0.length:Int)
   ·
    rw[if_pos c3] at H
    have c3b0:decide (x5_1<(l0.length:Int))=true:=decide_eq_true c3
    clear c3
    by_cases c4:0≤x5_1
    ·
     rw[if_pos c4] at H
     have c4b0:decide (0≤x5_1)=true:=decide_eq_true c4
     clear c4
     replace H:=Option.bind_eq_some_iff.mp H
     obtain⟨t273,A50,H⟩:=H
     try dsimp only at H
     have A5:=Aside0.mk A50
     clear A50
     by_cases c6:t273=true
     ·
      subst c6
      have H1:(copseref7_Check.l0 k1 l0 a1 (wrap64 (x5_1+1)))=some r:=by rw[if_pos rfl] at H;exact H
      clear H
      have H:=H1
      clear H1
      have H':=Aside0.mk H
      clear H
      have p272:0≤(x5_1:Int):=of_decide_eq_true (by assumption)
      have q272:x5_1<(l0.length:Int):=of_decide_eq_true (by assumption)
      obtain⟨ad272,e272,hx272_0,hx272_1⟩:=at_T58 HR0.out x5_1 p272 q272
      cases e272
      replace hx272_0:=(HB.out.cell (World.block_lt_of_cell? w _ hx272_0)).trans hx272_0
      replace hx272_1:=(HB.out.cell (World.block_lt_of_cell? w _ hx272_1)).trans hx272_1
      replace p272:=eq_true p272
      replace q272:=eq_true q272
      go_wp2_with (first|(go_at_call 35;(with_reducible refine (copseref7_MayBe.calls ((rd_T58 l0 x5_1).f0) ((rd_T58 l0 x5_1).f1) true _ A5.out).mono ?_);rintro e w7 ⟨rfl,hb⟩;have n0_:=Aside0.mk (below_step (upB HB.out) hb);clear HB;have HB:=n0_;clear n0_;(try clear hb);(try clear hb2);(try clear hk);(try clear hi)))
      repeat (go_quiet (first|(go_at_call 35;(with_reducible refine (copseref7_MayBe.calls ((rd_T58 l0 x5_1).f0) ((rd_T58 l0 x5_1).f1) true _ A5.out).mono ?_);rintro e w7 ⟨rfl,hb⟩;have n0_:=Aside0.mk (below_step (upB HB.out) hb);clear HB;have HB:=n0_;clear n0_;(try clear hb);(try clear hb2);(try clear hk);(try clear hi)));try go_wp2_with (first|(go_at_call 35;(with_reducible refine (copseref7_MayBe.calls ((rd_T58 l0 x5_1).f0) ((rd_T58 l0 x5_1).f1) true _ A5.out).mono ?_);rintro e w7 ⟨rfl,hb⟩;have n0_:=Aside0.mk (below_step (upB HB.out) hb);clear HB;have HB:=n0_;clear n0_;(try clear hb);(try clear hb2);(try clear hk);(try clear hi))))
      go_roundg k1
      case measure=>have:=HK1.out;omega
      case rel=>exact ⟨(wrap64 (x5_1+1)),(by first|rfl|(simp;done)|(simp[*];done)),H',⟨by have:=HK1.out;omega⟩,⟨upB HB.out⟩⟩
     ·
      replace c6:=Bool.eq_false_iff.mpr c6
      subst c6
      have H1:(some 1)=some r:=by rw[if_neg (show ¬ (false=true) by decide)] at H;exact H
      clear H
      have H:=H1
      clear H1
      obtain rfl:=Option.some.inj H
      have p272:0≤(x5_1:Int):=of_decide_eq_true (by assumption)
      have q272:x5_1<(l0.length:Int):=of_decide_eq_true (by assumption)
      obtain⟨ad272,e272,hx272_0,hx272_1⟩:=at_T58 HR0.out x5_1 p272 q272
      cases e272
      replace hx272_0:=(HB.out.cell (World.block_lt_of_cell? w _ hx272_0)).trans hx272_0
      replace hx272_1:=(HB.out.cell (World.block_lt_of_cell? w _ hx272_1)).trans hx272_1
      replace p272:=eq_true p272
      replace q272:=eq_true q272
      go_wp2_with (first|(go_at_call 35;(with_reducible refine (copseref7_MayBe.calls ((rd_T58 l0 x5_1).f0) ((rd_T58 l0 x5_1).f1) false _ A5.out).mono ?_);rintro e w8 ⟨rfl,hb⟩;have n0_:=Aside0.mk (below_step (upB HB.out) hb);clear HB;have HB:=n0_;clear n0_;(try clear hb);(try clear hb2);(try clear hk);(try clear hi)))
      repeat (go_quiet (first|(go_at_call 35;(with_reducible refine (copseref7_MayBe.calls ((rd_T58 l0 x5_1).f0) ((rd_T58 l0 x5_1).f1) false _ A5.out).mono ?_);rintro e w8 ⟨rfl,hb⟩;have n0_:=Aside0.mk (below_step (upB HB.out) hb);clear HB;have HB:=n0_;clear n0_;(try clear hb);(try clear hb2);(try clear hk);(try clear hi)));try go_wp2_with (first|(go_at_call 35;(with_reducible refine (copseref7_MayBe.calls ((rd_T58 l0 x5_1).f0) ((rd_T58 l0 x5_1).f1) false _ A5.out).mono ?_);rintro e w8 ⟨rfl,hb⟩;have n0_:=Aside0.mk (below_step (upB HB.out) hb);clear HB;have HB:=n0_;clear n0_;(try clear hb);(try clear hb2);(try clear hk);(try clear hi))))
      go_ret
      exact ⟨by first|rfl|(simp[errW_none,errW_some] <;> rfl)|(simp[*,errW_none,errW_some] <;> rfl),upB HB.out⟩
    ·
     rw[if_neg c4] at H
     exact absurd H (by simp)
   ·
    rw[if_neg c3] at H
    have c3b0:decide (x5_1<(l0.length:Int))=false:=decide_eq_false c3
    clear c3
    have H':=Aside0.mk H
    clear H
    go_wp2
    repeat (go_quiet (fail);try go_wp2)
    go_loopg [7] k1 (fun kq v7 w'=>∃ (x7_2:Int),v7=.int .i64 x7_2∧Aside0 (copseref7_Check.l1 kq l0 a1 x7_2=some r)∧Aside0 (kq≤k1)∧Aside0 (Below w.heap.size w w'))
    case atStart=>exact ⟨(1),(by first|rfl|(simp;done)|(simp[*];done)),H',⟨Nat.le_refl _⟩,⟨upB HB.out⟩⟩
    case round=>
     clear H'
     try clear c1
     try clear p2
     try clear q2
     try clear hx2
     try clear c3
     try clear c3b0
     try clear c4
     try clear c4b0
     try clear c6
     try clear p6
     try clear hx272_0
     try clear hx272_1
     try clear p2
     try clear p272
     try clear q272
     obtain⟨x7_2,rfl,HA,HK2,HB⟩:=hrel
     cases gk with
     |zero=>exact absurd HA.out (by simp[copseref7_Check.l1])
     |succ k2=>
      have H:=HA.out
      clear HA
      simp only[copseref7_Check.l1] at H
      by_cases c9:x7_2<(l0.length:Int)
      ·
       rw[if_pos c9] at H
       have c9b0:decide (x7_2<(l0.length:Int))=true:=decide_eq_true c9
       clear c9
       obtain⟨ji10,hji10⟩ : ∃ j_:Int,(wrap64 (x7_2 - 1))=j_:=⟨_,rfl⟩
       replace H:(if 0≤(ji10) then (if (ji10)<(l0.length:Int) then (if 0≤x7_2 then (if ((Op.bytesLess (((rd_T58 l0 (ji10)).f0).toList) (((rd_T58 l0 x7_2).f0).toList))=true) then (copseref7_Check.l1 k2 l0 a1 (wrap64 (x7_2+1))) else (some 12)) else (none)) else (none)) else (none))=some r:=by first|(rw[hji10] at H;exact H)|(simp only[hji10] at H ⊢;exact H)
       have hji10w:(IntKind.i64.wrap (x7_2 - 1))=ji10:=(i64_w _).trans hji10
       by_cases c11:0≤(ji10)
       ·
        rw[if_pos c11] at H
        have c11b0:decide (0≤(ji10))=true:=decide_eq_true c11
        clear c11
        by_cases c12:(ji10)<(l0.length:Int)
        ·
         rw[if_pos c12] at H
         have c12b0:decide ((ji10)<(l0.length:Int))=true:=decide_eq_true c12
         clear c12
         by_cases c13:0≤x7_2
         ·
          rw[if_pos c13] at H
          have c13b0:decide (0≤x7_2)=true:=decide_eq_true c13
          clear c13
          by_cases c14:((Op.bytesLess (((rd_T58 l0 (ji10)).f0).toList) (((rd_T58 l0 x7_2).f0).toList))=true)
          ·
           rw[if_pos c14] at H
           have c14b0:(Op.bytesLess (((rd_T58 l0 (ji10)).f0).toList) (((rd_T58 l0 x7_2).f0).toList))=true:=c14
           clear c14
           have H':=Aside0.mk H
           clear H
           have p274:0≤((ji10):Int):=of_decide_eq_true (by assumption)
           have q274:(ji10)<(l0.length:Int):=of_decide_eq_true (by assumption)
           obtain⟨ad274,e274,hx274_0,hx274_1⟩:=at_T58 HR0.out (ji10) p274 q274
           cases e274
           replace hx274_0:=(HB.out.cell (World.block_lt_of_cell? w _ hx274_0)).trans hx274_0
           replace hx274_1:=(HB.out.cell (World.block_lt_of_cell? w _ hx274_1)).trans hx274_1
           replace p274:=eq_true p274
           replace q274:=eq_true q274
           have p275:0≤(x7_2:Int):=of_decide_eq_true (by assumption)
           have q275:x7_2<(l0.length:Int):=of_decide_eq_true (by assumption)
           obtain⟨ad275,e275,hx275_0,hx275_1⟩:=at_T58 HR0.out x7_2 p275 q275
           obtain rfl:ad274=ad275:=(by injection e275)
           replace hx275_0:=(HB.out.cell (World.block_lt_of_cell? w _ hx275_0)).trans hx275_0
           replace hx275_1:=(HB.out.cell (World.block_lt_of_cell? w _ hx275_1)).trans hx275_1
           replace p275:=eq_true p275
           replace q275:=eq_true q275
           go_wp2
           repeat (go_quiet (fail);try go_wp2)
           go_roundg k2
           case measure=>have:=HK1.out;have:=HK2.out;omega
           case rel=>exact ⟨(wrap64 (x7_2+1)),(by first|rfl|(simp;done)|(simp[*];done)),H',⟨by have:=HK1.out;have:=HK2.out;omega⟩,⟨upB HB.out⟩⟩
          ·
           rw[if_neg c14] at H
           have c14b0:(Op.bytesLess (((rd_T58 l0 (ji10)).f0).toList) (((rd_T58 l0 x7_2).f0).toList))=false:=by simpa using c14
           clear c14
           obtain rfl:=Option.some.inj H
           have p274:0≤((ji10):Int):=of_decide_eq_true (by assumption)
           have q274:(ji10)<(l0.length:Int):=of_decide_eq_true (by assumption)
           obtain⟨ad274,e274,hx274_0,hx274_1⟩:=at_T58 HR0.out (ji10) p274 q274
           cases e274
           replace hx274_0:=(HB.out.cell (World.block_lt_of_cell? w _ hx274_0)).trans hx274_0
           replace hx274_1:=(HB.out.cell (World.block_lt_of_cell? w _ hx274_1)).trans hx274_1
           replace p274:=eq_true p274
           replace q274:=eq_true q274
           have p275:0≤(x7_2:Int):=of_decide_eq_true (by assumption)
           have q275:x7_2<(l0.length:Int):=of_decide_eq_true (by assumption)
           obtain⟨ad275,e275,hx275_0,hx275_1⟩:=at_T58 HR0.out x7_2 p275 q275
           obtain rfl:ad274=ad275:=(by injection e275)
           replace hx275_0:=(HB.out.cell (World.block_lt_of_cell? w _ hx275_0)).trans hx275_0
           replace hx275_1:=(HB.out.cell (World.block_lt_of_cell? w _ hx275_1)).trans hx275_1
           replace p275:=eq_true p275
           replace q275:=eq_true q275
           go_wp2
           repeat (go_quiet (fail);try go_wp2)
           go_ret
           exact ⟨by first|rfl|(simp[errW_none,errW_some] <;> rfl)|(simp only[←hji10];first|rfl|(simp[errW_none,errW_some] <;> rfl))|(simp[*,errW_none,errW_some] <;> rfl),upB HB.out⟩
         ·
          rw[if_neg c13] at H
          exact absurd H (by simp)
        ·
         rw[if_neg c12] at H
         exact absurd H (by simp)
       ·
        rw[if_neg c11] at H
        exact absurd H (by simp)
      ·
       rw[if_neg c9] at H
       have c9b0:decide (x7_2<(l0.length:Int))=false:=decide_eq_false c9
       clear c9
       replace H:=Option.bind_eq_some_iff.mp H
       obtain⟨t276,A150,H⟩:=H
       try dsimp only at H
       have A15:=Aside0.mk A150
       clear A150
       by_cases c16:t276 > 4072
       ·
        rw[if_pos c16] at H
        have c16b0:decide (4072<t276)=true:=decide_eq_true c16
        clear c16
        obtain rfl:=Option.some.inj H
        go_wp2_with (first|(go_at_call 15;(with_reducible refine (copseref7_Size.calls k2 _ _ l0 t276 _ ?side1 ?side2 A15.out).mono ?_);(case side1=>exact upC (Kd.C_below HR0.out HB.out));(case side2=>exact HC0.out);rintro e w' ⟨rfl,⟨nd,rfl⟩⟩;(try first|exact ⟨rfl,_,World.drewN_drewN _ _ _⟩|exact ⟨rfl,_,Eq.trans (World.drewN_drewN _ _ _) (congrArg (World.drewN _) (Nat.add_assoc _ _ _))⟩)))
        repeat (go_quiet (first|(go_at_call 15;(with_reducible refine (copseref7_Size.calls k2 _ _ l0 t276 _ ?side1 ?side2 A15.out).mono ?_);(case side1=>exact upC (Kd.C_below HR0.out HB.out));(case side2=>exact HC0.out);rintro e w' ⟨rfl,⟨nd,rfl⟩⟩;(try first|exact ⟨rfl,_,World.drewN_drewN _ _ _⟩|exact ⟨rfl,_,Eq.trans (World.drewN_drewN _ _ _) (congrArg (World.drewN _) (Nat.add_assoc _ _ _))⟩)));try go_wp2_with (first|(go_at_call 15;(with_reducible refine (copseref7_Size.calls k2 _ _ l0 t276 _ ?side1 ?side2 A15.out).mono ?_);(case side1=>exact upC (Kd.C_below HR0.out HB.out));(case side2=>exact HC0.out);rintro e w' ⟨rfl,⟨nd,rfl⟩⟩;(try first|exact ⟨rfl,_,World.drewN_drewN _ _ _⟩|exact ⟨rfl,_,Eq.trans (World.drewN_drewN _ _ _) (congrArg (World.drewN _) (Nat.add_assoc _ _ _))⟩))))
        go_ret
        exact ⟨by first|rfl|(simp[errW_none,errW_some] <;> rfl)|(simp[*,errW_none,errW_some] <;> rfl),upB HB.out⟩
       ·
        rw[if_neg c16] at H
        have c16b0:decide (4072<t276)=false:=decide_eq_false c16
        clear c16
        by_cases c17:(l0.length:Int)=0
        ·
         rw[if_pos c17] at H
         have c17b0:((l0.length:Int)==0)=true:=beq_iff_eq.mpr c17
         have c17b1:((l0.length:Int) != 0)=false:=bne_eq_false_iff_eq.mpr c17
         clear c17
         obtain rfl:=Option.some.inj H
         go_wp2_with (first|(go_at_call 15;(with_reducible refine (copseref7_Size.calls k2 _ _ l0 t276 _ ?side1 ?side2 A15.out).mono ?_);(case side1=>exact upC (Kd.C_below HR0.out HB.out));(case side2=>exact HC0.out);rintro e w' ⟨rfl,⟨nd,rfl⟩⟩;(try first|exact ⟨rfl,_,World.drewN_drewN _ _ _⟩|exact ⟨rfl,_,Eq.trans (World.drewN_drewN _ _ _) (congrArg (World.drewN _) (Nat.add_assoc _ _ _))⟩)))
         repeat (go_quiet (first|(go_at_call 15;(with_reducible refine (copseref7_Size.calls k2 _ _ l0 t276 _ ?side1 ?side2 A15.out).mono ?_);(case side1=>exact upC (Kd.C_below HR0.out HB.out));(case side2=>exact HC0.out);rintro e w' ⟨rfl,⟨nd,rfl⟩⟩;(try first|exact ⟨rfl,_,World.drewN_drewN _ _ _⟩|exact ⟨rfl,_,Eq.trans (World.drewN_drewN _ _ _) (congrArg (World.drewN _) (Nat.add_assoc _ _ _))⟩)));try go_wp2_with (first|(go_at_call 15;(with_reducible refine (copseref7_Size.calls k2 _ _ l0 t276 _ ?side1 ?side2 A15.out).mono ?_);(case side1=>exact upC (Kd.C_below HR0.out HB.out));(case side2=>exact HC0.out);rintro e w' ⟨rfl,⟨nd,rfl⟩⟩;(try first|exact ⟨rfl,_,World.drewN_drewN _ _ _⟩|exact ⟨rfl,_,Eq.trans (World.drewN_drewN _ _ _) (congrArg (World.drewN _) (Nat.add_assoc _ _ _))⟩))))
         go_ret
         exact ⟨by first|rfl|(simp[errW_none,errW_some] <;> rfl)|(simp[*,errW_none,errW_some] <;> rfl),upB HB.out⟩
        ·
         rw[if_neg c17] at H
         have c17b0:((l0.length:Int)==0)=false:=beq_eq_false_iff_ne.mpr c17
         have c17b1:((l0.length:Int) != 0)=true:=bne_iff_ne.mpr c17
         have c17b2 : ¬ (l0=[]):=fun h_=>c17 (by rw[h_];rfl)
         by_cases c18:a1=true
         ·
          subst c18
          have H1:(some 0)=some r:=by rw[if_pos rfl] at H;exact H
          clear H
          have H:=H1
          clear H1
          obtain rfl:=Option.some.inj H
          go_wp2_with (first|(go_at_call 15;(with_reducible refine (copseref7_Size.calls k2 _ _ l0 t276 _ ?side1 ?side2 A15.out).mono ?_);(case side1=>exact upC (Kd.C_below HR0.out HB.out));(case side2=>exact HC0.out);rintro e w' ⟨rfl,⟨nd,rfl⟩⟩;(try first|exact ⟨rfl,_,World.drewN_drewN _ _ _⟩|exact ⟨rfl,_,Eq.trans (World.drewN_drewN _ _ _) (congrArg (World.drewN _) (Nat.add_assoc _ _ _))⟩)))
          repeat (go_quiet (first|(go_at_call 15;(with_reducible refine (copseref7_Size.calls k2 _ _ l0 t276 _ ?side1 ?side2 A15.out).mono ?_);(case side1=>exact upC (Kd.C_below HR0.out HB.out));(case side2=>exact HC0.out);rintro e w' ⟨rfl,⟨nd,rfl⟩⟩;(try first|exact ⟨rfl,_,World.drewN_drewN _ _ _⟩|exact ⟨rfl,_,Eq.trans (World.drewN_drewN _ _ _) (congrArg (World.drewN _) (Nat.add_assoc _ _ _))⟩)));try go_wp2_with (first|(go_at_call 15;(with_reducible refine (copseref7_Size.calls k2 _ _ l0 t276 _ ?side1 ?side2 A15.out).mono ?_);(case side1=>exact upC (Kd.C_below HR0.out HB.out));(case side2=>exact HC0.out);rintro e w' ⟨rfl,⟨nd,rfl⟩⟩;(try first|exact ⟨rfl,_,World.drewN_drewN _ _ _⟩|exact ⟨rfl,_,Eq.trans (World.drewN_drewN _ _ _) (congrArg (World.drewN _) (Nat.add_assoc _ _ _))⟩))))
          go_ret
          exact ⟨by first|rfl|(simp[errW_none,errW_some] <;> rfl)|(simp[*,errW_none,errW_some] <;> rfl),upB HB.out⟩
         ·
          replace c18:=Bool.eq_false_iff.mpr c18
          subst c18
          have H1:(if t276<1556 then (some 4) else (some 0))=some r:=by rw[if_neg (show ¬ (false=true) by decide)] at H;exact H
          clear H
          have H:=H1
          clear H1
          by_cases c19:t276<1556
          ·
           rw[if_pos c19] at H
           have c19b0:decide (t276<1556)=true:=decide_eq_true c19
           clear c19
           obtain rfl:=Option.some.inj H
           go_wp2_with (first|(go_at_call 15;(with_reducible refine (copseref7_Size.calls k2 _ _ l0 t276 _ ?side1 ?side2 A15.out).mono ?_);(case side1=>exact upC (Kd.C_below HR0.out HB.out));(case side2=>exact HC0.out);rintro e w' ⟨rfl,⟨nd,rfl⟩⟩;(try first|exact ⟨rfl,_,World.drewN_drewN _ _ _⟩|exact ⟨rfl,_,Eq.trans (World.drewN_drewN _ _ _) (congrArg (World.drewN _) (Nat.add_assoc _ _ _))⟩)))
           repeat (go_quiet (first|(go_at_call 15;(with_reducible refine (copseref7_Size.calls k2 _ _ l0 t276 _ ?side1 ?side2 A15.out).mono ?_);(case side1=>exact upC (Kd.C_below HR0.out HB.out));(case side2=>exact HC0.out);rintro e w' ⟨rfl,⟨nd,rfl⟩⟩;(try first|exact ⟨rfl,_,World.drewN_drewN _ _ _⟩|exact ⟨rfl,_,Eq.trans (World.drewN_drewN _ _ _) (congrArg (World.drewN _) (Nat.add_assoc _ _ _))⟩)));try go_wp2_with (first|(go_at_call 15;(with_reducible refine (copseref7_Size.calls k2 _ _ l0 t276 _ ?side1 ?side2 A15.out).mono ?_);(case side1=>exact upC (Kd.C_below HR0.out HB.out));(case side2=>exact HC0.out);rintro e w' ⟨rfl,⟨nd,rfl⟩⟩;(try first|exact ⟨rfl,_,World.drewN_drewN _ _ _⟩|exact ⟨rfl,_,Eq.trans (World.drewN_drewN _ _ _) (congrArg (World.drewN _) (Nat.add_assoc _ _ _))⟩))))
           go_ret
           exact ⟨by first|rfl|(simp[errW_none,errW_some] <;> rfl)|(simp[*,errW_none,errW_some] <;> rfl),upB HB.out⟩
          ·
           rw[if_neg c19] at H
           have c19b0:decide (t276<1556)=false:=decide_eq_false c19
           clear c19
           obtain rfl:=Option.some.inj H
           go_wp2_with (first|(go_at_call 15;(with_reducible refine (copseref7_Size.calls k2 _ _ l0 t276 _ ?side1 ?side2 A15.out).mono ?_);(case side1=>exact upC (Kd.C_below HR0.out HB.out));(case side2=>exact HC0.out);rintro e w' ⟨rfl,⟨nd,rfl⟩⟩;(try first|exact ⟨rfl,_,World.drewN_drewN _ _ _⟩|exact ⟨rfl,_,Eq.trans (World.drewN_drewN _ _ _) (congrArg (World.drewN _) (Nat.add_assoc _ _ _))⟩)))
           repeat (go_quiet (first|(go_at_call 15;(with_reducible refine (copseref7_Size.calls k2 _ _ l0 t276 _ ?side1 ?side2 A15.out).mono ?_);(case side1=>exact upC (Kd.C_below HR0.out HB.out));(case side2=>exact HC0.out);rintro e w' ⟨rfl,⟨nd,rfl⟩⟩;(try first|exact ⟨rfl,_,World.drewN_drewN _ _ _⟩|exact ⟨rfl,_,Eq.trans (World.drewN_drewN _ _ _) (congrArg (World.drewN _) (Nat.add_assoc _ _ _))⟩)));try go_wp2_with (first|(go_at_call 15;(with_reducible refine (copseref7_Size.calls k2 _ _ l0 t276 _ ?side1 ?side2 A15.out).mono ?_);(case side1=>exact upC (Kd.C_below HR0.out HB.out));(case side2=>exact HC0.out);rintro e w' ⟨rfl,⟨nd,rfl⟩⟩;(try first|exact ⟨rfl,_,World.drewN_drewN _ _ _⟩|exact ⟨rfl,_,Eq.trans (World.drewN_drewN _ _ _) (congrArg (World.drewN _) (Nat.add_assoc _ _ _))⟩))))
           go_ret
           exact ⟨by first|rfl|(simp[errW_none,errW_some] <;> rfl)|(simp[*,errW_none,errW_some] <;> rfl),upB HB.out⟩

/-! ### copseref6_fine: function 56 -/
def copseref6_fine.l0:Nat→List Int→Int→Option (Bool)
 |0,_,_=>none
 |k+1,x0,x3=>if x3<(x0.length:Int) then (if 0≤x3 then (if (rd x0 x3)<1 then (some false) else (if (rd x0 x3) > 4072 then (some false) else (copseref6_fine.l0 k x0 (wrap64 (x3+1))))) else (none)) else (some true)
def copseref6_fine.f (k:Nat) (l0:List Int):Option (Bool):=copseref6_fine.l0 k l0 0
theorem copseref6_fine.mono_l : ∀ k,(∀ y0 y1,LeO (copseref6_fine.l0 k y0 y1) (copseref6_fine.l0 (k+1) y0 y1))
 |0=>fun _ _ r h=>by simp[copseref6_fine.l0] at h
 |k+1=>by
  have ih0:=copseref6_fine.mono_l k
  ·
   intro y0 y1
   unfold copseref6_fine.l0
   repeat' first
   |(with_reducible exact ih0 _ _)
   |(with_reducible exact LeO.refl _)
   |(with_reducible exact LeO.none _)
   |(with_reducible refine LeO.ite ?_ ?_)
   |(with_reducible refine LeO.bind ?_ (fun _=>?_))
   |exact ih0 _ _
   |exact LeO.none _
   |refine LeO.ite ?_ ?_
   |refine LeO.bind ?_ (fun _=>?_)
theorem copseref6_fine.mono : ∀ a0 k,LeO (copseref6_fine.f k a0) (copseref6_fine.f (k+1) a0):=by
 intro a0 k
 have ih0:=copseref6_fine.mono_l k
 unfold copseref6_fine.f
 repeat' first
   |(with_reducible exact ih0 _ _)
   |(with_reducible exact LeO.refl _)
   |(with_reducible exact LeO.none _)
   |(with_reducible refine LeO.ite ?_ ?_)
   |(with_reducible refine LeO.bind ?_ (fun _=>?_))
   |exact ih0 _ _
   |exact LeO.none _
   |refine LeO.ite ?_ ?_
   |refine LeO.bind ?_ (fun _=>?_)
set_option maxHeartbeats 8000000 in
set_option maxRecDepth 100000 in
theorem copseref6_fine.calls (k:Nat) (A0:Option Addr) (c0:Nat) (l0:List Int) (r:Bool) (w:World) (hr0:Kd.C (Kd.int .i64) w A0 l0.length l0) (hc0:l0.length≤c0) (h:copseref6_fine.f k l0=some r) :
  Calls Tryd.prog 56 #[.slice A0 l0.length c0] w fun e w'=>e=.returned (.bool r)∧Drawn0 w w':=by
 have HR0:=Aside0.mk hr0
 have HC0:=Aside0.mk hc0
 clear hr0 hc0
 have H:(copseref6_fine.l0 k l0 0)=some r:=h
 clear h
 have H':=Aside0.mk H
 clear H
 go_enter Tryd.func56,Tryd.ntmps56
 go_wp2
 go_loopg [3] k (fun kq v3 w'=>∃ (x3_1:Int),v3=.int .i64 x3_1∧Aside0 (copseref6_fine.l0 kq l0 x3_1=some r)∧Aside0 (kq≤k)∧Drawn0 w w')
 case atStart=>exact ⟨(0),(by first|rfl|(simp;done)|(simp[*];done)),H',⟨Nat.le_refl _⟩,by repeat (first|exact Drawn0.refl _|apply Drawn0.step)⟩
 case round=>
  clear H'
  obtain⟨x3_1,rfl,HA,HK1,⟨m1,rfl⟩⟩:=hrel
  cases gk with
  |zero=>exact absurd HA.out (by simp[copseref6_fine.l0])
  |succ k1=>
   have H:=HA.out
   clear HA
   simp only[copseref6_fine.l0] at H
   by_cases c2:x3_1<(l0.length:Int)
   ·
    rw[if_pos c2] at H
    have c2b0:decide (x3_1<(l0.length:Int))=true:=decide_eq_true c2
    clear c2
    by_cases c3:0≤x3_1
    ·
     rw[if_pos c3] at H
     have c3b0:decide (0≤x3_1)=true:=decide_eq_true c3
     clear c3
     by_cases c4:(rd l0 x3_1)<1
     ·
      rw[if_pos c4] at H
      have c4b0:decide ((rd l0 x3_1)<1)=true:=decide_eq_true c4
      clear c4
      obtain rfl:=Option.some.inj H
      have p277:0≤(x3_1:Int):=of_decide_eq_true (by assumption)
      have q277:x3_1<(l0.length:Int):=of_decide_eq_true (by assumption)
      obtain⟨ad277,e277,hx277_0⟩:=Kd.at_int HR0.out x3_1 p277 q277
      cases e277
      replace p277:=eq_true p277
      replace q277:=eq_true q277
      go_wp2
      go_ret
      exact ⟨by first|rfl|(simp;done)|(simp[*];done),by repeat (first|exact Drawn0.refl _|apply Drawn0.step)⟩
     ·
      rw[if_neg c4] at H
      have c4b0:decide ((rd l0 x3_1)<1)=false:=decide_eq_false c4
      clear c4
      by_cases c5:(rd l0 x3_1) > 4072
      ·
       rw[if_pos c5] at H
       have c5b0:decide (4072<(rd l0 x3_1))=true:=decide_eq_true c5
       clear c5
       obtain rfl:=Option.some.inj H
       have p277:0≤(x3_1:Int):=of_decide_eq_true (by assumption)
       have q277:x3_1<(l0.length:Int):=of_decide_eq_true (by assumption)
       obtain⟨ad277,e277,hx277_0⟩:=Kd.at_int HR0.out x3_1 p277 q277
       cases e277
       replace p277:=eq_true p277
       replace q277:=eq_true q277
       have p278:0≤(x3_1:Int):=of_decide_eq_true (by assumption)
       have q278:x3_1<(l0.length:Int):=of_decide_eq_true (by assumption)
       obtain⟨ad278,e278,hx278_0⟩:=Kd.at_int HR0.out x3_1 p278 q278
       obtain rfl:ad277=ad278:=(by injection e278)
       replace p278:=eq_true p278
       replace q278:=eq_true q278
       go_wp2
       go_ret
       exact ⟨by first|rfl|(simp;done)|(simp[*];done),by repeat (first|exact Drawn0.refl _|apply Drawn0.step)⟩
      ·
       rw[if_neg c5] at H
       have c5b0:decide (4072<(rd l0 x3_1))=false:=decide_eq_false c5
       clear c5
       have H':=Aside0.mk H
       clear H
       have p277:0≤(x3_1:Int):=of_decide_eq_true (by assumption)
       have q277:x3_1<(l0.length:Int):=of_decide_eq_true (by assumption)
       obtain⟨ad277,e277,hx277_0⟩:=Kd.at_int HR0.out x3_1 p277 q277
       cases e277
       replace p277:=eq_true p277
       replace q277:=eq_true q277
       have p278:0≤(x3_1:Int):=of_decide_eq_true (by assumption)
       have q278:x3_1<(l0.length:Int):=of_decide_eq_true (by assumption)
       obtain⟨ad278,e278,hx278_0⟩:=Kd.at_int HR0.out x3_1 p278 q278
       obtain rfl:ad277=ad278:=(by injection e278)
       replace p278:=eq_true p278
       replace q278:=eq_true q278
       go_wp2
       go_roundg k1
       case measure=>have:=HK1.out;omega
       case rel=>exact ⟨(wrap64 (x3_1+1)),(by first|rfl|(simp;done)|(simp[*];done)),H',⟨by have:=HK1.out;omega⟩,by repeat (first|exact Drawn0.refl _|apply Drawn0.step)⟩
    ·
     rw[if_neg c3] at H
     exact absurd H (by simp)
   ·
    rw[if_neg c2] at H
    have c2b0:decide (x3_1<(l0.length:Int))=false:=decide_eq_false c2
    clear c2
    obtain rfl:=Option.some.inj H
    go_wp2
    go_ret
    exact ⟨by first|rfl|(simp;done)|(simp[*];done),by repeat (first|exact Drawn0.refl _|apply Drawn0.step)⟩

end Go.Proofs.YtdailhlghlledaaDoor.XLeafNew
