-- Printed for this claim by a program (wip/printx) that builds on the kit's print. Not trusted: Lean checks it.
-- slim
import Derived.Test.YtdailhlghlledaaDoorXLeafNewx0
namespace Go.Proofs.YtdailhlghlledaaDoor.XLeafNew
open Go.RowKit Go.Proofs.YtdailhlghlledaaDoorW.PrintWords Go.Proofs.YtdailhlghlledaaDoorW.PrintLast Go.Proofs.YtdailhlghlledaaDoorW.PrintMore
attribute [local go_sem] max2_int min2_int max_two min_two max_three min_three max_four min_four   -- for this text's walks alone
set_option linter.unusedVariables false
set_option linter.unusedSimpArgs false

/-! ### codec_Put: function 58 -/
def codec_Put.row (a0:Int) (j:Nat):List Int:=[if 8≤j then a0 / 72057594037927936 % 256 else 0,if 7≤j then a0 / 281474976710656 % 256 else 0,if 6≤j then a0 / 1099511627776 % 256 else 0,if 5≤j then a0 / 4294967296 % 256 else 0,if 4≤j then a0 / 16777216 % 256 else 0,if 3≤j then a0 / 65536 % 256 else 0,if 2≤j then a0 / 256 % 256 else 0,if 1≤j then a0 % 256 else 0]
def codec_Put.f (a0 a1:Int):Option (List Int×Option Int):=
 if 0≤a0∧a0<18446744073709551616 then
  if a1<1∨8<a1∨(a1<8∧a0 / 2 ^ (8*a1).toNat≠0) then some ([],some 1) else some ((codec_Put.row a0 8).drop (8 - a1.toNat),none)
 else none
set_option maxHeartbeats 8000000 in
set_option maxRecDepth 100000 in
theorem codec_Put.refuse (E:Int→Addr) (a0 a1:Int) (w:World) (hG:Glob E w) (h0:0≤a0) (h:a1<1∨8<a1∨(a1<8∧a0 / 2 ^ (8*a1).toNat≠0)) :
  Calls Tryd.prog 58 #[.int .u64 a0,.int .i64 a1] w fun e w'=>e=.returned (.tuple #[.slice none 0 0,errW E (some 1)])∧Below w.heap.size w w':=by
 have hu48:=Tryd.underlying28
 have HB:=Aside0.mk (Below.refl w.heap.size w)
 have hx2:w.cell? ⟨0,0,none⟩=some (errW E (some 1)):=Glob.c0 hG
 simp only[errW_some] at hx2
 by_cases h1:a1<1
 ·
  have hb:decide (a1<1)=true:=decide_eq_true h1
  go_enter Tryd.func58,Tryd.ntmps58
  go_wp2
  repeat (go_quiet (fail);try go_wp2)
  go_ret2
  exact ⟨rfl,by first|exact pw_below_drewN HB.out _|(repeat (first|exact HB.out|apply pw_below_drewN|apply below_drew1))⟩
 ·
  have hb:decide (a1<1)=false:=decide_eq_false h1
  by_cases h2:8<a1
  ·
   have hb2:decide (a1 > 8)=true:=decide_eq_true h2
   have hb3:decide (a1<8)=false:=decide_eq_false (by omega)
   go_enter Tryd.func58,Tryd.ntmps58
   go_wp2
   repeat (go_quiet (fail);try go_wp2)
   go_ret2
   exact ⟨rfl,by first|exact pw_below_drewN HB.out _|(repeat (first|exact HB.out|apply pw_below_drewN|apply below_drew1))⟩
  ·
   obtain⟨h3,h4⟩:a1<8∧a0 / 2 ^ (8*a1).toNat≠0:=by omega
   have:a1=1∨a1=2∨a1=3∨a1=4∨a1=5∨a1=6∨a1=7:=by omega
   rcases this with rfl|rfl|rfl|rfl|rfl|rfl|rfl
   ·
    have h5:(a0 / 256 != 0)=true:=bne_iff_ne.mpr h4
    go_enter Tryd.func58,Tryd.ntmps58
    go_wp2
    repeat (go_quiet (fail);try go_wp2)
    go_ret2
    exact ⟨rfl,by first|exact pw_below_drewN HB.out _|(repeat (first|exact HB.out|apply pw_below_drewN|apply below_drew1))⟩
   ·
    have h5:(a0 / 65536 != 0)=true:=bne_iff_ne.mpr h4
    go_enter Tryd.func58,Tryd.ntmps58
    go_wp2
    repeat (go_quiet (fail);try go_wp2)
    go_ret2
    exact ⟨rfl,by first|exact pw_below_drewN HB.out _|(repeat (first|exact HB.out|apply pw_below_drewN|apply below_drew1))⟩
   ·
    have h5:(a0 / 16777216 != 0)=true:=bne_iff_ne.mpr h4
    go_enter Tryd.func58,Tryd.ntmps58
    go_wp2
    repeat (go_quiet (fail);try go_wp2)
    go_ret2
    exact ⟨rfl,by first|exact pw_below_drewN HB.out _|(repeat (first|exact HB.out|apply pw_below_drewN|apply below_drew1))⟩
   ·
    have h5:(a0 / 4294967296 != 0)=true:=bne_iff_ne.mpr h4
    go_enter Tryd.func58,Tryd.ntmps58
    go_wp2
    repeat (go_quiet (fail);try go_wp2)
    go_ret2
    exact ⟨rfl,by first|exact pw_below_drewN HB.out _|(repeat (first|exact HB.out|apply pw_below_drewN|apply below_drew1))⟩
   ·
    have h5:(a0 / 1099511627776 != 0)=true:=bne_iff_ne.mpr h4
    go_enter Tryd.func58,Tryd.ntmps58
    go_wp2
    repeat (go_quiet (fail);try go_wp2)
    go_ret2
    exact ⟨rfl,by first|exact pw_below_drewN HB.out _|(repeat (first|exact HB.out|apply pw_below_drewN|apply below_drew1))⟩
   ·
    have h5:(a0 / 281474976710656 != 0)=true:=bne_iff_ne.mpr h4
    go_enter Tryd.func58,Tryd.ntmps58
    go_wp2
    repeat (go_quiet (fail);try go_wp2)
    go_ret2
    exact ⟨rfl,by first|exact pw_below_drewN HB.out _|(repeat (first|exact HB.out|apply pw_below_drewN|apply below_drew1))⟩
   ·
    have h5:(a0 / 72057594037927936 != 0)=true:=bne_iff_ne.mpr h4
    go_enter Tryd.func58,Tryd.ntmps58
    go_wp2
    repeat (go_quiet (fail);try go_wp2)
    go_ret2
    exact ⟨rfl,by first|exact pw_below_drewN HB.out _|(repeat (first|exact HB.out|apply pw_below_drewN|apply below_drew1))⟩
theorem sz5_:(Tryd.prog.info? 5).map (·.size)=some 1:=by kernel_rfl
def codec_Put.cells (a0:Int) (j:Nat):Array Value:=((codec_Put.row a0 j).map (Value.int .u8)).toArray
/-- A block that holds numbers, one a cell, is a row of the call's own. -/
theorem R_of_block_ {k:IntKind} {e:Nat} {w:World} {base g n:Nat} {xs:List Int} (hg:w.heap[g]?=some (.cells (xs.map (Value.int k)).toArray e (0,0))) (hb:base≤g) (hn:xs.length=n) (hl:n≤maxLen) :
  Kd.R (Kd.int k) e w base (fun _=>True) (.slice (some ⟨g,0,none⟩) n n) xs:=by
 subst hn
 refine ⟨fun _ _=>trivial,xs.map (Value.int k),⟨by simp[Kd.int,Kd.scalar],.inr ⟨g,xs.length,_,rfl,hb,hg,Nat.le_refl _,hl,by simp[Kd.int,Kd.scalar],?_⟩⟩,?_⟩
 ·
  simp only[Kd.int,Kd.scalar,Nat.mul_one];exact List.take_of_length_le (by simp)
 ·
  exact Kd.reps_scalar (enc:=Value.int k) xs
theorem codec_Put.made_ (n:Nat) (hn:n≤8) (W:World):(Instr.makeSlice 83 (.int .i64 (n:Int)) (.int .i64 (n:Int))).run Tryd.prog W=.ok (.slice (some ⟨W.heap.size,0,none⟩) n n) (W.alloc (.cells (List.replicate n (Value.int .u8 0)).toArray 5)):=by
 have h:=run_make_row' (P:=Tryd.prog) 83 5 (.int .u8 0) 1 Tryd.underlying83 info5 rfl .i64 .i64 n (by omega) (by omega) W
 rw[h,show madeCells #[Value.int .u8 0] n=(List.replicate n (Value.int .u8 0)).toArray by rw[←toList_madeCells_one]]
theorem alloc2_new_ (w:World) (o p:Obj):((w.alloc o).alloc p).heap[w.heap.size+1]?=some p:=by
 have h:=heap_alloc_new (w.alloc o) p
 rwa [show (w.alloc o).heap.size=w.heap.size+1 by simp] at h
theorem alloc2_old_ (w:World) (o p:Obj):((w.alloc o).alloc p).heap[w.heap.size]?=some o:=
 ((below_alloc (Below.refl _ (w.alloc o)) p).block w.heap.size (by simp)).trans (heap_alloc_new w o)
theorem codec_Put.copied_ (W:World) (a0:Int) (n:Nat) (hn:n≤8) : 
  (Builtin.copy_ #[83,83] 3 #[.slice (some ⟨W.heap.size+1,0,none⟩) n n,.slice (some ⟨W.heap.size,8 - n,none⟩) n n]).run Tryd.prog ((W.alloc (.cells (codec_Put.cells a0 8) 97)).alloc (.cells (List.replicate n (Value.int .u8 0)).toArray 5)) =
   .ok (.int .i64 n) (((W.alloc (.cells (codec_Put.cells a0 8) 97)).alloc (.cells (List.replicate n (Value.int .u8 0)).toArray 5)).setRow (W.heap.size+1) (((codec_Put.row a0 8).drop (8 - n)).map (Value.int .u8)).toArray):=by
 obtain⟨L,hL⟩ : ∃ L,L=codec_Put.row a0 8:=⟨_,rfl⟩
 have hlen:L.length=8:=by rw[hL];rfl
 have hcl:codec_Put.cells a0 8=(L.map (Value.int .u8)).toArray:=by rw[hL];rfl
 rw[hcl,←hL]
 clear hcl hL
 have h:=run_copy_row (P:=Tryd.prog) ((W.alloc (.cells (L.map (Value.int .u8)).toArray 97)).alloc (.cells (List.replicate n (Value.int .u8 0)).toArray 5)) 83 83 3 5 (W.heap.size+1) 0 n n ⟨W.heap.size,8 - n,none⟩ n n (List.replicate n (Value.int .u8 0)).toArray 5 ((L.drop (8 - n)).map (Value.int .u8)) Tryd.underlying83 sz5_
  (alloc2_new_ _ _ _) (by simp only[List.length_map,List.length_drop,hlen];simp;omega) ?_ (by simp only[List.length_map,List.length_drop,hlen];simp;omega) (by intro v hv;obtain⟨x,_,rfl⟩:=List.mem_map.1 hv;rfl)
 ·
  rw[h]
  have e1:((L.drop (8 - n)).map (Value.int .u8)).length=n:=by simp only[List.length_map,List.length_drop,hlen];omega
  rw[e1,List.take_zero,List.nil_append,Nat.zero_add,List.drop_of_length_le (show (List.replicate n (Value.int .u8 0)).toArray.toList.length≤n by simp),List.append_nil]
  rfl
 ·
  intro j v hj
  have hb:=alloc2_old_ W (.cells (L.map (Value.int .u8)).toArray 97) (.cells (List.replicate n (Value.int .u8 0)).toArray 5)
  rw[show (⟨W.heap.size,8 - n,none⟩:Addr).add j=⟨W.heap.size,8 - n+j,none⟩ by unfold Addr.add;split <;> simp_all]
  simp only[World.cell?,hb,List.getElem?_toArray]
  simp only[List.getElem?_map,List.getElem?_drop] at hj
  simpa only [Option.isSome,Bool.false_eq_true,if_false,List.getElem?_map] using hj
set_option maxHeartbeats 8000000 in
set_option maxRecDepth 100000 in
theorem codec_Put.good (E:Int→Addr) (a0 a1:Int) (w:World) (h0:0≤a0) (h1:a0<18446744073709551616) (h : ¬ (a1<1∨8<a1∨(a1<8∧a0 / 2 ^ (8*a1).toNat≠0))) :
  Calls Tryd.prog 58 #[.int .u64 a0,.int .i64 a1] w fun e w'=>∃ v0_:Value,e=.returned (.tuple #[v0_,.nilIface])∧Kd.R (Kd.int .u8) 5 w' w.heap.size (fun _=>True) v0_ ((codec_Put.row a0 8).drop (8 - a1.toNat))∧Below w.heap.size w w':=by
 have hx:a0 / 72057594037927936 % 256=a0 / 72057594037927936:=by omega
 have:a1=1∨a1=2∨a1=3∨a1=4∨a1=5∨a1=6∨a1=7∨a1=8:=by omega
 rcases this with rfl|rfl|rfl|rfl|rfl|rfl|rfl|rfl
 ·
  have h5:(a0 / 256 != 0)=false:=by
   rw[bne_eq_false_iff_eq]
   by_cases e:a0 / 2 ^ ((8*1:Int)).toNat=0
   ·
    exact e
   ·
    exact absurd (.inr (.inr ⟨by omega,e⟩)) h
  clear h
  have hmk : ∀ W:World,(Instr.makeSlice 83 (.int .i64 1) (.int .i64 1)).run Tryd.prog W=.ok (.slice (some ⟨W.heap.size,0,none⟩) 1 1) (W.alloc (.cells #[.int .u8 0] 5)):=codec_Put.made_ 1 (by omega)
  have hcp:(Builtin.copy_ #[83,83] 3 #[.slice (some ⟨w.heap.size+1,0,none⟩) 1 1,.slice (some ⟨w.heap.size,7,none⟩) 1 1]).run Tryd.prog ((w.alloc (.cells (codec_Put.cells a0 8) 97)).alloc (.cells #[.int .u8 0] 5)) =
   .ok (.int .i64 1) (((w.alloc (.cells (codec_Put.cells a0 8) 97)).alloc (.cells #[.int .u8 0] 5)).setRow (w.heap.size+1) (((codec_Put.row a0 8).drop 7).map (Value.int .u8)).toArray):=codec_Put.copied_ w a0 1 (by omega)
  go_enter Tryd.func58,Tryd.ntmps58
  go_wp2
  go_loopg [7,27] 9 (fun kq v7 v27 w'=>∃ j:Nat,v27=.int .i64 (j:Int)∧Aside0 (j+kq=9∧j≤8)∧w'=w.alloc (.cells (codec_Put.cells a0 j) 97))
  case atStart=>exact ⟨0,rfl,⟨by omega⟩,rfl⟩
  case round=>
   obtain⟨j,rfl,hj,rfl⟩:=hrel
   cases gk with
   |zero=>exact absurd hj.out (by omega)
   |succ k1=>
    have:j=0∨j=1∨j=2∨j=3∨j=4∨j=5∨j=6∨j=7∨j=8:=by have:=hj.out;omega
    rcases this with rfl|rfl|rfl|rfl|rfl|rfl|rfl|rfl|rfl
    ·
     go_wp2
     go_roundg k1
     case measure=>omega
     case rel=>exact ⟨1,rfl,⟨by have:=hj.out;omega⟩,by simp[codec_Put.cells,codec_Put.row]⟩
    ·
     go_wp2
     go_roundg k1
     case measure=>omega
     case rel=>exact ⟨2,rfl,⟨by have:=hj.out;omega⟩,by simp[codec_Put.cells,codec_Put.row]⟩
    ·
     go_wp2
     go_roundg k1
     case measure=>omega
     case rel=>exact ⟨3,rfl,⟨by have:=hj.out;omega⟩,by simp[codec_Put.cells,codec_Put.row]⟩
    ·
     go_wp2
     go_roundg k1
     case measure=>omega
     case rel=>exact ⟨4,rfl,⟨by have:=hj.out;omega⟩,by simp[codec_Put.cells,codec_Put.row]⟩
    ·
     go_wp2
     go_roundg k1
     case measure=>omega
     case rel=>exact ⟨5,rfl,⟨by have:=hj.out;omega⟩,by simp[codec_Put.cells,codec_Put.row]⟩
    ·
     go_wp2
     go_roundg k1
     case measure=>omega
     case rel=>exact ⟨6,rfl,⟨by have:=hj.out;omega⟩,by simp[codec_Put.cells,codec_Put.row]⟩
    ·
     go_wp2
     go_roundg k1
     case measure=>omega
     case rel=>exact ⟨7,rfl,⟨by have:=hj.out;omega⟩,by simp[codec_Put.cells,codec_Put.row]⟩
    ·
     go_wp2
     go_roundg k1
     case measure=>omega
     case rel=>exact ⟨8,rfl,⟨by have:=hj.out;omega⟩,by simp[codec_Put.cells,codec_Put.row,hx]⟩
    ·
     go_wp2
     go_ret2
     refine ⟨_,rfl,R_of_block_ (n:=1) (setRow_heap _ _ _ _ 5 _ (alloc2_new_ _ _ _)) (by omega) rfl (by decide),below_setRow (below_alloc (below_alloc (Below.refl _ _) _) _) (by omega) _⟩
 ·
  have h5:(a0 / 65536 != 0)=false:=by
   rw[bne_eq_false_iff_eq]
   by_cases e:a0 / 2 ^ ((8*2:Int)).toNat=0
   ·
    exact e
   ·
    exact absurd (.inr (.inr ⟨by omega,e⟩)) h
  clear h
  have hmk : ∀ W:World,(Instr.makeSlice 83 (.int .i64 2) (.int .i64 2)).run Tryd.prog W=.ok (.slice (some ⟨W.heap.size,0,none⟩) 2 2) (W.alloc (.cells #[.int .u8 0,.int .u8 0] 5)):=codec_Put.made_ 2 (by omega)
  have hcp:(Builtin.copy_ #[83,83] 3 #[.slice (some ⟨w.heap.size+1,0,none⟩) 2 2,.slice (some ⟨w.heap.size,6,none⟩) 2 2]).run Tryd.prog ((w.alloc (.cells (codec_Put.cells a0 8) 97)).alloc (.cells #[.int .u8 0,.int .u8 0] 5)) =
   .ok (.int .i64 2) (((w.alloc (.cells (codec_Put.cells a0 8) 97)).alloc (.cells #[.int .u8 0,.int .u8 0] 5)).setRow (w.heap.size+1) (((codec_Put.row a0 8).drop 6).map (Value.int .u8)).toArray):=codec_Put.copied_ w a0 2 (by omega)
  go_enter Tryd.func58,Tryd.ntmps58
  go_wp2
  go_loopg [7,27] 9 (fun kq v7 v27 w'=>∃ j:Nat,v27=.int .i64 (j:Int)∧Aside0 (j+kq=9∧j≤8)∧w'=w.alloc (.cells (codec_Put.cells a0 j) 97))
  case atStart=>exact ⟨0,rfl,⟨by omega⟩,rfl⟩
  case round=>
   obtain⟨j,rfl,hj,rfl⟩:=hrel
   cases gk with
   |zero=>exact absurd hj.out (by omega)
   |succ k1=>
    have:j=0∨j=1∨j=2∨j=3∨j=4∨j=5∨j=6∨j=7∨j=8:=by have:=hj.out;omega
    rcases this with rfl|rfl|rfl|rfl|rfl|rfl|rfl|rfl|rfl
    ·
     go_wp2
     go_roundg k1
     case measure=>omega
     case rel=>exact ⟨1,rfl,⟨by have:=hj.out;omega⟩,by simp[codec_Put.cells,codec_Put.row]⟩
    ·
     go_wp2
     go_roundg k1
     case measure=>omega
     case rel=>exact ⟨2,rfl,⟨by have:=hj.out;omega⟩,by simp[codec_Put.cells,codec_Put.row]⟩
    ·
     go_wp2
     go_roundg k1
     case measure=>omega
     case rel=>exact ⟨3,rfl,⟨by have:=hj.out;omega⟩,by simp[codec_Put.cells,codec_Put.row]⟩
    ·
     go_wp2
     go_roundg k1
     case measure=>omega
     case rel=>exact ⟨4,rfl,⟨by have:=hj.out;omega⟩,by simp[codec_Put.cells,codec_Put.row]⟩
    ·
     go_wp2
     go_roundg k1
     case measure=>omega
     case rel=>exact ⟨5,rfl,⟨by have:=hj.out;omega⟩,by simp[codec_Put.cells,codec_Put.row]⟩
    ·
     go_wp2
     go_roundg k1
     case measure=>omega
     case rel=>exact ⟨6,rfl,⟨by have:=hj.out;omega⟩,by simp[codec_Put.cells,codec_Put.row]⟩
    ·
     go_wp2
     go_roundg k1
     case measure=>omega
     case rel=>exact ⟨7,rfl,⟨by have:=hj.out;omega⟩,by simp[codec_Put.cells,codec_Put.row]⟩
    ·
     go_wp2
     go_roundg k1
     case measure=>omega
     case rel=>exact ⟨8,rfl,⟨by have:=hj.out;omega⟩,by simp[codec_Put.cells,codec_Put.row,hx]⟩
    ·
     go_wp2
     go_ret2
     refine ⟨_,rfl,R_of_block_ (n:=2) (setRow_heap _ _ _ _ 5 _ (alloc2_new_ _ _ _)) (by omega) rfl (by decide),below_setRow (below_alloc (below_alloc (Below.refl _ _) _) _) (by omega) _⟩
 ·
  have h5:(a0 / 16777216 != 0)=false:=by
   rw[bne_eq_false_iff_eq]
   by_cases e:a0 / 2 ^ ((8*3:Int)).toNat=0
   ·
    exact e
   ·
    exact absurd (.inr (.inr ⟨by omega,e⟩)) h
  clear h
  have hmk : ∀ W:World,(Instr.makeSlice 83 (.int .i64 3) (.int .i64 3)).run Tryd.prog W=.ok (.slice (some ⟨W.heap.size,0,none⟩) 3 3) (W.alloc (.cells #[.int .u8 0,.int .u8 0,.int .u8 0] 5)):=codec_Put.made_ 3 (by omega)
  have hcp:(Builtin.copy_ #[83,83] 3 #[.slice (some ⟨w.heap.size+1,0,none⟩) 3 3,.slice (some ⟨w.heap.size,5,none⟩) 3 3]).run Tryd.prog ((w.alloc (.cells (codec_Put.cells a0 8) 97)).alloc (.cells #[.int .u8 0,.int .u8 0,.int .u8 0] 5)) =
   .ok (.int .i64 3) (((w.alloc (.cells (codec_Put.cells a0 8) 97)).alloc (.cells #[.int .u8 0,.int .u8 0,.int .u8 0] 5)).setRow (w.heap.size+1) (((codec_Put.row a0 8).drop 5).map (Value.int .u8)).toArray):=codec_Put.copied_ w a0 3 (by omega)
  go_enter Tryd.func58,Tryd.ntmps58
  go_wp2
  go_loopg [7,27] 9 (fun kq v7 v27 w'=>∃ j:Nat,v27=.int .i64 (j:Int)∧Aside0 (j+kq=9∧j≤8)∧w'=w.alloc (.cells (codec_Put.cells a0 j) 97))
  case atStart=>exact ⟨0,rfl,⟨by omega⟩,rfl⟩
  case round=>
   obtain⟨j,rfl,hj,rfl⟩:=hrel
   cases gk with
   |zero=>exact absurd hj.out (by omega)
   |succ k1=>
    have:j=0∨j=1∨j=2∨j=3∨j=4∨j=5∨j=6∨j=7∨j=8:=by have:=hj.out;omega
    rcases this with rfl|rfl|rfl|rfl|rfl|rfl|rfl|rfl|rfl
    ·
     go_wp2
     go_roundg k1
     case measure=>omega
     case rel=>exact ⟨1,rfl,⟨by have:=hj.out;omega⟩,by simp[codec_Put.cells,codec_Put.row]⟩
    ·
     go_wp2
     go_roundg k1
     case measure=>omega
     case rel=>exact ⟨2,rfl,⟨by have:=hj.out;omega⟩,by simp[codec_Put.cells,codec_Put.row]⟩
    ·
     go_wp2
     go_roundg k1
     case measure=>omega
     case rel=>exact ⟨3,rfl,⟨by have:=hj.out;omega⟩,by simp[codec_Put.cells,codec_Put.row]⟩
    ·
     go_wp2
     go_roundg k1
     case measure=>omega
     case rel=>exact ⟨4,rfl,⟨by have:=hj.out;omega⟩,by simp[codec_Put.cells,codec_Put.row]⟩
    ·
     go_wp2
     go_roundg k1
     case measure=>omega
     case rel=>exact ⟨5,rfl,⟨by have:=hj.out;omega⟩,by simp[codec_Put.cells,codec_Put.row]⟩
    ·
     go_wp2
     go_roundg k1
     case measure=>omega
     case rel=>exact ⟨6,rfl,⟨by have:=hj.out;omega⟩,by simp[codec_Put.cells,codec_Put.row]⟩
    ·
     go_wp2
     go_roundg k1
     case measure=>omega
     case rel=>exact ⟨7,rfl,⟨by have:=hj.out;omega⟩,by simp[codec_Put.cells,codec_Put.row]⟩
    ·
     go_wp2
     go_roundg k1
     case measure=>omega
     case rel=>exact ⟨8,rfl,⟨by have:=hj.out;omega⟩,by simp[codec_Put.cells,codec_Put.row,hx]⟩
    ·
     go_wp2
     go_ret2
     refine ⟨_,rfl,R_of_block_ (n:=3) (setRow_heap _ _ _ _ 5 _ (alloc2_new_ _ _ _)) (by omega) rfl (by decide),below_setRow (below_alloc (below_alloc (Below.refl _ _) _) _) (by omega) _⟩
 ·
  have h5:(a0 / 4294967296 != 0)=false:=by
   rw[bne_eq_false_iff_eq]
   by_cases e:a0 / 2 ^ ((8*4:Int)).toNat=0
   ·
    exact e
   ·
    exact absurd (.inr (.inr ⟨by omega,e⟩)) h
  clear h
  have hmk : ∀ W:World,(Instr.makeSlice 83 (.int .i64 4) (.int .i64 4)).run Tryd.prog W=.ok (.slice (some ⟨W.heap.size,0,none⟩) 4 4) (W.alloc (.cells #[.int .u8 0,.int .u8 0,.int .u8 0,.int .u8 0] 5)):=codec_Put.made_ 4 (by omega)
  have hcp:(Builtin.copy_ #[83,83] 3 #[.slice (some ⟨w.heap.size+1,0,none⟩) 4 4,.slice (some ⟨w.heap.size,4,none⟩) 4 4]).run Tryd.prog ((w.alloc (.cells (codec_Put.cells a0 8) 97)).alloc (.cells #[.int .u8 0,.int .u8 0,.int .u8 0,.int .u8 0] 5)) =
   .ok (.int .i64 4) (((w.alloc (.cells (codec_Put.cells a0 8) 97)).alloc (.cells #[.int .u8 0,.int .u8 0,.int .u8 0,.int .u8 0] 5)).setRow (w.heap.size+1) (((codec_Put.row a0 8).drop 4).map (Value.int .u8)).toArray):=codec_Put.copied_ w a0 4 (by omega)
  go_enter Tryd.func58,Tryd.ntmps58
  go_wp2
  go_loopg [7,27] 9 (fun kq v7 v27 w'=>∃ j:Nat,v27=.int .i64 (j:Int)∧Aside0 (j+kq=9∧j≤8)∧w'=w.alloc (.cells (codec_Put.cells a0 j) 97))
  case atStart=>exact ⟨0,rfl,⟨by omega⟩,rfl⟩
  case round=>
   obtain⟨j,rfl,hj,rfl⟩:=hrel
   cases gk with
   |zero=>exact absurd hj.out (by omega)
   |succ k1=>
    have:j=0∨j=1∨j=2∨j=3∨j=4∨j=5∨j=6∨j=7∨j=8:=by have:=hj.out;omega
    rcases this with rfl|rfl|rfl|rfl|rfl|rfl|rfl|rfl|rfl
    ·
     go_wp2
     go_roundg k1
     case measure=>omega
     case rel=>exact ⟨1,rfl,⟨by have:=hj.out;omega⟩,by simp[codec_Put.cells,codec_Put.row]⟩
    ·
     go_wp2
     go_roundg k1
     case measure=>omega
     case rel=>exact ⟨2,rfl,⟨by have:=hj.out;omega⟩,by simp[codec_Put.cells,codec_Put.row]⟩
    ·
     go_wp2
     go_roundg k1
     case measure=>omega
     case rel=>exact ⟨3,rfl,⟨by have:=hj.out;omega⟩,by simp[codec_Put.cells,codec_Put.row]⟩
    ·
     go_wp2
     go_roundg k1
     case measure=>omega
     case rel=>exact ⟨4,rfl,⟨by have:=hj.out;omega⟩,by simp[codec_Put.cells,codec_Put.row]⟩
    ·
     go_wp2
     go_roundg k1
     case measure=>omega
     case rel=>exact ⟨5,rfl,⟨by have:=hj.out;omega⟩,by simp[codec_Put.cells,codec_Put.row]⟩
    ·
     go_wp2
     go_roundg k1
     case measure=>omega
     case rel=>exact ⟨6,rfl,⟨by have:=hj.out;omega⟩,by simp[codec_Put.cells,codec_Put.row]⟩
    ·
     go_wp2
     go_roundg k1
     case measure=>omega
     case rel=>exact ⟨7,rfl,⟨by have:=hj.out;omega⟩,by simp[codec_Put.cells,codec_Put.row]⟩
    ·
     go_wp2
     go_roundg k1
     case measure=>omega
     case rel=>exact ⟨8,rfl,⟨by have:=hj.out;omega⟩,by simp[codec_Put.cells,codec_Put.row,hx]⟩
    ·
     go_wp2
     go_ret2
     refine ⟨_,rfl,R_of_block_ (n:=4) (setRow_heap _ _ _ _ 5 _ (alloc2_new_ _ _ _)) (by omega) rfl (by decide),below_setRow (below_alloc (below_alloc (Below.refl _ _) _) _) (by omega) _⟩
 ·
  have h5:(a0 / 1099511627776 != 0)=false:=by
   rw[bne_eq_false_iff_eq]
   by_cases e:a0 / 2 ^ ((8*5:Int)).toNat=0
   ·
    exact e
   ·
    exact absurd (.inr (.inr ⟨by omega,e⟩)) h
  clear h
  have hmk : ∀ W:World,(Instr.makeSlice 83 (.int .i64 5) (.int .i64 5)).run Tryd.prog W=.ok (.slice (some ⟨W.heap.size,0,none⟩) 5 5) (W.alloc (.cells #[.int .u8 0,.int .u8 0,.int .u8 0,.int .u8 0,.int .u8 0] 5)):=codec_Put.made_ 5 (by omega)
  have hcp:(Builtin.copy_ #[83,83] 3 #[.slice (some ⟨w.heap.size+1,0,none⟩) 5 5,.slice (some ⟨w.heap.size,3,none⟩) 5 5]).run Tryd.prog ((w.alloc (.cells (codec_Put.cells a0 8) 97)).alloc (.cells #[.int .u8 0,.int .u8 0,.int .u8 0,.int .u8 0,.int .u8 0] 5)) =
   .ok (.int .i64 5) (((w.alloc (.cells (codec_Put.cells a0 8) 97)).alloc (.cells #[.int .u8 0,.int .u8 0,.int .u8 0,.int .u8 0,.int .u8 0] 5)).setRow (w.heap.size+1) (((codec_Put.row a0 8).drop 3).map (Value.int .u8)).toArray):=codec_Put.copied_ w a0 5 (by omega)
  go_enter Tryd.func58,Tryd.ntmps58
  go_wp2
  go_loopg [7,27] 9 (fun kq v7 v27 w'=>∃ j:Nat,v27=.int .i64 (j:Int)∧Aside0 (j+kq=9∧j≤8)∧w'=w.alloc (.cells (codec_Put.cells a0 j) 97))
  case atStart=>exact ⟨0,rfl,⟨by omega⟩,rfl⟩
  case round=>
   obtain⟨j,rfl,hj,rfl⟩:=hrel
   cases gk with
   |zero=>exact absurd hj.out (by omega)
   |succ k1=>
    have:j=0∨j=1∨j=2∨j=3∨j=4∨j=5∨j=6∨j=7∨j=8:=by have:=hj.out;omega
    rcases this with rfl|rfl|rfl|rfl|rfl|rfl|rfl|rfl|rfl
    ·
     go_wp2
     go_roundg k1
     case measure=>omega
     case rel=>exact ⟨1,rfl,⟨by have:=hj.out;omega⟩,by simp[codec_Put.cells,codec_Put.row]⟩
    ·
     go_wp2
     go_roundg k1
     case measure=>omega
     case rel=>exact ⟨2,rfl,⟨by have:=hj.out;omega⟩,by simp[codec_Put.cells,codec_Put.row]⟩
    ·
     go_wp2
     go_roundg k1
     case measure=>omega
     case rel=>exact ⟨3,rfl,⟨by have:=hj.out;omega⟩,by simp[codec_Put.cells,codec_Put.row]⟩
    ·
     go_wp2
     go_roundg k1
     case measure=>omega
     case rel=>exact ⟨4,rfl,⟨by have:=hj.out;omega⟩,by simp[codec_Put.cells,codec_Put.row]⟩
    ·
     go_wp2
     go_roundg k1
     case measure=>omega
     case rel=>exact ⟨5,rfl,⟨by have:=hj.out;omega⟩,by simp[codec_Put.cells,codec_Put.row]⟩
    ·
     go_wp2
     go_roundg k1
     case measure=>omega
     case rel=>exact ⟨6,rfl,⟨by have:=hj.out;omega⟩,by simp[codec_Put.cells,codec_Put.row]⟩
    ·
     go_wp2
     go_roundg k1
     case measure=>omega
     case rel=>exact ⟨7,rfl,⟨by have:=hj.out;omega⟩,by simp[codec_Put.cells,codec_Put.row]⟩
    ·
     go_wp2
     go_roundg k1
     case measure=>omega
     case rel=>exact ⟨8,rfl,⟨by have:=hj.out;omega⟩,by simp[codec_Put.cells,codec_Put.row,hx]⟩
    ·
     go_wp2
     go_ret2
     refine ⟨_,rfl,R_of_block_ (n:=5) (setRow_heap _ _ _ _ 5 _ (alloc2_new_ _ _ _)) (by omega) rfl (by decide),below_setRow (below_alloc (below_alloc (Below.refl _ _) _) _) (by omega) _⟩
 ·
  have h5:(a0 / 281474976710656 != 0)=false:=by
   rw[bne_eq_false_iff_eq]
   by_cases e:a0 / 2 ^ ((8*6:Int)).toNat=0
   ·
    exact e
   ·
    exact absurd (.inr (.inr ⟨by omega,e⟩)) h
  clear h
  have hmk : ∀ W:World,(Instr.makeSlice 83 (.int .i64 6) (.int .i64 6)).run Tryd.prog W=.ok (.slice (some ⟨W.heap.size,0,none⟩) 6 6) (W.alloc (.cells #[.int .u8 0,.int .u8 0,.int .u8 0,.int .u8 0,.int .u8 0,.int .u8 0] 5)):=codec_Put.made_ 6 (by omega)
  have hcp:(Builtin.copy_ #[83,83] 3 #[.slice (some ⟨w.heap.size+1,0,none⟩) 6 6,.slice (some ⟨w.heap.size,2,none⟩) 6 6]).run Tryd.prog ((w.alloc (.cells (codec_Put.cells a0 8) 97)).alloc (.cells #[.int .u8 0,.int .u8 0,.int .u8 0,.int .u8 0,.int .u8 0,.int .u8 0] 5)) =
   .ok (.int .i64 6) (((w.alloc (.cells (codec_Put.cells a0 8) 97)).alloc (.cells #[.int .u8 0,.int .u8 0,.int .u8 0,.int .u8 0,.int .u8 0,.int .u8 0] 5)).setRow (w.heap.size+1) (((codec_Put.row a0 8).drop 2).map (Value.int .u8)).toArray):=codec_Put.copied_ w a0 6 (by omega)
  go_enter Tryd.func58,Tryd.ntmps58
  go_wp2
  go_loopg [7,27] 9 (fun kq v7 v27 w'=>∃ j:Nat,v27=.int .i64 (j:Int)∧Aside0 (j+kq=9∧j≤8)∧w'=w.alloc (.cells (codec_Put.cells a0 j) 97))
  case atStart=>exact ⟨0,rfl,⟨by omega⟩,rfl⟩
  case round=>
   obtain⟨j,rfl,hj,rfl⟩:=hrel
   cases gk with
   |zero=>exact absurd hj.out (by omega)
   |succ k1=>
    have:j=0∨j=1∨j=2∨j=3∨j=4∨j=5∨j=6∨j=7∨j=8:=by have:=hj.out;omega
    rcases this with rfl|rfl|rfl|rfl|rfl|rfl|rfl|rfl|rfl
    ·
     go_wp2
     go_roundg k1
     case measure=>omega
     case rel=>exact ⟨1,rfl,⟨by have:=hj.out;omega⟩,by simp[codec_Put.cells,codec_Put.row]⟩
    ·
     go_wp2
     go_roundg k1
     case measure=>omega
     case rel=>exact ⟨2,rfl,⟨by have:=hj.out;omega⟩,by simp[codec_Put.cells,codec_Put.row]⟩
    ·
     go_wp2
     go_roundg k1
     case measure=>omega
     case rel=>exact ⟨3,rfl,⟨by have:=hj.out;omega⟩,by simp[codec_Put.cells,codec_Put.row]⟩
    ·
     go_wp2
     go_roundg k1
     case measure=>omega
     case rel=>exact ⟨4,rfl,⟨by have:=hj.out;omega⟩,by simp[codec_Put.cells,codec_Put.row]⟩
    ·
     go_wp2
     go_roundg k1
     case measure=>omega
     case rel=>exact ⟨5,rfl,⟨by have:=hj.out;omega⟩,by simp[codec_Put.cells,codec_Put.row]⟩
    ·
     go_wp2
     go_roundg k1
     case measure=>omega
     case rel=>exact ⟨6,rfl,⟨by have:=hj.out;omega⟩,by simp[codec_Put.cells,codec_Put.row]⟩
    ·
     go_wp2
     go_roundg k1
     case measure=>omega
     case rel=>exact ⟨7,rfl,⟨by have:=hj.out;omega⟩,by simp[codec_Put.cells,codec_Put.row]⟩
    ·
     go_wp2
     go_roundg k1
     case measure=>omega
     case rel=>exact ⟨8,rfl,⟨by have:=hj.out;omega⟩,by simp[codec_Put.cells,codec_Put.row,hx]⟩
    ·
     go_wp2
     go_ret2
     refine ⟨_,rfl,R_of_block_ (n:=6) (setRow_heap _ _ _ _ 5 _ (alloc2_new_ _ _ _)) (by omega) rfl (by decide),below_setRow (below_alloc (below_alloc (Below.refl _ _) _) _) (by omega) _⟩
 ·
  have h5:(a0 / 72057594037927936 != 0)=false:=by
   rw[bne_eq_false_iff_eq]
   by_cases e:a0 / 2 ^ ((8*7:Int)).toNat=0
   ·
    exact e
   ·
    exact absurd (.inr (.inr ⟨by omega,e⟩)) h
  clear h
  have hmk : ∀ W:World,(Instr.makeSlice 83 (.int .i64 7) (.int .i64 7)).run Tryd.prog W=.ok (.slice (some ⟨W.heap.size,0,none⟩) 7 7) (W.alloc (.cells #[.int .u8 0,.int .u8 0,.int .u8 0,.int .u8 0,.int .u8 0,.int .u8 0,.int .u8 0] 5)):=codec_Put.made_ 7 (by omega)
  have hcp:(Builtin.copy_ #[83,83] 3 #[.slice (some ⟨w.heap.size+1,0,none⟩) 7 7,.slice (some ⟨w.heap.size,1,none⟩) 7 7]).run Tryd.prog ((w.alloc (.cells (codec_Put.cells a0 8) 97)).alloc (.cells #[.int .u8 0,.int .u8 0,.int .u8 0,.int .u8 0,.int .u8 0,.int .u8 0,.int .u8 0] 5)) =
   .ok (.int .i64 7) (((w.alloc (.cells (codec_Put.cells a0 8) 97)).alloc (.cells #[.int .u8 0,.int .u8 0,.int .u8 0,.int .u8 0,.int .u8 0,.int .u8 0,.int .u8 0] 5)).setRow (w.heap.size+1) (((codec_Put.row a0 8).drop 1).map (Value.int .u8)).toArray):=codec_Put.copied_ w a0 7 (by omega)
  go_enter Tryd.func58,Tryd.ntmps58
  go_wp2
  go_loopg [7,27] 9 (fun kq v7 v27 w'=>∃ j:Nat,v27=.int .i64 (j:Int)∧Aside0 (j+kq=9∧j≤8)∧w'=w.alloc (.cells (codec_Put.cells a0 j) 97))
  case atStart=>exact ⟨0,rfl,⟨by omega⟩,rfl⟩
  case round=>
   obtain⟨j,rfl,hj,rfl⟩:=hrel
   cases gk with
   |zero=>exact absurd hj.out (by omega)
   |succ k1=>
    have:j=0∨j=1∨j=2∨j=3∨j=4∨j=5∨j=6∨j=7∨j=8:=by have:=hj.out;omega
    rcases this with rfl|rfl|rfl|rfl|rfl|rfl|rfl|rfl|rfl
    ·
     go_wp2
     go_roundg k1
     case measure=>omega
     case rel=>exact ⟨1,rfl,⟨by have:=hj.out;omega⟩,by simp[codec_Put.cells,codec_Put.row]⟩
    ·
     go_wp2
     go_roundg k1
     case measure=>omega
     case rel=>exact ⟨2,rfl,⟨by have:=hj.out;omega⟩,by simp[codec_Put.cells,codec_Put.row]⟩
    ·
     go_wp2
     go_roundg k1
     case measure=>omega
     case rel=>exact ⟨3,rfl,⟨by have:=hj.out;omega⟩,by simp[codec_Put.cells,codec_Put.row]⟩
    ·
     go_wp2
     go_roundg k1
     case measure=>omega
     case rel=>exact ⟨4,rfl,⟨by have:=hj.out;omega⟩,by simp[codec_Put.cells,codec_Put.row]⟩
    ·
     go_wp2
     go_roundg k1
     case measure=>omega
     case rel=>exact ⟨5,rfl,⟨by have:=hj.out;omega⟩,by simp[codec_Put.cells,codec_Put.row]⟩
    ·
     go_wp2
     go_roundg k1
     case measure=>omega
     case rel=>exact ⟨6,rfl,⟨by have:=hj.out;omega⟩,by simp[codec_Put.cells,codec_Put.row]⟩
    ·
     go_wp2
     go_roundg k1
     case measure=>omega
     case rel=>exact ⟨7,rfl,⟨by have:=hj.out;omega⟩,by simp[codec_Put.cells,codec_Put.row]⟩
    ·
     go_wp2
     go_roundg k1
     case measure=>omega
     case rel=>exact ⟨8,rfl,⟨by have:=hj.out;omega⟩,by simp[codec_Put.cells,codec_Put.row,hx]⟩
    ·
     go_wp2
     go_ret2
     refine ⟨_,rfl,R_of_block_ (n:=7) (setRow_heap _ _ _ _ 5 _ (alloc2_new_ _ _ _)) (by omega) rfl (by decide),below_setRow (below_alloc (below_alloc (Below.refl _ _) _) _) (by omega) _⟩
 ·
  clear h
  have hmk : ∀ W:World,(Instr.makeSlice 83 (.int .i64 8) (.int .i64 8)).run Tryd.prog W=.ok (.slice (some ⟨W.heap.size,0,none⟩) 8 8) (W.alloc (.cells #[.int .u8 0,.int .u8 0,.int .u8 0,.int .u8 0,.int .u8 0,.int .u8 0,.int .u8 0,.int .u8 0] 5)):=codec_Put.made_ 8 (by omega)
  have hcp:(Builtin.copy_ #[83,83] 3 #[.slice (some ⟨w.heap.size+1,0,none⟩) 8 8,.slice (some ⟨w.heap.size,0,none⟩) 8 8]).run Tryd.prog ((w.alloc (.cells (codec_Put.cells a0 8) 97)).alloc (.cells #[.int .u8 0,.int .u8 0,.int .u8 0,.int .u8 0,.int .u8 0,.int .u8 0,.int .u8 0,.int .u8 0] 5)) =
   .ok (.int .i64 8) (((w.alloc (.cells (codec_Put.cells a0 8) 97)).alloc (.cells #[.int .u8 0,.int .u8 0,.int .u8 0,.int .u8 0,.int .u8 0,.int .u8 0,.int .u8 0,.int .u8 0] 5)).setRow (w.heap.size+1) (((codec_Put.row a0 8).drop 0).map (Value.int .u8)).toArray):=codec_Put.copied_ w a0 8 (by omega)
  go_enter Tryd.func58,Tryd.ntmps58
  go_wp2
  go_loopg [7,27] 9 (fun kq v7 v27 w'=>∃ j:Nat,v27=.int .i64 (j:Int)∧Aside0 (j+kq=9∧j≤8)∧w'=w.alloc (.cells (codec_Put.cells a0 j) 97))
  case atStart=>exact ⟨0,rfl,⟨by omega⟩,rfl⟩
  case round=>
   obtain⟨j,rfl,hj,rfl⟩:=hrel
   cases gk with
   |zero=>exact absurd hj.out (by omega)
   |succ k1=>
    have:j=0∨j=1∨j=2∨j=3∨j=4∨j=5∨j=6∨j=7∨j=8:=by have:=hj.out;omega
    rcases this with rfl|rfl|rfl|rfl|rfl|rfl|rfl|rfl|rfl
    ·
     go_wp2
     go_roundg k1
     case measure=>omega
     case rel=>exact ⟨1,rfl,⟨by have:=hj.out;omega⟩,by simp[codec_Put.cells,codec_Put.row]⟩
    ·
     go_wp2
     go_roundg k1
     case measure=>omega
     case rel=>exact ⟨2,rfl,⟨by have:=hj.out;omega⟩,by simp[codec_Put.cells,codec_Put.row]⟩
    ·
     go_wp2
     go_roundg k1
     case measure=>omega
     case rel=>exact ⟨3,rfl,⟨by have:=hj.out;omega⟩,by simp[codec_Put.cells,codec_Put.row]⟩
    ·
     go_wp2
     go_roundg k1
     case measure=>omega
     case rel=>exact ⟨4,rfl,⟨by have:=hj.out;omega⟩,by simp[codec_Put.cells,codec_Put.row]⟩
    ·
     go_wp2
     go_roundg k1
     case measure=>omega
     case rel=>exact ⟨5,rfl,⟨by have:=hj.out;omega⟩,by simp[codec_Put.cells,codec_Put.row]⟩
    ·
     go_wp2
     go_roundg k1
     case measure=>omega
     case rel=>exact ⟨6,rfl,⟨by have:=hj.out;omega⟩,by simp[codec_Put.cells,codec_Put.row]⟩
    ·
     go_wp2
     go_roundg k1
     case measure=>omega
     case rel=>exact ⟨7,rfl,⟨by have:=hj.out;omega⟩,by simp[codec_Put.cells,codec_Put.row]⟩
    ·
     go_wp2
     go_roundg k1
     case measure=>omega
     case rel=>exact ⟨8,rfl,⟨by have:=hj.out;omega⟩,by simp[codec_Put.cells,codec_Put.row,hx]⟩
    ·
     go_wp2
     go_ret2
     refine ⟨_,rfl,R_of_block_ (n:=8) (setRow_heap _ _ _ _ 5 _ (alloc2_new_ _ _ _)) (by omega) rfl (by decide),below_setRow (below_alloc (below_alloc (Below.refl _ _) _) _) (by omega) _⟩
theorem codec_Put.calls (E:Int→Addr) (a0 a1:Int) (r1:List Int) (r2:Option Int) (w:World) (hG:Glob E w) (h:codec_Put.f a0 a1=some (r1,r2)) :
  Calls Tryd.prog 58 #[.int .u64 a0,.int .i64 a1] w fun e w'=>∃ v0_:Value,e=.returned (.tuple #[v0_,errW E r2])∧Kd.R (Kd.int .u8) 5 w' w.heap.size (fun _=>True) v0_ r1∧Below w.heap.size w w':=by
 unfold codec_Put.f at h
 split at h
 ·
  rename_i h0
  split at h
  ·
   rename_i h1
   simp only[Option.some.injEq,Prod.mk.injEq] at h
   obtain⟨rfl,rfl⟩:=h
   exact (codec_Put.refuse E a0 a1 w hG h0.1 h1).mono (fun e w' he=>⟨_,he.1,Kd.R_nil _ _ _ _ _,he.2⟩)
  ·
   rename_i h1
   simp only[Option.some.injEq,Prod.mk.injEq] at h
   obtain⟨rfl,rfl⟩:=h
   exact (codec_Put.good E a0 a1 w h0.1 h0.2 h1)
 ·
  simp at h

/-! ### leaf_cell: function 38 -/
def leaf_cell.f (a0_0:ByteArray) (a0_1:ByteArray):Option (ByteArray):=(codec_Put.f (a0_0.size:Int) 1).bind fun bt155=>((codec_Put.f (a0_1.size:Int) 2).bind fun bt159=>(if (strOfNums bt155.1).size+(strOfNums bt159.1).size≤9223372036854775807 then (if ((strOfNums bt155.1)++(strOfNums bt159.1)).size+a0_0.size≤9223372036854775807 then (if (((strOfNums bt155.1)++(strOfNums bt159.1))++a0_0).size+a0_1.size≤9223372036854775807 then (some ((((strOfNums bt155.1)++(strOfNums bt159.1))++a0_0)++a0_1)) else (none)) else (none)) else (none)))
set_option maxHeartbeats 8000000 in
set_option maxRecDepth 100000 in
theorem leaf_cell.calls (E:Int→Addr) (a0_0:ByteArray) (a0_1:ByteArray) (r:ByteArray) (w:World) (hG:Glob E w) (h:leaf_cell.f a0_0 a0_1=some r) :
  Calls Tryd.prog 38 #[.agg #[.string a0_0,.string a0_1]] w fun e w'=>e=.returned (.string r)∧Below w.heap.size w w':=by
 have hu58:=Tryd.underlying58
 have HB:=Aside0.mk (Below.refl w.heap.size w)
 have HG:=Aside0.mk hG
 clear hG
 have H:((codec_Put.f (a0_0.size:Int) 1).bind fun bt155=>((codec_Put.f (a0_1.size:Int) 2).bind fun bt159=>(if (strOfNums bt155.1).size+(strOfNums bt159.1).size≤9223372036854775807 then (if ((strOfNums bt155.1)++(strOfNums bt159.1)).size+a0_0.size≤9223372036854775807 then (if (((strOfNums bt155.1)++(strOfNums bt159.1))++a0_0).size+a0_1.size≤9223372036854775807 then (some ((((strOfNums bt155.1)++(strOfNums bt159.1))++a0_0)++a0_1)) else (none)) else (none)) else (none))))=some r:=h
 clear h
 replace H:=Option.bind_eq_some_iff.mp H
 obtain⟨⟨t155,t156⟩,A20,H⟩:=H
 try dsimp only at H
 have A2:=Aside0.mk A20
 clear A20
 replace H:=Option.bind_eq_some_iff.mp H
 obtain⟨⟨t159,t160⟩,A30,H⟩:=H
 try dsimp only at H
 have A3:=Aside0.mk A30
 clear A30
 by_cases c4:(strOfNums t155).size+(strOfNums t159).size≤9223372036854775807
 ·
  rw[if_pos c4] at H
  have c4b0:=eq_true c4
  have c4b1:decide ((strOfNums t155).size+(strOfNums t159).size≤9223372036854775807)=true:=decide_eq_true c4
  try have c4b2:(9223372036854775807<(strOfNums t155).size+(strOfNums t159).size)=False:=eq_false (Nat.not_lt.2 c4)
  by_cases c5:((strOfNums t155)++(strOfNums t159)).size+a0_0.size≤9223372036854775807
  ·
   rw[if_pos c5] at H
   have c5b0:=eq_true c5
   have c5b1:decide (((strOfNums t155)++(strOfNums t159)).size+a0_0.size≤9223372036854775807)=true:=decide_eq_true c5
   try have c5b2:(9223372036854775807<((strOfNums t155)++(strOfNums t159)).size+a0_0.size)=False:=eq_false (Nat.not_lt.2 c5)
   by_cases c6:(((strOfNums t155)++(strOfNums t159))++a0_0).size+a0_1.size≤9223372036854775807
   ·
    rw[if_pos c6] at H
    have c6b0:=eq_true c6
    have c6b1:decide ((((strOfNums t155)++(strOfNums t159))++a0_0).size+a0_1.size≤9223372036854775807)=true:=decide_eq_true c6
    try have c6b2:(9223372036854775807<(((strOfNums t155)++(strOfNums t159))++a0_0).size+a0_1.size)=False:=eq_false (Nat.not_lt.2 c6)
    obtain rfl:=Option.some.inj H
    go_enter Tryd.func38,Tryd.ntmps38
    go_wp2_with (first|((with_reducible refine gate_dst (N:=1) rfl ?_);refine box_event ?hg (N:=1) ?hd (cs:=#[.string a0_0,.string a0_1]) (t:=58) ?hr ?_;(case hd=>rfl);(case hg=>rfl);(case hr=>first|(go_simp;done)|(go_simp;rfl));intro gb154 hg w7 hbox hb;have n0_:=Aside0.mk (below_step (upB HB.out) hb);have n1_:=Aside0.mk (hbox);have n2_:=Aside0.mk ((by rw[hg];exact (below_size (upB HB.out)):w.heap.size≤gb154));have n3_:=Aside0.mk ((by rw[hg];exact (below_size (upB HB.out)):w.heap.size≤gb154));clear HB;have HB:=n0_;have BK154:=n1_;have GW154:=n2_;have GE154:=n3_;clear n0_ n1_ n2_ n3_;clear hb hbox hg;have hcz8_0:w7.cell? ⟨gb154,0,none⟩=some (.string a0_0):=(blk_cell BK154.out 0).trans rfl;have hcz8_1:w7.cell? ⟨gb154,1,none⟩=some (.string a0_1):=(blk_cell BK154.out 1).trans rfl;have hfz8_0:=blk_frozen BK154.out 0;have hfz8_1:=blk_frozen BK154.out 1)|((with_reducible refine gate_callee (f:=58) rfl ?_);refine goesL_ (some 12) rfl rfl Tryd.func58 (by kernel_rfl) rfl #[.int .u64 (a0_0.size:Int),.int .i64 1] rfl (by (try simp only[ml_]);first|done|rfl|(simp only[List.length_drop,List.length_take];rfl)) ?_;(with_reducible refine (codec_Put.calls E (a0_0.size:Int) 1 t155 t156 _ ?side1 A2.out).mono ?_);(case side1=>exact (Glob.below HG.out (by repeat (first|exact upB HB.out|refine below_set ?_ GE154.out))));rintro e w9 ⟨v157,rfl,ho0,hb⟩;refine ⟨_,rfl,?_⟩;have n0_:=Aside0.mk (Kd.R_lower ho0 (below_size (by repeat (first|exact upB HB.out|refine below_set ?_ GE154.out))));have n1_:=Aside0.mk (blk_below (g:=gb154) (o:=.cells #[.string a0_0,.string a0_1] 58 (0,0)) (upX BK154.out) hb);have n2_:=Aside0.mk (below_step (by repeat (first|exact upB HB.out|refine below_set ?_ GE154.out)) hb);clear BK154;clear HB;have HO158:=n0_;have BK154:=n1_;have HB:=n2_;clear n0_ n1_ n2_;(try clear hb);(try clear hb2);(try clear hk);(try clear hi);(try clear ho0);(try simp only[errW_none,errW_some]);have hcz10_0:w9.cell? ⟨gb154,0,none⟩=some (.string a0_0):=(blk_cell BK154.out 0).trans rfl;have hcz10_1:w9.cell? ⟨gb154,1,none⟩=some (.string a0_1):=(blk_cell BK154.out 1).trans rfl;have hfz10_0:=blk_frozen BK154.out 0;have hfz10_1:=blk_frozen BK154.out 1)|((with_reducible refine gate_callee (f:=58) rfl ?_);refine goesL_ (some 20) rfl rfl Tryd.func58 (by kernel_rfl) rfl #[.int .u64 (a0_1.size:Int),.int .i64 2] rfl (by (try simp only[ml_]);first|done|rfl|(simp only[List.length_drop,List.length_take];rfl)) ?_;(with_reducible refine (codec_Put.calls E (a0_1.size:Int) 2 t159 t160 _ ?side1 A3.out).mono ?_);(case side1=>exact (Glob.below HG.out (by repeat (first|exact upB HB.out|refine below_set ?_ GE154.out))));rintro e w11 ⟨v161,rfl,ho0,hb⟩;refine ⟨_,rfl,?_⟩;have n0_:=Aside0.mk (Kd.R_elder' (upK HO158.out) (Kd.R_base ho0) hb);have n1_:=Aside0.mk (Kd.R_lower (Kd.R_new' ho0 (Kd.R_lt (upK HO158.out))) (below_size (by repeat (first|exact upB HB.out|refine below_set ?_ GE154.out))));have n2_:=Aside0.mk (blk_below (g:=gb154) (o:=.cells #[.string a0_0,.string a0_1] 58 (0,0)) (upX BK154.out) hb);have n3_:=Aside0.mk (below_step (by repeat (first|exact upB HB.out|refine below_set ?_ GE154.out)) hb);clear HO158;clear BK154;clear HB;have HO158:=n0_;have HO162:=n1_;have BK154:=n2_;have HB:=n3_;clear n0_ n1_ n2_ n3_;(try clear hb);(try clear hb2);(try clear hk);(try clear hi);(try clear ho0);(try simp only[errW_none,errW_some]);have hcv12:=own_string (P:=Tryd.prog) Tryd.underlying83 Tryd.underlying5 Tryd.underlying9 (Kd.own_of_R HO158.out);have hcv13:=own_string (P:=Tryd.prog) Tryd.underlying83 Tryd.underlying5 Tryd.underlying9 (Kd.own_of_R HO162.out);have hcz14_0:w11.cell? ⟨gb154,0,none⟩=some (.string a0_0):=(blk_cell BK154.out 0).trans rfl;have hcz14_1:w11.cell? ⟨gb154,1,none⟩=some (.string a0_1):=(blk_cell BK154.out 1).trans rfl;have hfz14_0:=blk_frozen BK154.out 0;have hfz14_1:=blk_frozen BK154.out 1))
    go_ret
    exact ⟨by first|rfl|(simp[errW_none,errW_some] <;> rfl)|(simp[*,errW_none,errW_some] <;> rfl),by repeat (first|exact upB HB.out|refine below_set ?_ GE154.out|apply pw_below_drewN)⟩
   ·
    rw[if_neg c6] at H
    exact absurd H (by simp)
  ·
   rw[if_neg c5] at H
   exact absurd H (by simp)
 ·
  rw[if_neg c4] at H
  exact absurd H (by simp)

/-! ### cells_Size: function 59 -/
def cells_Size.l0:Nat→Int→List ByteArray→Int→Int→Option (Int)
 |0,_,_,_,_=>none
 |k+1,x3,x9,x10,x11=>if x11<x10 then (if 0≤x11 then (if x11<(x9.length:Int) then (cells_Size.l0 k (wrap64 (x3+((rdOf ByteArray.empty x9 x11).size:Int))) x9 x10 (wrap64 (x11+1))) else (none)) else (none)) else (some x3)
def cells_Size.f (k:Nat) (l0:List ByteArray):Option (Int):=cells_Size.l0 k (wrap64 (2*(l0.length:Int))) l0 (l0.length:Int) 0
theorem cells_Size.mono_l : ∀ k,(∀ y0 y1 y2 y3,LeO (cells_Size.l0 k y0 y1 y2 y3) (cells_Size.l0 (k+1) y0 y1 y2 y3))
 |0=>fun _ _ _ _ r h=>by simp[cells_Size.l0] at h
 |k+1=>by
  have ih0:=cells_Size.mono_l k
  ·
   intro y0 y1 y2 y3
   unfold cells_Size.l0
   repeat' first
   |(with_reducible exact ih0 _ _ _ _)
   |(with_reducible exact LeO.refl _)
   |(with_reducible exact LeO.none _)
   |(with_reducible refine LeO.ite ?_ ?_)
   |(with_reducible refine LeO.bind ?_ (fun _=>?_))
   |exact ih0 _ _ _ _
   |exact LeO.none _
   |refine LeO.ite ?_ ?_
   |refine LeO.bind ?_ (fun _=>?_)
theorem cells_Size.mono : ∀ a0 k,LeO (cells_Size.f k a0) (cells_Size.f (k+1) a0):=by
 intro a0 k
 have ih0:=cells_Size.mono_l k
 unfold cells_Size.f
 repeat' first
   |(with_reducible exact ih0 _ _ _ _)
   |(with_reducible exact LeO.refl _)
   |(with_reducible exact LeO.none _)
   |(with_reducible refine LeO.ite ?_ ?_)
   |(with_reducible refine LeO.bind ?_ (fun _=>?_))
   |exact ih0 _ _ _ _
   |exact LeO.none _
   |refine LeO.ite ?_ ?_
   |refine LeO.bind ?_ (fun _=>?_)
set_option maxHeartbeats 8000000 in
set_option maxRecDepth 100000 in
theorem cells_Size.calls (k:Nat) (A0:Option Addr) (c0:Nat) (l0:List ByteArray) (r:Int) (w:World) (hr0:Kd.C Kd.string w A0 l0.length l0) (hc0:l0.length≤c0) (h:cells_Size.f k l0=some r) :
  Calls Tryd.prog 59 #[.slice A0 l0.length c0] w fun e w'=>e=.returned (.int .i64 r)∧Drawn0 w w':=by
 have HR0:=Aside0.mk hr0
 have HC0:=Aside0.mk hc0
 clear hr0 hc0
 have H:(cells_Size.l0 k (wrap64 (2*(l0.length:Int))) l0 (l0.length:Int) 0)=some r:=h
 clear h
 have H':=Aside0.mk H
 clear H
 go_enter Tryd.func59,Tryd.ntmps59
 go_wp2
 go_loopg [3,11] k (fun kq v3 v11 w'=>∃ (x3_1:Int) (x11_1:Int),v3=.int .i64 x3_1∧v11=.int .i64 x11_1∧Aside0 (cells_Size.l0 kq x3_1 l0 (l0.length:Int) x11_1=some r)∧Aside0 (kq≤k)∧Drawn0 w w')
 case atStart=>exact ⟨(wrap64 (2*(l0.length:Int))),(0),(by first|rfl|(simp;done)|(simp[*];done)),(by first|rfl|(simp;done)|(simp[*];done)),H',⟨Nat.le_refl _⟩,by repeat (first|exact Drawn0.refl _|apply Drawn0.step)⟩
 case round=>
  clear H'
  obtain⟨x3_1,x11_1,rfl,rfl,HA,HK1,⟨m1,rfl⟩⟩:=hrel
  cases gk with
  |zero=>exact absurd HA.out (by simp[cells_Size.l0])
  |succ k1=>
   have H:=HA.out
   clear HA
   simp only[cells_Size.l0] at H
   by_cases c2:x11_1<(l0.length:Int)
   ·
    rw[if_pos c2] at H
    have c2b0:decide (x11_1<(l0.length:Int))=true:=decide_eq_true c2
    clear c2
    by_cases c3:0≤x11_1
    ·
     rw[if_pos c3] at H
     have c3b0:decide (0≤x11_1)=true:=decide_eq_true c3
     clear c3
     by_cases c4:x11_1<(l0.length:Int)
     ·
      rw[if_pos c4] at H
      have c4b0:decide (x11_1<(l0.length:Int))=true:=decide_eq_true c4
      clear c4
      have H':=Aside0.mk H
      clear H
      have p163:0≤(x11_1:Int):=of_decide_eq_true (by assumption)
      have q163:x11_1<(l0.length:Int):=of_decide_eq_true (by assumption)
      obtain⟨ad163,e163,hx163_0⟩:=Kd.at_string HR0.out x11_1 p163 q163
      cases e163
      replace p163:=eq_true p163
      replace q163:=eq_true q163
      go_wp2
      go_roundg k1
      case measure=>have:=HK1.out;omega
      case rel=>exact ⟨(wrap64 (x3_1+((rdOf ByteArray.empty l0 x11_1).size:Int))),(wrap64 (x11_1+1)),(by first|rfl|(simp;done)|(simp[*];done)),(by first|rfl|(simp;done)|(simp[*];done)),H',⟨by have:=HK1.out;omega⟩,by repeat (first|exact Drawn0.refl _|apply Drawn0.step)⟩
     ·
      rw[if_neg c4] at H
      exact absurd H (by simp)
    ·
     rw[if_neg c3] at H
     exact absurd H (by simp)
   ·
    rw[if_neg c2] at H
    have c2b0:decide (x11_1<(l0.length:Int))=false:=decide_eq_false c2
    clear c2
    obtain rfl:=Option.some.inj H
    go_wp2
    go_ret
    exact ⟨by first|rfl|(simp;done)|(simp[*];done),by repeat (first|exact Drawn0.refl _|apply Drawn0.step)⟩

end Go.Proofs.YtdailhlghlledaaDoor.XLeafNew
