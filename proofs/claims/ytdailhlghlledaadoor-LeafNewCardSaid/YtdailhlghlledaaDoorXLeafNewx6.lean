-- Printed for this claim by a program (wip/printx) that builds on the kit's print. Not trusted: Lean checks it.
-- slim
import Derived.Test.YtdailhlghlledaaDoorXLeafNewx0
import Derived.Test.YtdailhlghlledaaDoorXLeafNewx4
import Derived.Test.YtdailhlghlledaaDoorXLeafNewx5
namespace Go.Proofs.YtdailhlghlledaaDoor.XLeafNew
open Go.RowKit Go.Proofs.YtdailhlghlledaaDoorW.PrintWords Go.Proofs.YtdailhlghlledaaDoorW.PrintLast Go.Proofs.YtdailhlghlledaaDoorW.PrintMore
attribute [local go_sem] max2_int min2_int max_two min_two max_three min_three max_four min_four   -- for this text's walks alone
set_option linter.unusedVariables false
set_option linter.unusedSimpArgs false

/-! ### cells_Lay: function 39 -/
theorem szB_:(Tryd.prog.info? 5).map (·.size)=some 1:=by kernel_rfl
theorem setRow_alloc_ (W:World) (c d:Array Value) (t:Nat):(W.alloc (.cells c t)).setRow W.heap.size d=W.alloc (.cells d t):=by
 unfold World.setRow World.alloc
 congr 1
 apply Array.ext_getElem?
 intro k
 simp only[Array.getElem?_modify,Array.getElem?_push,Array.size_modify]
 split
 ·
  rename_i h
  subst h
  simp
 ·
  rename_i h
  rw[if_neg (fun e=>h e.symm),if_neg (fun e=>h e.symm)]
/-- The end of the first i texts. -/
def layE (l:List ByteArray) (i:Nat):Nat:=2*l.length+((l.take i).map (·.size)).sum
/-- The body behind i rounds. -/
def layC (l:List ByteArray):Nat→List Int
 |0=>List.replicate 4072 0
 |i+1=>(((layC l i).take (layE l i)++bytesOf (l.getD i ⟨#[]⟩)++(layC l i).drop (layE l (i+1))).set (2*i) ((layE l (i+1):Int) / 256 % 256)).set (2*i+1) ((layE l (i+1):Int) % 256)
def layN (C:List Int):Array Value:=(C.map (Value.int .u8)).toArray
set_option maxRecDepth 100000 in
theorem lay_copy (W:World) (C:List Int) (hC:C.length=4072) (e:Nat) (s:ByteArray) (h:e+s.size≤4072) :
  (Builtin.copy_ #[83,9] 3 #[.slice (some ⟨W.heap.size,e,none⟩) (4072 - e) (4072 - e),.string s]).run Tryd.prog (W.alloc (.cells (layN C) 94)) =
   .ok (.int .i64 s.size) (W.alloc (.cells (layN (C.take e++bytesOf s++C.drop (e+s.size))) 94)):=by
 have h1:=Lib.run_copy_row_string (P:=Tryd.prog) (W.alloc (.cells (layN C) 94)) 83 9 3 5 W.heap.size e (4072 - e) (4072 - e) s (layN C) 94 Tryd.underlying83 szB_ (heap_alloc_new W _) (by omega) (by simp[layN,hC];omega)
 have e1:((layN C).toList.take e++Lib.byteCells s.data.toList++(layN C).toList.drop (e+s.size)).toArray=layN (C.take e++bytesOf s++C.drop (e+s.size)):=by
  simp[layN,Lib.byteCells,bytesOf,List.map_take,List.map_drop]
 rw[h1,setRow_alloc_,e1]
 rfl
theorem lay_copy0 (W:World) (d:Option Addr) (s:ByteArray) (h:s.size=0):(Builtin.copy_ #[83,9] 3 #[.slice d 0 0,.string s]).run Tryd.prog W=.ok (.int .i64 0) W:=
 Lib.run_copy_empty_string (P:=Tryd.prog) W 83 9 3 5 d 0 0 s Tryd.underlying83 (by rw[szB_];rfl) h
theorem lay_string (W:World) (C:List Int) (hC:C.length=4072):(convert 83 9 (.slice (some ⟨W.heap.size,0,none⟩) 4072 4072)).run Tryd.prog (W.alloc (.cells (layN C) 94))=.ok (.string (strOfNums C)) (W.alloc (.cells (layN C) 94)):=by
 refine string_of_reads Tryd.underlying83 Tryd.underlying5 Tryd.underlying9 ⟨hC,?_,fun _=>⟨_,rfl,fun j hj=>?_⟩⟩
 ·
  decide
 ·
  have hb:=heap_alloc_new W (.cells (layN C) 94)
  rw[show (⟨W.heap.size,0,none⟩:Addr).add j=⟨W.heap.size,j,none⟩ by unfold Addr.add;split <;> simp_all]
  unfold World.cell?
  simp only[hb]
  simp[layN,List.getElem?_eq_getElem (show j<C.length by omega)]
theorem lay_info:(Tryd.prog.info? 94).map (·.zero)=some (some (.agg (List.replicate 4072 (Value.int .u8 0)).toArray)):=by kernel_rfl
theorem lay_zero_ (P:Program) (t:TypeId) (W:World) (z:Value) (i:TypeInfo) (hi:P.info? t=some i) (hz:i.zero=some z):(zeroValue t).run P W=.ok z W:=by
 simp[zeroValue,typeInfo,hi,hz]
theorem lay_zero (l:List ByteArray) (W:World):(zeroValue 94).run Tryd.prog W=.ok (.agg (layN (layC l 0))) W:=by
 obtain⟨i,hi,hz⟩:=Option.map_eq_some_iff.1 lay_info
 have e:layN (layC l 0)=(List.replicate 4072 (Value.int .u8 0)).toArray:=by
  unfold layN layC
  rw[List.map_replicate]
 rw[e]
 exact lay_zero_ _ _ W _ i hi hz
set_option maxRecDepth 100000 in
theorem lay_slice (W:World) (b E:Nat) (hE:E≤4072):(Instr.sliceAt 94 (.pointer (some ⟨b,0,none⟩)) (some (.int .i64 (E:Int))) none none).run Tryd.prog W=.ok (.slice (some (if 4072=E then ⟨b,0,none⟩ else ⟨b,E,none⟩)) (4072 - E) (4072 - E)) W:=by
 have hu:=Tryd.underlying94
 have hl:Tryd.prog.arrayLen 94=4072:=by simp[Program.arrayLen,hu]
 have he:Tryd.prog.elem 94=5:=by simp[Program.elem,hu]
 have h:=run_sliceAt_array_l (P:=Tryd.prog) W 94 ⟨b,0,none⟩ (by rw[hl,he];exact hu) .i64 (E:Int) (by omega) (by rw[hl];omega)
 rw[h,hl,he]
 obtain⟨i,hi,hz⟩:=Option.map_eq_some_iff.1 szB_
 simp[sizeOf,typeInfo,hi,hz,Result.andThen,slicedAt]
 split
 ·
  rfl
 ·
  unfold Addr.add
  split
  ·
   subst_vars;rfl
  ·
   first|(simp only[Nat.zero_add,Nat.mul_one];done)|simp
theorem layE_succ (l:List ByteArray) (i:Nat) (h:i<l.length):layE l (i+1)=layE l i+(l.getD i ⟨#[]⟩).size:=by
 unfold layE
 rw[List.take_succ_eq_append_getElem h,List.map_append,List.sum_append,List.getD_eq_getElem?_getD,List.getElem?_eq_getElem h]
 simp
 omega
theorem layE_le (l:List ByteArray) (i:Nat) (h:i≤l.length):layE l i≤layE l l.length:=by
 have : ∀ d i,i+d=l.length→layE l i≤layE l l.length:=by
  intro d
  induction d with
  |zero=>intro i hi;rw[show i=l.length by omega];exact Nat.le_refl _
  |succ d ih=>intro i hi;have:=ih (i+1) (by omega);rw[layE_succ l i (by omega)] at this;omega
 exact this (l.length - i) i (by omega)
theorem layC_len (l:List ByteArray) (hfit:layE l l.length≤4072) : ∀ i,i≤l.length→(layC l i).length=4072
 |0,_=>by rw[layC];exact List.length_replicate ..
 |i+1,h=>by
  have ih:=layC_len l hfit i (by omega)
  have e1:=layE_succ l i (by omega)
  have e2:=layE_le l (i+1) h
  simp only[layC,List.length_set,List.length_append,List.length_take,List.length_drop,ih,bytesOf_length]
  omega
theorem layN_at (C:List Int) (p:Nat) (h:p<C.length):(layN C)[p]?=some (.int .u8 (C.getD p 0)):=by
 simp[layN,List.getD_eq_getElem?_getD,List.getElem?_eq_getElem h]
theorem layN_set (C:List Int) (p:Nat) (x:Int):(layN C).setIfInBounds p (.int .u8 x)=layN (C.set p x):=by
 simp[layN,List.map_set]
set_option maxHeartbeats 8000000 in
set_option maxRecDepth 100000 in
theorem cells_Lay.good (k:Nat) (A0:Option Addr) (c0:Nat) (l0:List ByteArray) (n:Int) (w:World) (hr0:Kd.C Kd.string w A0 l0.length l0) (hc0:l0.length≤c0)
  (hA:cells_Size.f k l0=some n) (hn : ¬ n > 4072) (hfit:layE l0 l0.length≤4072) :
  Calls Tryd.prog 39 #[.slice A0 l0.length c0] w fun e w'=>e=.returned (.tuple #[.string (strOfNums (layC l0 l0.length)),.nilIface])∧Below w.heap.size w w':=by
 have HR0:=Aside0.mk hr0
 have HA:=Aside0.mk hA
 have HC0:=Aside0.mk hc0
 clear hr0 hA
 have cb:decide (n > 4072)=false:=decide_eq_false hn
 have cb':decide (4072<n)=false:=decide_eq_false hn
 have hn2:l0.length≤2036:=by unfold layE at hfit;omega
 have hw2:wrap64 (2*(l0.length:Int))=((layE l0 0:Nat):Int):=by unfold wrap64 layE;simp;omega
 have hz:=lay_zero l0
 go_enter Tryd.func39,Tryd.ntmps39
 go_wp2_with (first|(go_at_call 59;refine (cells_Size.calls k A0 c0 l0 n _ HR0.out HC0.out HA.out).mono ?_;rintro e w1 ⟨rfl,hd⟩;have HD:=Aside0.mk hd;clear hd))
 go_loopg [5,17] (l0.length+1) (fun kq v5 v17 w'=>∃ i:Nat,v17=.int .i64 (i:Int)∧v5=.int .i64 ((layE l0 i:Nat):Int)∧Aside0 (i+kq=l0.length+1∧i≤l0.length)∧w'=w1.alloc (.cells (layN (layC l0 i)) 94))
 case atStart=>exact ⟨0,rfl,by rw[←hw2];congr 1;unfold wrap64;omega,⟨by omega,by omega⟩,rfl⟩
 case round=>
  obtain⟨i,rfl,rfl,hi,rfl⟩:=hrel
  cases gk with
  |zero=>exact absurd hi.out (by omega)
  |succ k1=>
   by_cases c2:i<l0.length
   ·
    have c2b:decide ((i:Int)<(l0.length:Int))=true:=decide_eq_true (by omega)
    have c2d:decide (i<l0.length)=true:=decide_eq_true c2
    obtain⟨ad,e,hx_0⟩:=Kd.at_string HR0.out (i:Int) (by omega) (by omega)
    cases e
    rw[Int.toNat_natCast] at hx_0
    replace hx_0:=((below_alloc HD.out.below (.cells (layN (layC l0 i)) 94)).cell (World.block_lt_of_cell? w _ hx_0)).trans hx_0
    have hs:rdOf (ByteArray.empty) l0 (i:Int)=l0.getD i ⟨#[]⟩:=by unfold rdOf;rw[Int.toNat_natCast];rfl
    rw[hs] at hx_0
    have e1:=layE_succ l0 i c2
    have e2:=layE_le l0 (i+1) c2
    have hl:=layC_len l0 hfit i (by omega)
    obtain⟨s,hsd⟩ : ∃ s,s=l0.getD i ⟨#[]⟩:=⟨_,rfl⟩
    obtain⟨E,hE⟩ : ∃ E,E=layE l0 i:=⟨_,rfl⟩
    obtain⟨E2,hE2⟩ : ∃ E2,E2=layE l0 (i+1):=⟨_,rfl⟩
    obtain⟨C,hC⟩ : ∃ C,C=layC l0 i:=⟨_,rfl⟩
    have HC:=Aside0.mk (show layC l0 (i+1)=((C.take E++bytesOf s++C.drop (E+s.size)).set (2*i) ((E2:Int) / 256 % 256)).set (2*i+1) ((E2:Int) % 256) by rw[hC,hE,hE2,hsd,←e1];rfl)
    rw[←hsd] at hx_0 e1
    rw[←hE,←hE2] at e1
    rw[←hE2] at e2
    rw[←hC] at hl hx_0
    rw[←hE,←hC]
    clear hs hsd hE hC
    have HE2:=Aside0.mk hE2
    clear hE2
    have huA:=Tryd.underlying94
    have hlC:(C.take E++bytesOf s++C.drop (E+s.size)).length=4072:=by simp only[List.length_append,List.length_take,List.length_drop,bytesOf_length,hl];omega
    have hi2:i<2036:=by omega
    obtain⟨D,hD⟩ : ∃ D,D=C.take E++bytesOf s++C.drop (E+s.size):=⟨_,rfl⟩
    have HC2:=Aside0.mk (show layC l0 (i+1)=(D.set (2*i) ((E2:Int) / 256 % 256)).set (2*i+1) ((E2:Int) % 256) by rw[HC.out,hD])
    clear HC
    have q1:=layN_at D (2*i) (by rw[hD,hlC];omega)
    have q2:=layN_at D (2*i+1) (by rw[hD,hlC];omega)
    have hr:w1.alloc (.cells (((layN D).setIfInBounds (2*i) (.int .u8 (((E:Int)+(s.size:Int)) / 256))).setIfInBounds (2*i+1) (.int .u8 (((E:Int)+(s.size:Int)) % 256))) 94)=w1.alloc (.cells (layN (layC l0 (i+1))) 94):=by
     rw[layN_set,layN_set,HC2.out,show (E2:Int) / 256 % 256=((E:Int)+(s.size:Int)) / 256 by omega,show (E2:Int) % 256=((E:Int)+(s.size:Int)) % 256 by omega]
    have HRR:=Aside0.mk hr
    clear hr
    by_cases he:E<4072
    ·
     have hcp:=lay_copy w1 C hl E s (by omega)
     have hsl:=lay_slice (w1.alloc (.cells (layN C) 94)) w1.heap.size E (by omega)
     rw[if_neg (by omega)] at hsl
     rw[←hD] at hcp
     clear hD hlC
     go_wp2
     go_roundg k1
     case measure=>omega
     case rel=>exact ⟨i+1,by simp,by rw[←HE2.out,e1];simp,⟨by have:=hi.out;omega⟩,HRR.out⟩
    ·
     have hs0:s.size=0:=by omega
     have hE4:E=4072:=by omega
     have hsl:=lay_slice (w1.alloc (.cells (layN C) 94)) w1.heap.size E (by omega)
     rw[if_pos (by omega),show 4072 - E=0 by omega] at hsl
     have hcp:=lay_copy0 (w1.alloc (.cells (layN C) 94)) (some ⟨w1.heap.size,0,none⟩) s hs0
     have hDC:D=C:=by
      rw[hD,hs0,hE4]
      have hb:bytesOf s=[]:=List.eq_nil_of_length_eq_zero (by rw[bytesOf_length,hs0])
      rw[hb,List.append_nil,Nat.add_zero,List.take_append_drop]
     subst hDC
     clear hD hlC
     have HR2:=Aside0.mk (show w1.alloc (.cells (((layN D).setIfInBounds (2*i) (.int .u8 ((E:Int) / 256))).setIfInBounds (2*i+1) (.int .u8 ((E:Int) % 256))) 94)=w1.alloc (.cells (layN (layC l0 (i+1))) 94) by have h:=HRR.out;rw[hs0] at h;simpa using h)
     clear hE4
     go_wp2
     go_roundg k1
     case measure=>omega
     case rel=>exact ⟨i+1,by simp,by rw[←HE2.out,e1,hs0];simp,⟨by have:=hi.out;omega⟩,HR2.out⟩
   ·
    have c2b:decide ((i:Int)<(l0.length:Int))=false:=decide_eq_false (by omega)
    have c2d:decide (i<l0.length)=false:=decide_eq_false c2
    obtain rfl:i=l0.length:=by have:=hi.out;omega
    have hst:=lay_string w1 (layC l0 l0.length) (layC_len l0 hfit _ (Nat.le_refl _))
    go_wp2
    go_ret2
    exact ⟨rfl,below_alloc HD.out.below _⟩
def cells_Lay.f (k:Nat) (l0:List ByteArray):Option (ByteArray×Option Int):=(cells_Size.f k l0).bind fun n=>if n > 4072 then some ((⟨#[]⟩:ByteArray),some 3) else if layE l0 l0.length≤4072 then some (strOfNums (layC l0 l0.length),none) else none
theorem cells_Lay.mono : ∀ a0 k,LeO (cells_Lay.f k a0) (cells_Lay.f (k+1) a0):=by
 intro a0 k
 unfold cells_Lay.f
 exact LeO.bind (cells_Size.mono _ _) (fun _=>LeO.refl _)
set_option maxHeartbeats 8000000 in
set_option maxRecDepth 100000 in
theorem cells_Lay.calls (k:Nat) (E:Int→Addr) (A0:Option Addr) (c0:Nat) (l0:List ByteArray) (r1:ByteArray) (r2:Option Int) (w:World) (hG:Glob E w) (hr0:Kd.C Kd.string w A0 l0.length l0) (hc0:l0.length≤c0) (h:cells_Lay.f k l0=some (r1,r2)) :
  Calls Tryd.prog 39 #[.slice A0 l0.length c0] w fun e w'=>e=.returned (.tuple #[.string r1,errW E r2])∧Below w.heap.size w w':=by
 unfold cells_Lay.f at h
 obtain⟨n,hA,h⟩:=Option.bind_eq_some_iff.mp h
 by_cases hn:n > 4072
 ·
  rw[if_pos hn] at h
  simp only[Option.some.injEq,Prod.mk.injEq] at h
  obtain⟨rfl,rfl⟩:=h
  have huE:=Tryd.underlying28
  have HR0:=Aside0.mk hr0
  have HA:=Aside0.mk hA
  have HC0:=Aside0.mk hc0
  clear hr0 hA hc0
  have cb:decide (n > 4072)=true:=decide_eq_true hn
  have cb':decide (4072<n)=true:=decide_eq_true hn
  go_enter Tryd.func39,Tryd.ntmps39
  go_wp2_with (first|(go_at_call 59;refine (cells_Size.calls k A0 c0 l0 n _ HR0.out HC0.out HA.out).mono ?_;rintro e w1 ⟨rfl,hd⟩;have HD:=Aside0.mk hd;have hx:=(Glob.below hG hd.below).c2;simp only[errW_some] at hx;clear hd))
  repeat (go_quiet (fail);try go_wp2)
  go_ret2
  exact ⟨rfl,by first|exact pw_below_drewN HD.out.below _|exact HD.out.below⟩
 ·
  rw[if_neg hn] at h
  by_cases hf:layE l0 l0.length≤4072
  ·
   rw[if_pos hf] at h
   simp only[Option.some.injEq,Prod.mk.injEq] at h
   obtain⟨rfl,rfl⟩:=h
   exact cells_Lay.good k A0 c0 l0 n w hr0 hc0 hA hn hf
  ·
   rw[if_neg hf] at h
   exact absurd h (by simp)

/-! ### leaf_Encode: function 21 -/
def leaf_Encode.l0:Nat→List ByteArray→List (S58)→Int→Int→Option (ByteArray×Option Int)
 |0,_,_,_,_=>none
 |k+1,x5,x13,x14,x15=>if x15<x14 then (if 0≤x15 then (if x15<(x13.length:Int) then ((leaf_cell.f ((rd_T58 x13 x15).f0) ((rd_T58 x13 x15).f1)).bind fun t168=>(if x5.length<8796093022208 then (leaf_Encode.l0 k (x5++[t168]) x13 x14 (wrap64 (x15+1))) else (none))) else (none)) else (none)) else ((cells_Lay.f k x5).bind fun bt172=>(some (bt172.1,bt172.2)))
def leaf_Encode.f (k:Nat) (l0:List (S58)):Option (ByteArray×Option Int):=(leaf_Check.f k l0 true).bind fun t164=>(if t164.isNone=true then (leaf_Encode.l0 k ([]:List ByteArray) l0 (l0.length:Int) 0) else (some ((⟨#[]⟩:ByteArray),some (t164.getD 0))))
theorem leaf_Encode.mono_l : ∀ k,(∀ y0 y1 y2 y3,LeO (leaf_Encode.l0 k y0 y1 y2 y3) (leaf_Encode.l0 (k+1) y0 y1 y2 y3))
 |0=>fun _ _ _ _ r h=>by simp[leaf_Encode.l0] at h
 |k+1=>by
  have ih0:=leaf_Encode.mono_l k
  ·
   intro y0 y1 y2 y3
   unfold leaf_Encode.l0
   repeat' first
   |(with_reducible exact ih0 _ _ _ _)
   |(with_reducible exact cells_Lay.mono _ _)
   |(with_reducible exact leaf_Check.mono _ _ _)
   |(with_reducible exact LeO.refl _)
   |(with_reducible exact LeO.none _)
   |(with_reducible refine LeO.ite ?_ ?_)
   |(with_reducible refine LeO.bind ?_ (fun _=>?_))
   |exact ih0 _ _ _ _
   |exact cells_Lay.mono _ _
   |exact leaf_Check.mono _ _ _
   |exact LeO.none _
   |refine LeO.ite ?_ ?_
   |refine LeO.bind ?_ (fun _=>?_)
theorem leaf_Encode.mono : ∀ a0 k,LeO (leaf_Encode.f k a0) (leaf_Encode.f (k+1) a0):=by
 intro a0 k
 have ih0:=leaf_Encode.mono_l k
 unfold leaf_Encode.f
 repeat' first
   |(with_reducible exact ih0 _ _ _ _)
   |(with_reducible exact cells_Lay.mono _ _)
   |(with_reducible exact leaf_Check.mono _ _ _)
   |(with_reducible exact LeO.refl _)
   |(with_reducible exact LeO.none _)
   |(with_reducible refine LeO.ite ?_ ?_)
   |(with_reducible refine LeO.bind ?_ (fun _=>?_))
   |exact ih0 _ _ _ _
   |exact cells_Lay.mono _ _
   |exact leaf_Check.mono _ _ _
   |exact LeO.none _
   |refine LeO.ite ?_ ?_
   |refine LeO.bind ?_ (fun _=>?_)
set_option maxHeartbeats 8000000 in
set_option maxRecDepth 100000 in
theorem leaf_Encode.calls (k:Nat) (E:Int→Addr) (A0:Option Addr) (c0:Nat) (l0:List (S58)) (r1:ByteArray) (r2:Option Int) (w:World) (hG:Glob E w) (hr0:Kd.C k58 w A0 l0.length l0) (hc0:l0.length≤c0) (h:leaf_Encode.f k l0=some (r1,r2)) :
  Calls Tryd.prog 21 #[.slice A0 l0.length c0] w fun e w'=>e=.returned (.tuple #[.string r1,errW E r2])∧Below w.heap.size w w':=by
 have hu58:=Tryd.underlying58
 have hu28:=Tryd.underlying28
 have hu100:=Tryd.underlying100
 have HR0:=Aside0.mk hr0
 have HC0:=Aside0.mk hc0
 clear hr0 hc0
 have HB:=Aside0.mk (Below.refl w.heap.size w)
 have HG:=Aside0.mk hG
 clear hG
 have H:((leaf_Check.f k l0 true).bind fun t164=>(if t164.isNone=true then (leaf_Encode.l0 k ([]:List ByteArray) l0 (l0.length:Int) 0) else (some ((⟨#[]⟩:ByteArray),some (t164.getD 0)))))=some (r1,r2):=h
 clear h
 replace H:=Option.bind_eq_some_iff.mp H
 obtain⟨t164,A20,H⟩:=H
 try dsimp only at H
 have A2:=Aside0.mk A20
 clear A20
 rcases t164 with _|q165
 ·
  have H1:(leaf_Encode.l0 k ([]:List ByteArray) l0 (l0.length:Int) 0)=some (r1,r2):=by rw[if_pos (show (none:Option Int).isNone=true by rfl)] at H;exact H
  clear H
  have H:=H1
  clear H1
  try simp only[errW_none,errW_some]
  have H':=Aside0.mk H
  clear H
  go_enter Tryd.func21,Tryd.ntmps21
  go_wp2_with (first|((with_reducible refine gate_callee (f:=13) rfl ?_);refine goesL_ (some 9) rfl rfl Tryd.func13 (by kernel_rfl) rfl #[.slice A0 l0.length c0,.bool true] rfl (by (try simp only[ml_]);first|done|rfl|(simp only[List.length_drop,List.length_take];rfl)) ?_;(with_reducible refine (leaf_Check.calls k E _ _ l0 true none _ ?side1 ?side2 ?side3 A2.out).mono ?_);(case side1=>exact (Glob.below HG.out (upB HB.out)));(case side2=>exact upC HR0.out);(case side3=>exact HC0.out);rintro e w3 ⟨rfl,hb⟩;refine ⟨_,rfl,?_⟩;have n0_:=Aside0.mk (below_step (upB HB.out) hb);clear HB;have HB:=n0_;clear n0_;(try clear hb);(try clear hb2);(try clear hk);(try clear hi);(try simp only[errW_none,errW_some])))
  go_loopg [5,15] k (fun kq v5 v15 w'=>∃ (x5_1:List ByteArray) (x15_1:Int),v15=.int .i64 x15_1∧Aside0 (leaf_Encode.l0 kq x5_1 l0 (l0.length:Int) x15_1=some (r1,r2))∧Aside0 (kq≤k)∧Aside0 (Kd.R Kd.string 9 w' w.heap.size (fun _=>True) v5 x5_1)∧Aside0 (Below w.heap.size w w'))
  case atStart=>exact ⟨(([]:List ByteArray)),(0),(by first|rfl|(simp;done)|(simp[*];done)),H',⟨Nat.le_refl _⟩,⟨by first|exact Kd.R_nil _ _ _ _ _|exact Kd.N_nil _ _ _ _ _|exact Kd.V_nil _ _ _ _ _|exact Kd.Q_nil _ _ _ _ _|exact Kd.S_nil _ _ _ _ _⟩,⟨upB HB.out⟩⟩
  case round=>
   clear H'
   try clear c1
   try clear q1
   try clear c2
   try clear p2
   try clear q165
   obtain⟨x5_1,x15_1,rfl,HA,HK1,HO_5,HB⟩:=hrel
   cases gk with
   |zero=>exact absurd HA.out (by simp[leaf_Encode.l0])
   |succ k1=>
    have H:=HA.out
    clear HA
    simp only[leaf_Encode.l0] at H
    by_cases c4:x15_1<(l0.length:Int)
    ·
     rw[if_pos c4] at H
     have c4b0:decide (x15_1<(l0.length:Int))=true:=decide_eq_true c4
     clear c4
     by_cases c5:0≤x15_1
     ·
      rw[if_pos c5] at H
      have c5b0:decide (0≤x15_1)=true:=decide_eq_true c5
      clear c5
      by_cases c6:x15_1<(l0.length:Int)
      ·
       rw[if_pos c6] at H
       have c6b0:decide (x15_1<(l0.length:Int))=true:=decide_eq_true c6
       clear c6
       replace H:=Option.bind_eq_some_iff.mp H
       obtain⟨t168,A70,H⟩:=H
       try dsimp only at H
       have A7:=Aside0.mk A70
       clear A70
       by_cases c8:x5_1.length<8796093022208
       ·
        rw[if_pos c8] at H
        have LMc8:=Aside0.mk c8
        clear c8
        obtain⟨y169,hy169⟩ : ∃ y_:List ByteArray,y_=(x5_1++[t168]):=⟨_,rfl⟩
        replace H:(leaf_Encode.l0 k1 y169 l0 (l0.length:Int) (wrap64 (x15_1+1)))=some (r1,r2):=by first|(rw[hy169];with_reducible exact H)|(have H2_:=(Option.bind_some _ _).symm.trans H;rw[hy169];with_reducible exact H2_)|(have H2_:=(Option.bind_some _ _).symm.trans H;with_reducible exact H2_)|with_reducible exact H|(rw[hy169];exact H)|exact H
        have Ny169:=Aside0.mk hy169
        clear hy169
        have H':=Aside0.mk H
        clear H
        have p166:0≤(x15_1:Int):=of_decide_eq_true (by assumption)
        have q166:x15_1<(l0.length:Int):=of_decide_eq_true (by assumption)
        obtain⟨ad166,e166,hx166_0,hx166_1⟩:=at_T58 HR0.out x15_1 p166 q166
        cases e166
        replace hx166_0:=(HB.out.cell (World.block_lt_of_cell? w _ hx166_0)).trans hx166_0
        replace hx166_1:=(HB.out.cell (World.block_lt_of_cell? w _ hx166_1)).trans hx166_1
        replace p166:=eq_true p166
        replace q166:=eq_true q166
        go_wp2_with (first|((with_reducible refine gate_dst (N:=7) rfl ?_);refine box_event ?hg (N:=7) ?hd (cs:=#[.string (⟨#[]⟩:ByteArray),.string (⟨#[]⟩:ByteArray)]) (t:=58) ?hr ?_;(case hd=>rfl);(case hg=>rfl);(case hr=>first|(go_simp;done)|(go_simp;rfl));intro gb167 hg w9 hbox hb;have n0_:=Aside0.mk (Kd.R_below (upK HO_5.out) hb);have n1_:=Aside0.mk (below_step (upB HB.out) hb);have n2_:=Aside0.mk (hbox);have n3_:=Aside0.mk ((by rw[hg];exact (below_size (upB HB.out)):w.heap.size≤gb167));have n4_:=Aside0.mk ((by rw[hg];exact (below_size (upB HB.out)):w.heap.size≤gb167));clear HO_5;clear HB;have HO_5:=n0_;have HB:=n1_;have BK167:=n2_;have GW167:=n3_;have GE167:=n4_;clear n0_ n1_ n2_ n3_ n4_;clear hb hbox hg;have hcz10_0:w9.cell? ⟨gb167,0,none⟩=some (.string (⟨#[]⟩:ByteArray)):=(blk_cell BK167.out 0).trans rfl;have hcz10_1:w9.cell? ⟨gb167,1,none⟩=some (.string (⟨#[]⟩:ByteArray)):=(blk_cell BK167.out 1).trans rfl;have hfz10_0:=blk_frozen BK167.out 0;have hfz10_1:=blk_frozen BK167.out 1)|((with_reducible refine gate_callee (f:=38) rfl ?_);refine goesL_ (some 21) rfl rfl Tryd.func38 (by kernel_rfl) rfl #[.agg #[.string ((rd_T58 l0 x15_1).f0),.string ((rd_T58 l0 x15_1).f1)]] rfl (by (try simp only[ml_]);first|done|rfl|(simp only[List.length_drop,List.length_take];rfl)) ?_;(with_reducible refine (leaf_cell.calls E ((rd_T58 l0 x15_1).f0) ((rd_T58 l0 x15_1).f1) t168 _ ?side1 A7.out).mono ?_);(case side1=>exact (Glob.below HG.out (by repeat (first|exact upB HB.out|refine below_set ?_ GE167.out))));rintro e w11 ⟨rfl,hb⟩;refine ⟨_,rfl,?_⟩;have n0_:=Aside0.mk (Kd.R_below (by (with_reducible repeat (first|apply Kd.R_alloc|apply Kd.R_drewN|apply Kd.R_drew));exact (Kd.R_mono (Kd.R_far (p:=⟨gb167,1,none⟩) (Kd.R_far (p:=⟨gb167,0,none⟩) (Kd.R_types HO_5.out BK167.out (by decide)) (fun _ hk=>hk.2) (.string ((rd_T58 l0 x15_1).f0))) (fun _ hk=>hk.2) (.string ((rd_T58 l0 x15_1).f1))) (fun _ h_=>h_.1))) hb);have n1_:=Aside0.mk (blk_below (g:=gb167) (o:=.cells #[.string ((rd_T58 l0 x15_1).f0),.string ((rd_T58 l0 x15_1).f1)] 58 (0,0)) (by (with_reducible repeat (first|refine blk_drewN ?_ _|refine blk_drew ?_|refine blk_alloc ?_ _));refine blk_put (cs:=#[.string ((rd_T58 l0 x15_1).f0),.string (⟨#[]⟩:ByteArray)]) ?_ 1 _ rfl;(with_reducible repeat (first|refine blk_drewN ?_ _|refine blk_drew ?_|refine blk_alloc ?_ _));refine blk_put (cs:=#[.string (⟨#[]⟩:ByteArray),.string (⟨#[]⟩:ByteArray)]) ?_ 0 _ rfl;(with_reducible repeat (first|refine blk_drewN ?_ _|refine blk_drew ?_|refine blk_alloc ?_ _));exact BK167.out) hb);have n2_:=Aside0.mk (below_step (by repeat (first|exact upB HB.out|refine below_set ?_ GE167.out)) hb);clear HO_5;clear BK167;clear HB;have HO_5:=n0_;have BK167:=n1_;have HB:=n2_;clear n0_ n1_ n2_;(try clear hb);(try clear hb2);(try clear hk);(try clear hi))|((with_reducible refine gate_builtin (b:=.append) (xs:=#[.tmp 19,.tmp 22]) rfl ?_);at_builtin;refine Kd.R_append Kd.string (w0:=w) w.heap.size rfl (.tmp 19) (.tmp 22) 70 9 (.string ⟨#[]⟩) 16 rfl Tryd.underlying70 info9 rfl (by decide) (by omega) u5 x5_1 t168 [.string t168] (fun _=>True) (fun _=>False) rfl rfl ?aP (fun _ hk=>hk.elim) ?aF ?aO ?aB ?aS ?aL ?_;(case aP=>exact rfl);(case aB=>exact (by repeat (first|exact upB HB.out|refine below_set ?_ GE167.out)));(case aF=>exact (fun _ _=>trivial));(case aO=>exact (upK HO_5.out));(case aS=>exact (below_size (by repeat (first|exact upB HB.out|refine below_set ?_ GE167.out))));(case aL=>have:=LMc8.out;omega);intro v170 w12 ho hb hg hat;rw[←Ny169.out] at ho;have n0_:=Aside0.mk (blk_grown (g:=gb167) (o:=.cells #[.string ((rd_T58 l0 x15_1).f0),.string ((rd_T58 l0 x15_1).f1)] 58 (0,0)) (upX BK167.out) hg (Kd.R_ne HO_5.out BK167.out (by decide)));have n1_:=Aside0.mk (hb);have n2_:=Aside0.mk (ho);clear BK167;clear HB;clear HO_5;have BK167:=n0_;have HB:=n1_;have HO171:=n2_;clear n0_ n1_ n2_;clear ho hb hg hat))
        go_roundg k1
        case measure=>have:=HK1.out;omega
        case rel=>exact ⟨(y169),(wrap64 (x15_1+1)),(by first|rfl|(simp;done)|(simp[*];done)),H',⟨by have:=HK1.out;omega⟩,⟨by (with_reducible repeat (first|apply Kd.R_alloc|apply Kd.R_drewN|apply Kd.R_drew));exact HO171.out⟩,⟨by repeat (first|exact upB HB.out|refine below_set ?_ GE167.out|apply pw_below_drewN)⟩⟩
       ·
        rw[if_neg c8] at H
        exact absurd H (by simp)
      ·
       rw[if_neg c6] at H
       exact absurd H (by simp)
     ·
      rw[if_neg c5] at H
      exact absurd H (by simp)
    ·
     rw[if_neg c4] at H
     have c4b0:decide (x15_1<(l0.length:Int))=false:=decide_eq_false c4
     clear c4
     replace H:=Option.bind_eq_some_iff.mp H
     obtain⟨⟨t172,t173⟩,A130,H⟩:=H
     try dsimp only at H
     have A13:=Aside0.mk A130
     clear A130
     simp only[Option.some.injEq,Prod.mk.injEq] at H
     obtain⟨rfl,rfl⟩:=H
     obtain⟨Ao14,co14,eo14⟩:=Kd.R_slice HO_5.out
     subst eo14
     go_wp2_with (first|((with_reducible refine gate_callee (f:=39) rfl ?_);refine goesL_ (some 26) rfl rfl Tryd.func39 (by kernel_rfl) rfl #[.slice Ao14 x5_1.length co14] rfl (by (try simp only[ml_]);first|done|rfl|(simp only[List.length_drop,List.length_take];rfl)) ?_;(with_reducible refine (cells_Lay.calls k1 E _ _ x5_1 t172 t173 _ ?side1 ?side2 ?side3 A13.out).mono ?_);(case side1=>exact (Glob.below HG.out (upB HB.out)));(case side2=>exact upC (Kd.R_reads' HO_5.out).2.2);(case side3=>exact (Kd.R_reads' HO_5.out).2.1);rintro e w15 ⟨rfl,hb⟩;refine ⟨_,rfl,?_⟩;have n0_:=Aside0.mk (Kd.R_below (upK HO_5.out) hb);have n1_:=Aside0.mk (below_step (upB HB.out) hb);clear HO_5;clear HB;have HO_5:=n0_;have HB:=n1_;clear n0_ n1_;(try clear hb);(try clear hb2);(try clear hk);(try clear hi);(try simp only[errW_none,errW_some])))
     go_ret2
     exact ⟨by first|rfl|(simp[errW_none,errW_some] <;> rfl)|(simp[*,errW_none,errW_some] <;> rfl),upB HB.out⟩
 ·
  have H1:(some ((⟨#[]⟩:ByteArray),some q165))=some (r1,r2):=by rw[if_neg (show ¬ (some q165).isNone=true by simp)] at H;exact H
  clear H
  have H:=H1
  clear H1
  try simp only[errW_none,errW_some]
  simp only[Option.some.injEq,Prod.mk.injEq] at H
  obtain⟨rfl,rfl⟩:=H
  go_enter Tryd.func21,Tryd.ntmps21
  go_wp2_with (first|((with_reducible refine gate_callee (f:=13) rfl ?_);refine goesL_ (some 9) rfl rfl Tryd.func13 (by kernel_rfl) rfl #[.slice A0 l0.length c0,.bool true] rfl (by (try simp only[ml_]);first|done|rfl|(simp only[List.length_drop,List.length_take];rfl)) ?_;(with_reducible refine (leaf_Check.calls k E _ _ l0 true (some q165) _ ?side1 ?side2 ?side3 A2.out).mono ?_);(case side1=>exact (Glob.below HG.out (upB HB.out)));(case side2=>exact upC HR0.out);(case side3=>exact HC0.out);rintro e w16 ⟨rfl,hb⟩;refine ⟨_,rfl,?_⟩;have n0_:=Aside0.mk (below_step (upB HB.out) hb);clear HB;have HB:=n0_;clear n0_;(try clear hb);(try clear hb2);(try clear hk);(try clear hi);(try simp only[errW_none,errW_some])))
  go_ret2
  exact ⟨by first|rfl|(simp[errW_none,errW_some] <;> rfl)|(simp[*,errW_none,errW_some] <;> rfl),upB HB.out⟩

/-! ### cells_Read: function 42 -/
mutual
def cells_Read.j0:Nat→Int→ByteArray→Bool→Option (List ByteArray×Option Int)
 |0,_,_,_=>none
 |k+1,x0,x1,x21=>if x21=true then (some (([]:List ByteArray),some 2)) else (if 0≤x0 then (if (x0:Int).toNat≤17592186044416 then (cells_Read.l0 k x1 (([]:List ByteArray)) (wrap64 (2*x0)) x0 0) else (none)) else (none))
def cells_Read.l0:Nat→ByteArray→List ByteArray→Int→Int→Int→Option (List ByteArray×Option Int)
 |0,_,_,_,_,_=>none
 |k+1,x1,x6,x7,x27,x28=>if x28<x27 then (if 0≤(wrap64 (2*x28)) then (if (wrap64 (2*x28))<(x1.size:Int) then (if 0≤(wrap64 ((wrap64 (2*x28))+1)) then (if (wrap64 ((wrap64 (2*x28))+1))<(x1.size:Int) then (if (Go.bits .or .i64 (wrap64 ((wrap64 (bt x1 (wrap64 (2*x28))))*256)) (wrap64 (bt x1 (wrap64 ((wrap64 (2*x28))+1)))))<x7 then (some (([]:List ByteArray),some 2)) else (if (Go.bits .or .i64 (wrap64 ((wrap64 (bt x1 (wrap64 (2*x28))))*256)) (wrap64 (bt x1 (wrap64 ((wrap64 (2*x28))+1))))) > (x1.size:Int) then (some (([]:List ByteArray),some 2)) else (if 0≤x7 then (if x7≤(Go.bits .or .i64 (wrap64 ((wrap64 (bt x1 (wrap64 (2*x28))))*256)) (wrap64 (bt x1 (wrap64 ((wrap64 (2*x28))+1))))) then (if (Go.bits .or .i64 (wrap64 ((wrap64 (bt x1 (wrap64 (2*x28))))*256)) (wrap64 (bt x1 (wrap64 ((wrap64 (2*x28))+1)))))≤(x1.size:Int) then (if x6.length<8796093022208 then (cells_Read.l0 k x1 (x6++[x1.extract (x7:Int).toNat ((Go.bits .or .i64 (wrap64 ((wrap64 (bt x1 (wrap64 (2*x28))))*256)) (wrap64 (bt x1 (wrap64 ((wrap64 (2*x28))+1))))):Int).toNat]) (Go.bits .or .i64 (wrap64 ((wrap64 (bt x1 (wrap64 (2*x28))))*256)) (wrap64 (bt x1 (wrap64 ((wrap64 (2*x28))+1))))) x27 (wrap64 (x28+1))) else (none)) else (none)) else (none)) else (none)))) else (none)) else (none)) else (none)) else (none)) else (cells_Read.l1 k x1 x6 x7)
def cells_Read.l1:Nat→ByteArray→List ByteArray→Int→Option (List ByteArray×Option Int)
 |0,_,_,_=>none
 |k+1,x1,x6,x10=>if x10<(x1.size:Int) then (if 0≤x10 then (if (bt x1 x10)=0 then (cells_Read.l1 k x1 x6 (wrap64 (x10+1))) else (some (([]:List ByteArray),some 2))) else (none)) else (some (x6,none))
end
def cells_Read.f (k:Nat) (a0:Int) (a1:ByteArray):Option (List ByteArray×Option Int):=if a0<0 then (cells_Read.j0 k a0 a1 true) else (if a0 > 2036 then (cells_Read.j0 k a0 a1 true) else (cells_Read.j0 k a0 a1 ((a1.size:Int) != 4072)))
theorem cells_Read.mono_l : ∀ k,(∀ y0 y1 y2,LeO (cells_Read.j0 k y0 y1 y2) (cells_Read.j0 (k+1) y0 y1 y2))∧(∀ y0 y1 y2 y3 y4,LeO (cells_Read.l0 k y0 y1 y2 y3 y4) (cells_Read.l0 (k+1) y0 y1 y2 y3 y4))∧(∀ y0 y1 y2,LeO (cells_Read.l1 k y0 y1 y2) (cells_Read.l1 (k+1) y0 y1 y2))
 |0=>⟨fun _ _ _ r h=>by simp[cells_Read.j0] at h,fun _ _ _ _ _ r h=>by simp[cells_Read.l0] at h,fun _ _ _ r h=>by simp[cells_Read.l1] at h⟩
 |k+1=>by
  obtain⟨ih0,ih1,ih2⟩:=cells_Read.mono_l k
  refine ⟨?_,?_,?_⟩
  ·
   intro y0 y1 y2
   unfold cells_Read.j0
   repeat' first
   |(with_reducible exact ih0 _ _ _)
   |(with_reducible exact ih1 _ _ _ _ _)
   |(with_reducible exact ih2 _ _ _)
   |(with_reducible exact LeO.refl _)
   |(with_reducible exact LeO.none _)
   |(with_reducible refine LeO.ite ?_ ?_)
   |(with_reducible refine LeO.bind ?_ (fun _=>?_))
   |exact ih0 _ _ _
   |exact ih1 _ _ _ _ _
   |exact ih2 _ _ _
   |exact LeO.none _
   |refine LeO.ite ?_ ?_
   |refine LeO.bind ?_ (fun _=>?_)
  ·
   intro y0 y1 y2 y3 y4
   unfold cells_Read.l0
   repeat' first
   |(with_reducible exact ih0 _ _ _)
   |(with_reducible exact ih1 _ _ _ _ _)
   |(with_reducible exact ih2 _ _ _)
   |(with_reducible exact LeO.refl _)
   |(with_reducible exact LeO.none _)
   |(with_reducible refine LeO.ite ?_ ?_)
   |(with_reducible refine LeO.bind ?_ (fun _=>?_))
   |exact ih0 _ _ _
   |exact ih1 _ _ _ _ _
   |exact ih2 _ _ _
   |exact LeO.none _
   |refine LeO.ite ?_ ?_
   |refine LeO.bind ?_ (fun _=>?_)
  ·
   intro y0 y1 y2
   unfold cells_Read.l1
   repeat' first
   |(with_reducible exact ih0 _ _ _)
   |(with_reducible exact ih1 _ _ _ _ _)
   |(with_reducible exact ih2 _ _ _)
   |(with_reducible exact LeO.refl _)
   |(with_reducible exact LeO.none _)
   |(with_reducible refine LeO.ite ?_ ?_)
   |(with_reducible refine LeO.bind ?_ (fun _=>?_))
   |exact ih0 _ _ _
   |exact ih1 _ _ _ _ _
   |exact ih2 _ _ _
   |exact LeO.none _
   |refine LeO.ite ?_ ?_
   |refine LeO.bind ?_ (fun _=>?_)
theorem cells_Read.mono : ∀ a0 a1 k,LeO (cells_Read.f k a0 a1) (cells_Read.f (k+1) a0 a1):=by
 intro a0 a1 k
 obtain⟨ih0,ih1,ih2⟩:=cells_Read.mono_l k
 unfold cells_Read.f
 repeat' first
   |(with_reducible exact ih0 _ _ _)
   |(with_reducible exact ih1 _ _ _ _ _)
   |(with_reducible exact ih2 _ _ _)
   |(with_reducible exact LeO.refl _)
   |(with_reducible exact LeO.none _)
   |(with_reducible refine LeO.ite ?_ ?_)
   |(with_reducible refine LeO.bind ?_ (fun _=>?_))
   |exact ih0 _ _ _
   |exact ih1 _ _ _ _ _
   |exact ih2 _ _ _
   |exact LeO.none _
   |refine LeO.ite ?_ ?_
   |refine LeO.bind ?_ (fun _=>?_)
set_option maxHeartbeats 8000000 in
set_option maxRecDepth 100000 in
theorem cells_Read.calls (k:Nat) (E:Int→Addr) (a0:Int) (a1:ByteArray) (r1:List ByteArray) (r2:Option Int) (w:World) (hG:Glob E w) (h:cells_Read.f k a0 a1=some (r1,r2)) :
  Calls Tryd.prog 42 #[.int .i64 a0,.string a1] w fun e w'=>∃ v0_:Value,e=.returned (.tuple #[v0_,errW E r2])∧Kd.R Kd.string 9 w' w.heap.size (fun _=>True) v0_ r1∧Below w.heap.size w w':=by
 have HB:=Aside0.mk (Below.refl w.heap.size w)
 have HG:=Aside0.mk hG
 clear hG
 have H:(if a0<0 then (cells_Read.j0 k a0 a1 true) else (if a0 > 2036 then (cells_Read.j0 k a0 a1 true) else (cells_Read.j0 k a0 a1 ((a1.size:Int) != 4072))))=some (r1,r2):=h
 clear h
 have HC3:=Aside0.mk H
 clear H
 go_enter Tryd.func42,Tryd.ntmps42
 go_upto_region 1 with (fail)
 repeat (go_quiet (fail);go_upto_region 1 with (fail))
 go_cut [21] (fun v21 wc=>∃ (kq:Nat) (x21_2:Bool),v21=.bool x21_2∧Aside0 (cells_Read.j0 kq a0 a1 x21_2=some (r1,r2))∧Aside0 (kq≤k)∧Aside0 (Below w.heap.size w wc))
 case first=>
  have H:=HC3.out
  clear HC3
  by_cases c4:a0<0
  ·
   rw[if_pos c4] at H
   have c4b0:decide (a0<0)=true:=decide_eq_true c4
   clear c4
   (first|rw[c4b0]|(simp only[i64_w,i32_w];rw[c4b0])|skip)
   have H':=Aside0.mk H
   clear H
   go_wp2
   repeat (go_quiet (fail);try go_wp2)
   go_meet
   case rel=>exact ⟨_,(true),(by first|rfl|(simp;done)|(simp[*];done)),H',⟨by first|omega|exact Nat.le_refl _⟩,⟨upB HB.out⟩⟩
  ·
   rw[if_neg c4] at H
   have c4b0:decide (a0<0)=false:=decide_eq_false c4
   clear c4
   (first|rw[c4b0]|(simp only[i64_w,i32_w];rw[c4b0])|skip)
   by_cases c5:a0 > 2036
   ·
    rw[if_pos c5] at H
    have c5b0:decide (2036<a0)=true:=decide_eq_true c5
    clear c5
    have H':=Aside0.mk H
    clear H
    go_wp2
    repeat (go_quiet (fail);try go_wp2)
    go_meet
    case rel=>exact ⟨_,(true),(by first|rfl|(simp;done)|(simp[*];done)),H',⟨by first|omega|exact Nat.le_refl _⟩,⟨upB HB.out⟩⟩
   ·
    rw[if_neg c5] at H
    have c5b0:decide (2036<a0)=false:=decide_eq_false c5
    clear c5
    have H':=Aside0.mk H
    clear H
    go_wp2
    repeat (go_quiet (fail);try go_wp2)
    go_meet
    case rel=>exact ⟨_,(((a1.size:Int) != 4072)),(by first|rfl|(simp;done)|(simp[*];done)),H',⟨by first|omega|exact Nat.le_refl _⟩,⟨upB HB.out⟩⟩
 case rest=>
  clear HC3
  try clear p2
  try clear c4
  try clear c4b0
  try clear c5
  try clear c5b0
  obtain⟨kq,x21_2,rfl,HA,HJ2,HB⟩:=hcut
  cases kq with
  |zero=>exact absurd HA.out (by simp[cells_Read.j0])
  |succ kj2=>
   have H:=HA.out
   clear HA
   simp only[cells_Read.j0] at H
   by_cases c6:x21_2=true
   ·
    subst c6
    have H1:(some (([]:List ByteArray),some 2))=some (r1,r2):=by rw[if_pos rfl] at H;exact H
    clear H
    have H:=H1
    clear H1
    simp only[Option.some.injEq,Prod.mk.injEq] at H
    obtain⟨rfl,rfl⟩:=H
    have hx7:wc.cell? ⟨4,0,none⟩=some (errW E (some 2)):=Glob.c4 (Glob.below HG.out (upB HB.out))
    simp only[errW_some] at hx7
    go_wp2
    repeat (go_quiet (fail);try go_wp2)
    go_ret2
    exact ⟨_,by first|rfl|(simp[errW_none,errW_some] <;> rfl)|(simp[*,errW_none,errW_some] <;> rfl),by first|exact Kd.R_nil _ _ _ _ _|exact Kd.N_nil _ _ _ _ _|exact Kd.V_nil _ _ _ _ _|exact Kd.Q_nil _ _ _ _ _|exact Kd.S_nil _ _ _ _ _,upB HB.out⟩
   ·
    replace c6:=Bool.eq_false_iff.mpr c6
    subst c6
    have H1:(if 0≤a0 then (if (a0:Int).toNat≤17592186044416 then (cells_Read.l0 kj2 a1 (([]:List ByteArray)) (wrap64 (2*a0)) a0 0) else (none)) else (none))=some (r1,r2):=by rw[if_neg (show ¬ (false=true) by decide)] at H;exact H
    clear H
    have H:=H1
    clear H1
    by_cases c8:0≤a0
    ·
     rw[if_pos c8] at H
     have c8b0:=eq_true c8
     have c8b1:decide (0≤a0)=true:=decide_eq_true c8
     clear c8
     by_cases c9:(a0:Int).toNat≤17592186044416
     ·
      rw[if_pos c9] at H
      have c9b0:=eq_true c9
      have c9b1:decide ((a0:Int).toNat≤17592186044416)=true:=decide_eq_true c9
      clear c9
      obtain⟨y174,hy174⟩ : ∃ y_:List ByteArray,y_=(([]:List ByteArray)):=⟨_,rfl⟩
      replace H:(cells_Read.l0 kj2 a1 y174 (wrap64 (2*a0)) a0 0)=some (r1,r2):=by first|(rw[hy174];with_reducible exact H)|(have H2_:=(Option.bind_some _ _).symm.trans H;rw[hy174];with_reducible exact H2_)|(have H2_:=(Option.bind_some _ _).symm.trans H;with_reducible exact H2_)|with_reducible exact H|(rw[hy174];exact H)|exact H
      have Ny174:=Aside0.mk hy174
      clear hy174
      have H':=Aside0.mk H
      clear H
      go_wp2_with (first|((with_reducible refine gate_dst (N:=24) rfl ?_);(try (refine gate_guard (by rfl) ?_;dsimp only));refine R_make0 Kd.string _ 9 rfl (N:=24) rfl 70 _ _ rfl a0 rfl rfl Tryd.underlying70 (.string ⟨#[]⟩) 16 info9 rfl (by decide) (by omega) (⟨#[]⟩:ByteArray) (ok:=fun _=>True) (okp:=fun _=>True) rfl (fun _ hk=>hk) trivial (of_decide_eq_true (by assumption)) (Nat.le_trans (Nat.mul_le_mul_right _ (of_decide_eq_true (by assumption):a0.toNat≤17592186044416)) (by omega)) (Below.refl _ _) (Nat.le_refl _) ?_;intro v175 w10 ho11 hb hg_ hnew_;clear hg_ hnew_;(first|rw[←Ny174.out] at ho11|(simp only[Int.reduceToNat] at ho11;rw[←Ny174.out] at ho11));have n0_:=Aside0.mk (Kd.R_lower ho11 (below_size (upB HB.out)));have n1_:=Aside0.mk (below_step (upB HB.out) hb);clear HB;have HO176:=n0_;have HB:=n1_;clear n0_ n1_;clear hb ho11))
      repeat (go_quiet (first|((with_reducible refine gate_dst (N:=24) rfl ?_);(try (refine gate_guard (by rfl) ?_;dsimp only));refine R_make0 Kd.string _ 9 rfl (N:=24) rfl 70 _ _ rfl a0 rfl rfl Tryd.underlying70 (.string ⟨#[]⟩) 16 info9 rfl (by decide) (by omega) (⟨#[]⟩:ByteArray) (ok:=fun _=>True) (okp:=fun _=>True) rfl (fun _ hk=>hk) trivial (of_decide_eq_true (by assumption)) (Nat.le_trans (Nat.mul_le_mul_right _ (of_decide_eq_true (by assumption):a0.toNat≤17592186044416)) (by omega)) (Below.refl _ _) (Nat.le_refl _) ?_;intro v175 w10 ho11 hb hg_ hnew_;clear hg_ hnew_;(first|rw[←Ny174.out] at ho11|(simp only[Int.reduceToNat] at ho11;rw[←Ny174.out] at ho11));have n0_:=Aside0.mk (Kd.R_lower ho11 (below_size (upB HB.out)));have n1_:=Aside0.mk (below_step (upB HB.out) hb);clear HB;have HO176:=n0_;have HB:=n1_;clear n0_ n1_;clear hb ho11));try go_wp2_with (first|((with_reducible refine gate_dst (N:=24) rfl ?_);(try (refine gate_guard (by rfl) ?_;dsimp only));refine R_make0 Kd.string _ 9 rfl (N:=24) rfl 70 _ _ rfl a0 rfl rfl Tryd.underlying70 (.string ⟨#[]⟩) 16 info9 rfl (by decide) (by omega) (⟨#[]⟩:ByteArray) (ok:=fun _=>True) (okp:=fun _=>True) rfl (fun _ hk=>hk) trivial (of_decide_eq_true (by assumption)) (Nat.le_trans (Nat.mul_le_mul_right _ (of_decide_eq_true (by assumption):a0.toNat≤17592186044416)) (by omega)) (Below.refl _ _) (Nat.le_refl _) ?_;intro v175 w10 ho11 hb hg_ hnew_;clear hg_ hnew_;(first|rw[←Ny174.out] at ho11|(simp only[Int.reduceToNat] at ho11;rw[←Ny174.out] at ho11));have n0_:=Aside0.mk (Kd.R_lower ho11 (below_size (upB HB.out)));have n1_:=Aside0.mk (below_step (upB HB.out) hb);clear HB;have HO176:=n0_;have HB:=n1_;clear n0_ n1_;clear hb ho11)))
      go_loopg [6,7,28] kj2 (fun kq v6 v7 v28 w'=>∃ (x6_2:List ByteArray) (x7_2:Int) (x28_2:Int),v7=.int .i64 x7_2∧v28=.int .i64 x28_2∧Aside0 (cells_Read.l0 kq a1 x6_2 x7_2 a0 x28_2=some (r1,r2))∧Aside0 (kq≤kj2)∧Aside0 (Kd.R Kd.string 9 w' w.heap.size (fun _=>True) v6 x6_2)∧Aside0 (Below w.heap.size w w'))
      case atStart=>exact ⟨(y174),(wrap64 (2*a0)),(0),(by first|rfl|(simp;done)|(simp[*];done)),(by first|rfl|(simp;done)|(simp[*];done)),H',⟨Nat.le_refl _⟩,⟨by (with_reducible repeat (first|apply Kd.R_alloc|apply Kd.R_drewN|apply Kd.R_drew));exact HO176.out⟩,⟨upB HB.out⟩⟩
      case round=>
       clear H'
       try clear p2
       try clear c4
       try clear c4b0
       try clear c5
       try clear c5b0
       try clear c6
       try clear p6
       try clear hx7
       try clear c8
       try clear c8b0
       try clear c8b1
       try clear c9
       try clear c9b0
       try clear c9b1
       try clear p2
       obtain⟨x6_2,x7_2,x28_2,rfl,rfl,HA,HK2,HO_6,HB⟩:=hrel
       cases gk with
       |zero=>exact absurd HA.out (by simp[cells_Read.l0])
       |succ k2=>
        have H:=HA.out
        clear HA
        simp only[cells_Read.l0] at H
        by_cases c12:x28_2<a0
        ·
         rw[if_pos c12] at H
         have c12b0:decide (x28_2<a0)=true:=decide_eq_true c12
         clear c12
         obtain⟨ji13,hji13⟩ : ∃ j_:Int,(wrap64 (2*x28_2))=j_:=⟨_,rfl⟩
         replace H:(if 0≤(ji13) then (if (ji13)<(a1.size:Int) then (if 0≤(wrap64 ((ji13)+1)) then (if (wrap64 ((ji13)+1))<(a1.size:Int) then (if (Go.bits .or .i64 (wrap64 ((wrap64 (bt a1 (ji13)))*256)) (wrap64 (bt a1 (wrap64 ((ji13)+1)))))<x7_2 then (some (([]:List ByteArray),some 2)) else (if (Go.bits .or .i64 (wrap64 ((wrap64 (bt a1 (ji13)))*256)) (wrap64 (bt a1 (wrap64 ((ji13)+1))))) > (a1.size:Int) then (some (([]:List ByteArray),some 2)) else (if 0≤x7_2 then (if x7_2≤(Go.bits .or .i64 (wrap64 ((wrap64 (bt a1 (ji13)))*256)) (wrap64 (bt a1 (wrap64 ((ji13)+1))))) then (if (Go.bits .or .i64 (wrap64 ((wrap64 (bt a1 (ji13)))*256)) (wrap64 (bt a1 (wrap64 ((ji13)+1)))))≤(a1.size:Int) then (if x6_2.length<8796093022208 then (cells_Read.l0 k2 a1 (x6_2++[a1.extract (x7_2:Int).toNat ((Go.bits .or .i64 (wrap64 ((wrap64 (bt a1 (ji13)))*256)) (wrap64 (bt a1 (wrap64 ((ji13)+1))))):Int).toNat]) (Go.bits .or .i64 (wrap64 ((wrap64 (bt a1 (ji13)))*256)) (wrap64 (bt a1 (wrap64 ((ji13)+1))))) a0 (wrap64 (x28_2+1))) else (none)) else (none)) else (none)) else (none)))) else (none)) else (none)) else (none)) else (none))=some (r1,r2):=by first|(rw[hji13] at H;exact H)|(simp only[hji13] at H ⊢;exact H)
         have hji13w:(IntKind.i64.wrap (2*x28_2))=ji13:=(i64_w _).trans hji13
         by_cases c14:0≤(ji13)
         ·
          rw[if_pos c14] at H
          have c14b0:decide (0≤(ji13))=true:=decide_eq_true c14
          clear c14
          by_cases c15:(ji13)<(a1.size:Int)
          ·
           rw[if_pos c15] at H
           have c15b0:decide ((ji13)<(a1.size:Int))=true:=decide_eq_true c15
           clear c15
           obtain⟨ji17,hji17⟩ : ∃ j_:Int,(wrap64 ((ji13)+1))=j_:=⟨_,rfl⟩
           replace H:(if 0≤(ji17) then (if (ji17)<(a1.size:Int) then (if (Go.bits .or .i64 (wrap64 ((wrap64 (bt a1 (ji13)))*256)) (wrap64 (bt a1 (ji17))))<x7_2 then (some (([]:List ByteArray),some 2)) else (if (Go.bits .or .i64 (wrap64 ((wrap64 (bt a1 (ji13)))*256)) (wrap64 (bt a1 (ji17)))) > (a1.size:Int) then (some (([]:List ByteArray),some 2)) else (if 0≤x7_2 then (if x7_2≤(Go.bits .or .i64 (wrap64 ((wrap64 (bt a1 (ji13)))*256)) (wrap64 (bt a1 (ji17)))) then (if (Go.bits .or .i64 (wrap64 ((wrap64 (bt a1 (ji13)))*256)) (wrap64 (bt a1 (ji17))))≤(a1.size:Int) then (if x6_2.length<8796093022208 then (cells_Read.l0 k2 a1 (x6_2++[a1.extract (x7_2:Int).toNat ((Go.bits .or .i64 (wrap64 ((wrap64 (bt a1 (ji13)))*256)) (wrap64 (bt a1 (ji17)))):Int).toNat]) (Go.bits .or .i64 (wrap64 ((wrap64 (bt a1 (ji13)))*256)) (wrap64 (bt a1 (ji17)))) a0 (wrap64 (x28_2+1))) else (none)) else (none)) else (none)) else (none)))) else (none)) else (none))=some (r1,r2):=by first|(rw[hji17] at H;exact H)|(simp only[hji17] at H ⊢;exact H)
           have hji17w:(IntKind.i64.wrap ((ji13)+1))=ji17:=(i64_w _).trans hji17
           by_cases c18:0≤(ji17)
           ·
            rw[if_pos c18] at H
            have c18b0:decide (0≤(ji17))=true:=decide_eq_true c18
            clear c18
            by_cases c19:(ji17)<(a1.size:Int)
            ·
             rw[if_pos c19] at H
             have c19b0:decide ((ji17)<(a1.size:Int))=true:=decide_eq_true c19
             clear c19
             by_cases c21:(Go.bits .or .i64 (wrap64 ((wrap64 (bt a1 (ji13)))*256)) (wrap64 (bt a1 (ji17))))<x7_2
             ·
              rw[if_pos c21] at H
              have c21b0:decide ((Go.bits .or .i64 (wrap64 ((wrap64 (bt a1 (ji13)))*256)) (wrap64 (bt a1 (ji17))))<x7_2)=true:=decide_eq_true c21
              clear c21
              simp only[Option.some.injEq,Prod.mk.injEq] at H
              obtain⟨rfl,rfl⟩:=H
              have p16:0≤((ji13):Int):=of_decide_eq_true (by assumption)
              have q16:(ji13)<(a1.size:Int):=of_decide_eq_true (by assumption)
              have hx16:=bt_at a1 (ji13)
              replace p16:=eq_true p16
              replace q16:=eq_true q16
              have p20:0≤((ji17):Int):=of_decide_eq_true (by assumption)
              have q20:(ji17)<(a1.size:Int):=of_decide_eq_true (by assumption)
              have hx20:=bt_at a1 (ji17)
              replace p20:=eq_true p20
              replace q20:=eq_true q20
              have hx22:wr.cell? ⟨4,0,none⟩=some (errW E (some 2)):=Glob.c4 (Glob.below HG.out (upB HB.out))
              simp only[errW_some] at hx22
              go_wp2
              repeat (go_quiet (fail);try go_wp2)
              go_ret2
              exact ⟨_,by first|rfl|(simp[errW_none,errW_some] <;> rfl)|(simp only[←hji13,←hji17];first|rfl|(simp[errW_none,errW_some] <;> rfl))|(simp[*,errW_none,errW_some] <;> rfl),by first|exact Kd.R_nil _ _ _ _ _|exact Kd.N_nil _ _ _ _ _|exact Kd.V_nil _ _ _ _ _|exact Kd.Q_nil _ _ _ _ _|exact Kd.S_nil _ _ _ _ _,upB HB.out⟩
             ·
              rw[if_neg c21] at H
              have c21b0:decide ((Go.bits .or .i64 (wrap64 ((wrap64 (bt a1 (ji13)))*256)) (wrap64 (bt a1 (ji17))))<x7_2)=false:=decide_eq_false c21
              clear c21
              by_cases c23:(Go.bits .or .i64 (wrap64 ((wrap64 (bt a1 (ji13)))*256)) (wrap64 (bt a1 (ji17)))) > (a1.size:Int)
              ·
               rw[if_pos c23] at H
               have c23b0:decide ((a1.size:Int)<(Go.bits .or .i64 (wrap64 ((wrap64 (bt a1 (ji13)))*256)) (wrap64 (bt a1 (ji17)))))=true:=decide_eq_true c23
               clear c23
               simp only[Option.some.injEq,Prod.mk.injEq] at H
               obtain⟨rfl,rfl⟩:=H
               have p16:0≤((ji13):Int):=of_decide_eq_true (by assumption)
               have q16:(ji13)<(a1.size:Int):=of_decide_eq_true (by assumption)
               have hx16:=bt_at a1 (ji13)
               replace p16:=eq_true p16
               replace q16:=eq_true q16
               have p20:0≤((ji17):Int):=of_decide_eq_true (by assumption)
               have q20:(ji17)<(a1.size:Int):=of_decide_eq_true (by assumption)
               have hx20:=bt_at a1 (ji17)
               replace p20:=eq_true p20
               replace q20:=eq_true q20
               have hx24:wr.cell? ⟨4,0,none⟩=some (errW E (some 2)):=Glob.c4 (Glob.below HG.out (upB HB.out))
               simp only[errW_some] at hx24
               go_wp2
               repeat (go_quiet (fail);try go_wp2)
               go_ret2
               exact ⟨_,by first|rfl|(simp[errW_none,errW_some] <;> rfl)|(simp only[←hji13,←hji17];first|rfl|(simp[errW_none,errW_some] <;> rfl))|(simp[*,errW_none,errW_some] <;> rfl),by first|exact Kd.R_nil _ _ _ _ _|exact Kd.N_nil _ _ _ _ _|exact Kd.V_nil _ _ _ _ _|exact Kd.Q_nil _ _ _ _ _|exact Kd.S_nil _ _ _ _ _,upB HB.out⟩
              ·
               rw[if_neg c23] at H
               have c23b0:decide ((a1.size:Int)<(Go.bits .or .i64 (wrap64 ((wrap64 (bt a1 (ji13)))*256)) (wrap64 (bt a1 (ji17)))))=false:=decide_eq_false c23
               clear c23
               by_cases c25:0≤x7_2
               ·
                rw[if_pos c25] at H
                have c25b0:=eq_true c25
                have c25b1:decide (0≤x7_2)=true:=decide_eq_true c25
                clear c25
                by_cases c26:x7_2≤(Go.bits .or .i64 (wrap64 ((wrap64 (bt a1 (ji13)))*256)) (wrap64 (bt a1 (ji17))))
                ·
                 rw[if_pos c26] at H
                 have c26b0:=eq_true c26
                 have c26b1:decide (x7_2≤(Go.bits .or .i64 (wrap64 ((wrap64 (bt a1 (ji13)))*256)) (wrap64 (bt a1 (ji17)))))=true:=decide_eq_true c26
                 clear c26
                 by_cases c27:(Go.bits .or .i64 (wrap64 ((wrap64 (bt a1 (ji13)))*256)) (wrap64 (bt a1 (ji17))))≤(a1.size:Int)
                 ·
                  rw[if_pos c27] at H
                  have c27b0:=eq_true c27
                  have c27b1:decide ((Go.bits .or .i64 (wrap64 ((wrap64 (bt a1 (ji13)))*256)) (wrap64 (bt a1 (ji17))))≤(a1.size:Int))=true:=decide_eq_true c27
                  clear c27
                  by_cases c28:x6_2.length<8796093022208
                  ·
                   rw[if_pos c28] at H
                   have LMc28:=Aside0.mk c28
                   clear c28
                   obtain⟨y177,hy177⟩ : ∃ y_:List ByteArray,y_=(x6_2++[a1.extract (x7_2:Int).toNat ((Go.bits .or .i64 (wrap64 ((wrap64 (bt a1 (ji13)))*256)) (wrap64 (bt a1 (ji17)))):Int).toNat]):=⟨_,rfl⟩
                   replace H:(cells_Read.l0 k2 a1 y177 (Go.bits .or .i64 (wrap64 ((wrap64 (bt a1 (ji13)))*256)) (wrap64 (bt a1 (ji17)))) a0 (wrap64 (x28_2+1)))=some (r1,r2):=by first|(rw[hy177];with_reducible exact H)|(have H2_:=(Option.bind_some _ _).symm.trans H;rw[hy177];with_reducible exact H2_)|(have H2_:=(Option.bind_some _ _).symm.trans H;with_reducible exact H2_)|with_reducible exact H|(rw[hy177];exact H)|exact H
                   have Ny177:=Aside0.mk hy177
                   clear hy177
                   have H':=Aside0.mk H
                   clear H
                   have p16:0≤((ji13):Int):=of_decide_eq_true (by assumption)
                   have q16:(ji13)<(a1.size:Int):=of_decide_eq_true (by assumption)
                   have hx16:=bt_at a1 (ji13)
                   replace p16:=eq_true p16
                   replace q16:=eq_true q16
                   have p20:0≤((ji17):Int):=of_decide_eq_true (by assumption)
                   have q20:(ji17)<(a1.size:Int):=of_decide_eq_true (by assumption)
                   have hx20:=bt_at a1 (ji17)
                   replace p20:=eq_true p20
                   replace q20:=eq_true q20
                   go_wp2_with (first|((with_reducible refine gate_builtin (b:=.append) (xs:=#[.tmp 54,.tmp 59]) rfl ?_);(try (refine gate_guard (by rfl) ?_;dsimp only));at_builtin;refine Kd.R_append Kd.string (w0:=w) w.heap.size rfl (.tmp 54) (.tmp 59) 70 9 (.string ⟨#[]⟩) 16 rfl Tryd.underlying70 info9 rfl (by decide) (by omega) u6 x6_2 (a1.extract (x7_2:Int).toNat ((Go.bits .or .i64 (wrap64 ((wrap64 (bt a1 (ji13)))*256)) (wrap64 (bt a1 (ji17)))):Int).toNat) [.string (a1.extract (x7_2:Int).toNat ((Go.bits .or .i64 (wrap64 ((wrap64 (bt a1 (ji13)))*256)) (wrap64 (bt a1 (ji17)))):Int).toNat)] (fun _=>True) (fun _=>False) rfl rfl ?aP (fun _ hk=>hk.elim) ?aF ?aO ?aB ?aS ?aL ?_;(case aP=>exact rfl);(case aB=>exact (upB HB.out));(case aF=>exact (fun _ _=>trivial));(case aO=>exact (upK HO_6.out));(case aS=>exact (below_size (upB HB.out)));(case aL=>have:=LMc28.out;omega);intro v178 w29 ho hb hg hat;rw[←Ny177.out] at ho;have n0_:=Aside0.mk (hb);have n1_:=Aside0.mk (ho);clear HB;clear HO_6;have HB:=n0_;have HO179:=n1_;clear n0_ n1_;clear ho hb hg hat))
                   repeat (go_quiet (first|((with_reducible refine gate_builtin (b:=.append) (xs:=#[.tmp 54,.tmp 59]) rfl ?_);(try (refine gate_guard (by rfl) ?_;dsimp only));at_builtin;refine Kd.R_append Kd.string (w0:=w) w.heap.size rfl (.tmp 54) (.tmp 59) 70 9 (.string ⟨#[]⟩) 16 rfl Tryd.underlying70 info9 rfl (by decide) (by omega) u6 x6_2 (a1.extract (x7_2:Int).toNat ((Go.bits .or .i64 (wrap64 ((wrap64 (bt a1 (ji13)))*256)) (wrap64 (bt a1 (ji17)))):Int).toNat) [.string (a1.extract (x7_2:Int).toNat ((Go.bits .or .i64 (wrap64 ((wrap64 (bt a1 (ji13)))*256)) (wrap64 (bt a1 (ji17)))):Int).toNat)] (fun _=>True) (fun _=>False) rfl rfl ?aP (fun _ hk=>hk.elim) ?aF ?aO ?aB ?aS ?aL ?_;(case aP=>exact rfl);(case aB=>exact (upB HB.out));(case aF=>exact (fun _ _=>trivial));(case aO=>exact (upK HO_6.out));(case aS=>exact (below_size (upB HB.out)));(case aL=>have:=LMc28.out;omega);intro v178 w29 ho hb hg hat;rw[←Ny177.out] at ho;have n0_:=Aside0.mk (hb);have n1_:=Aside0.mk (ho);clear HB;clear HO_6;have HB:=n0_;have HO179:=n1_;clear n0_ n1_;clear ho hb hg hat));try go_wp2_with (first|((with_reducible refine gate_builtin (b:=.append) (xs:=#[.tmp 54,.tmp 59]) rfl ?_);(try (refine gate_guard (by rfl) ?_;dsimp only));at_builtin;refine Kd.R_append Kd.string (w0:=w) w.heap.size rfl (.tmp 54) (.tmp 59) 70 9 (.string ⟨#[]⟩) 16 rfl Tryd.underlying70 info9 rfl (by decide) (by omega) u6 x6_2 (a1.extract (x7_2:Int).toNat ((Go.bits .or .i64 (wrap64 ((wrap64 (bt a1 (ji13)))*256)) (wrap64 (bt a1 (ji17)))):Int).toNat) [.string (a1.extract (x7_2:Int).toNat ((Go.bits .or .i64 (wrap64 ((wrap64 (bt a1 (ji13)))*256)) (wrap64 (bt a1 (ji17)))):Int).toNat)] (fun _=>True) (fun _=>False) rfl rfl ?aP (fun _ hk=>hk.elim) ?aF ?aO ?aB ?aS ?aL ?_;(case aP=>exact rfl);(case aB=>exact (upB HB.out));(case aF=>exact (fun _ _=>trivial));(case aO=>exact (upK HO_6.out));(case aS=>exact (below_size (upB HB.out)));(case aL=>have:=LMc28.out;omega);intro v178 w29 ho hb hg hat;rw[←Ny177.out] at ho;have n0_:=Aside0.mk (hb);have n1_:=Aside0.mk (ho);clear HB;clear HO_6;have HB:=n0_;have HO179:=n1_;clear n0_ n1_;clear ho hb hg hat)))
                   go_roundg k2
                   case measure=>have:=HJ2.out;have:=HK2.out;omega
                   case rel=>exact ⟨(y177),(Go.bits .or .i64 (wrap64 ((wrap64 (bt a1 (ji13)))*256)) (wrap64 (bt a1 (ji17)))),(wrap64 (x28_2+1)),(by first|rfl|(simp;done)|(simp only[←hji13,←hji17] <;> (first|rfl|simp))|(simp[*];done)),(by first|rfl|(simp;done)|(simp[*];done)),H',⟨by have:=HJ2.out;have:=HK2.out;omega⟩,⟨by (with_reducible repeat (first|apply Kd.R_alloc|apply Kd.R_drewN|apply Kd.R_drew));exact HO179.out⟩,⟨upB HB.out⟩⟩
                  ·
                   rw[if_neg c28] at H
                   exact absurd H (by simp)
                 ·
                  rw[if_neg c27] at H
                  exact absurd H (by simp)
                ·
                 rw[if_neg c26] at H
                 exact absurd H (by simp)
               ·
                rw[if_neg c25] at H
                exact absurd H (by simp)
            ·
             rw[if_neg c19] at H
             exact absurd H (by simp)
           ·
            rw[if_neg c18] at H
            exact absurd H (by simp)
          ·
           rw[if_neg c15] at H
           exact absurd H (by simp)
         ·
          rw[if_neg c14] at H
          exact absurd H (by simp)
        ·
         rw[if_neg c12] at H
         have c12b0:decide (x28_2<a0)=false:=decide_eq_false c12
         clear c12
         have H':=Aside0.mk H
         clear H
         go_wp2
         repeat (go_quiet (fail);try go_wp2)
         go_loopg [10] k2 (fun kq v10 w'=>∃ (x10_3:Int),v10=.int .i64 x10_3∧Aside0 (cells_Read.l1 kq a1 x6_2 x10_3=some (r1,r2))∧Aside0 (kq≤k2)∧Aside0 (Kd.R Kd.string 9 w' w.heap.size (fun _=>True) u6 x6_2)∧Aside0 (Below w.heap.size w w'))
         case atStart=>exact ⟨(x7_2),(by first|rfl|(simp;done)|(simp[*];done)),H',⟨Nat.le_refl _⟩,⟨by (with_reducible repeat (first|apply Kd.R_alloc|apply Kd.R_drewN|apply Kd.R_drew));exact HO_6.out⟩,⟨upB HB.out⟩⟩
         case round=>
          clear H'
          try clear c1
          try clear p1
          try clear q1
          try clear hx1
          try clear c2
          try clear p2
          try clear q2
          try clear hx2
          try clear c4
          try clear c4b0
          try clear c5
          try clear c5b0
          try clear c6
          try clear p6
          try clear hx7
          try clear c8
          try clear c8b0
          try clear c8b1
          try clear c9
          try clear c9b0
          try clear c9b1
          try clear c12
          try clear c12b0
          try clear c14
          try clear c14b0
          try clear c15
          try clear c15b0
          try clear p16
          try clear q16
          try clear hx16
          try clear c18
          try clear c18b0
          try clear c19
          try clear c19b0
          try clear p20
          try clear q20
          try clear hx20
          try clear c21
          try clear c21b0
          try clear hx22
          try clear c23
          try clear c23b0
          try clear hx24
          try clear c25
          try clear c25b0
          try clear c25b1
          try clear c26
          try clear c26b0
          try clear c26b1
          try clear c27
          try clear c27b0
          try clear c27b1
          try clear c28
          try clear p16
          try clear p2
          try clear p20
          try clear p6
          try clear q16
          try clear q20
          obtain⟨x10_3,rfl,HA,HK3,HO_6,HB⟩:=hrel
          cases gk with
          |zero=>exact absurd HA.out (by simp[cells_Read.l1])
          |succ k3=>
           have H:=HA.out
           clear HA
           simp only[cells_Read.l1] at H
           by_cases c30:x10_3<(a1.size:Int)
           ·
            rw[if_pos c30] at H
            have c30b0:decide (x10_3<(a1.size:Int))=true:=decide_eq_true c30
            clear c30
            by_cases c31:0≤x10_3
            ·
             rw[if_pos c31] at H
             have c31b0:decide (0≤x10_3)=true:=decide_eq_true c31
             clear c31
             by_cases c33:(bt a1 x10_3)=0
             ·
              rw[if_pos c33] at H
              have c33b0:((bt a1 x10_3)==0)=true:=beq_iff_eq.mpr c33
              have c33b1:((bt a1 x10_3) != 0)=false:=bne_eq_false_iff_eq.mpr c33
              clear c33
              have H':=Aside0.mk H
              clear H
              have p32:0≤(x10_3:Int):=of_decide_eq_true (by assumption)
              have q32:x10_3<(a1.size:Int):=of_decide_eq_true (by assumption)
              have hx32:=bt_at a1 x10_3
              replace p32:=eq_true p32
              replace q32:=eq_true q32
              go_wp2
              repeat (go_quiet (fail);try go_wp2)
              go_roundg k3
              case measure=>have:=HJ2.out;have:=HK2.out;have:=HK3.out;omega
              case rel=>exact ⟨(wrap64 (x10_3+1)),(by first|rfl|(simp;done)|(simp[*];done)),H',⟨by have:=HJ2.out;have:=HK2.out;have:=HK3.out;omega⟩,⟨by (with_reducible repeat (first|apply Kd.R_alloc|apply Kd.R_drewN|apply Kd.R_drew));exact HO_6.out⟩,⟨upB HB.out⟩⟩
             ·
              rw[if_neg c33] at H
              have c33b0:((bt a1 x10_3)==0)=false:=beq_eq_false_iff_ne.mpr c33
              have c33b1:((bt a1 x10_3) != 0)=true:=bne_iff_ne.mpr c33
              simp only[Option.some.injEq,Prod.mk.injEq] at H
              obtain⟨rfl,rfl⟩:=H
              have p32:0≤(x10_3:Int):=of_decide_eq_true (by assumption)
              have q32:x10_3<(a1.size:Int):=of_decide_eq_true (by assumption)
              have hx32:=bt_at a1 x10_3
              replace p32:=eq_true p32
              replace q32:=eq_true q32
              have hx34:wr.cell? ⟨4,0,none⟩=some (errW E (some 2)):=Glob.c4 (Glob.below HG.out (upB HB.out))
              simp only[errW_some] at hx34
              go_wp2
              repeat (go_quiet (fail);try go_wp2)
              go_ret2
              exact ⟨_,by first|rfl|(simp[errW_none,errW_some] <;> rfl)|(simp[*,errW_none,errW_some] <;> rfl),by first|exact Kd.R_nil _ _ _ _ _|exact Kd.N_nil _ _ _ _ _|exact Kd.V_nil _ _ _ _ _|exact Kd.Q_nil _ _ _ _ _|exact Kd.S_nil _ _ _ _ _,upB HB.out⟩
            ·
             rw[if_neg c31] at H
             exact absurd H (by simp)
           ·
            rw[if_neg c30] at H
            have c30b0:decide (x10_3<(a1.size:Int))=false:=decide_eq_false c30
            clear c30
            simp only[Option.some.injEq,Prod.mk.injEq] at H
            obtain⟨rfl,rfl⟩:=H
            go_wp2
            repeat (go_quiet (fail);try go_wp2)
            go_ret2
            exact ⟨_,by first|rfl|(simp[errW_none,errW_some] <;> rfl)|(simp[*,errW_none,errW_some] <;> rfl),by (with_reducible repeat (first|apply Kd.R_alloc|apply Kd.R_drewN|apply Kd.R_drew));exact HO_6.out,upB HB.out⟩
     ·
      rw[if_neg c9] at H
      exact absurd H (by simp)
    ·
     rw[if_neg c8] at H
     exact absurd H (by simp)

end Go.Proofs.YtdailhlghlledaaDoor.XLeafNew
