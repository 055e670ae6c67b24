-- Printed for this claim by a program (wip/printx) that builds on the kit's print. Not trusted: Lean checks it.
-- slim
import Derived.Test.YtdailhlghlledaaDoorProg
import Derived.Below
import Derived.Deep.Draws
import Derived.Deep.AppendLies
import Derived.Maps.AppendAt
import Derived.OwnWalk
import Derived.Laws.BytesArg
import Derived.Laws.MakeOwn
import Derived.Laws.OwnMore
import Derived.Deep.OwnRows
import Derived.Tactics
import Derived.Lib.ConvBytes
import Derived.Laws.Slices
import Derived.WalkKit
import Derived.KernelRfl
import Derived.RowKit3
import Derived.Deep.LoopGhost
import Derived.Deep.QuietTactic
import Derived.BigQuiet
import Derived.WideLaws
import Derived.Deep.DeepCutAuto
import Derived.Deep.CutBlock
import Derived.Deep.RegionHeld3
import Derived.Laws.Rows
import Derived.Lib.AppendStr
import Derived.ArgAppend
import Derived.Laws.IdiomCopy
import Derived.OrdersHeld
import Derived.Laws.BitsLemmas
import Derived.RowKit
import Derived.LaidEql
import Derived.Laws.CopyOwn
import Derived.Laws.Cover1
import Derived.Lib.BufferWrite
import Derived.Test.YtdailhlghlledaaDoorKWWords
import Derived.Test.YtdailhlghlledaaDoorKWLast
import Derived.Test.YtdailhlghlledaaDoorKWTab
import Derived.Test.YtdailhlghlledaaDoorKWFour
import Derived.Test.YtdailhlghlledaaDoorKWQPut
import Derived.Test.YtdailhlghlledaaDoorKWApart
import Derived.Test.YtdailhlghlledaaDoorKWArr
import Derived.Test.YtdailhlghlledaaDoorKWZeros
import Derived.Test.YtdailhlghlledaaDoorKWFoot
import Derived.Test.YtdailhlghlledaaDoorKWKept
import Derived.Test.YtdailhlghlledaaDoorKWShare
import Derived.Test.YtdailhlghlledaaDoorKWN
import Derived.Test.YtdailhlghlledaaDoorKWFootNe
import Derived.Test.YtdailhlghlledaaDoorKWAt
import Derived.Test.YtdailhlghlledaaDoorKWEqStruct
import Derived.Test.YtdailhlghlledaaDoorKWRepsOne
import Derived.Test.YtdailhlghlledaaDoorKWInv
import Derived.Test.YtdailhlghlledaaDoorKWInvWords
import Derived.Test.YtdailhlghlledaaDoorKWGuard
import Derived.Test.YtdailhlghlledaaDoorKWNEv
import Derived.Test.YtdailhlghlledaaDoorKWMore
namespace Go.Proofs.YtdailhlghlledaaDoor.XLeafNew
open Go.RowKit Go.Proofs.YtdailhlghlledaaDoorW.PrintWords Go.Proofs.YtdailhlghlledaaDoorW.PrintLast Go.Proofs.YtdailhlghlledaaDoorW.PrintMore
attribute [local go_sem] max2_int min2_int max_two min_two max_three min_three max_four min_four   -- for this text's walks alone
set_option linter.unusedVariables false
set_option linter.unusedSimpArgs false



/-- A refusal's value, by the address of what its variable holds. -/
def errW (E:Int→Addr):Option Int→Value
 |none=>.nilIface
 |some c=>.iface 100 (.pointer (some (E c)))
theorem errW_none (E:Int→Addr):errW E none=.nilIface:=rfl
theorem errW_some (E:Int→Addr) (c:Int):errW E (some c)=.iface 100 (.pointer (some (E c))):=rfl
/-- The numbers of the refusals that are known here (any other counts as the first). -/
def en (q:Int):Int:=if q=2 then 2 else if q=3 then 3 else if q=4 then 4 else if q=5 then 5 else if q=6 then 6 else if q=7 then 7 else if q=8 then 8 else if q=9 then 9 else if q=10 then 10 else if q=11 then 11 else if q=12 then 12 else if q=13 then 13 else 1
/-- Where the package-level variables lie, and what they hold. -/
structure Glob (E:Int→Addr) (w:World):Prop where
 c0:w.cell? ⟨0,0,none⟩=some (errW E (some 1))
 c1:w.cell? ⟨1,0,none⟩=some (errW E (some 12))
 c2:w.cell? ⟨2,0,none⟩=some (errW E (some 3))
 c3:w.cell? ⟨3,0,none⟩=some (errW E (some 4))
 c4:w.cell? ⟨4,0,none⟩=some (errW E (some 2))
 c5:w.cell? ⟨5,0,none⟩=some (errW E (some 5))
 c6:w.cell? ⟨6,0,none⟩=some (errW E (some 6))
 c7:w.cell? ⟨7,0,none⟩=some (errW E (some 7))
 c8:w.cell? ⟨8,0,none⟩=some (errW E (some 8))
 c9:w.cell? ⟨9,0,none⟩=some (errW E (some 9))
 c10:w.cell? ⟨10,0,none⟩=some (errW E (some 10))
 c11:w.cell? ⟨11,0,none⟩=some (errW E (some 11))
 c12:w.cell? ⟨12,0,none⟩=some (errW E (some 13))
 at_ : ∀ q,E q=E (en q)
 inj : ∀ q r,E q=E r→en q=en r
 blk : ∀ q,∃ ca ta,w.heap[(E q).block]?=some (.cells ca ta (0,0))
theorem Glob.below {E:Int→Addr} {w0 w:World} (h:Glob E w0) (hb:Below w0.heap.size w0 w):Glob E w where
 c0:=pw_cell_below hb h.c0
 c1:=pw_cell_below hb h.c1
 c2:=pw_cell_below hb h.c2
 c3:=pw_cell_below hb h.c3
 c4:=pw_cell_below hb h.c4
 c5:=pw_cell_below hb h.c5
 c6:=pw_cell_below hb h.c6
 c7:=pw_cell_below hb h.c7
 c8:=pw_cell_below hb h.c8
 c9:=pw_cell_below hb h.c9
 c10:=pw_cell_below hb h.c10
 c11:=pw_cell_below hb h.c11
 c12:=pw_cell_below hb h.c12
 at_:=h.at_
 inj:=h.inj
 blk:=fun q=>by obtain⟨ca,ta,hh⟩:=h.blk q;exact ⟨ca,ta,(hb.block _ (Array.getElem?_eq_some_iff.1 hh).1).trans hh⟩
theorem Glob.drewN {E:Int→Addr} {w:World} (h:Glob E w) (n:Nat):Glob E (w.drewN n):=h.below (pw_below_drewN (Below.refl _ _) n)
theorem Glob.drew {E:Int→Addr} {w:World} (h:Glob E w):Glob E w.drew:=h.below (below_drew (Below.refl _ _))
theorem Glob.alloc {E:Int→Addr} {w:World} (h:Glob E w) (o:Obj):Glob E (w.alloc o):=h.below (below_alloc (Below.refl _ _) o)
theorem cmpPT:(Tryd.prog.info? 100).map (·.comparable)=some true:=by kernel_rfl
theorem sizES:(Tryd.prog.info? 118).map (·.size)=some 1:=by kernel_rfl
theorem Glob.eql {E:Int→Addr} {w:World} (h:Glob E w) (p q:Int):(binOp .eql 28 (errW E (some p)) (errW E (some q))).run Tryd.prog w=.ok (.bool (en p==en q)) w:=by
 obtain⟨i,hi,hc⟩:=Option.map_eq_some_iff.1 cmpPT
 obtain⟨j,hj,hs⟩:=Option.map_eq_some_iff.1 sizES
 simp only[errW_some]
 by_cases e:en p=en q
 ·
  rw[show E p=E q by rw[h.at_ p,h.at_ q,e],e,beq_self_eq_true]
  exact run_eql_iface_ptr_same w _ Tryd.underlying28 Tryd.underlying100 hi hc hj
 ·
  obtain⟨ca,ta,h1⟩:=h.blk p
  obtain⟨cb,tb,h2⟩:=h.blk q
  rw[beq_eq_false_iff_ne.2 e]
  exact run_eql_iface_ptr_other w Tryd.underlying28 Tryd.underlying100 hi hc hj (by omega) (fun e'=>e (h.inj _ _ e')) h1 h2
theorem Glob.eql_drewN {E:Int→Addr} {w:World} (h:Glob E w) (n:Nat) (p q:Int):(binOp .eql 28 (errW E (some p)) (errW E (some q))).run Tryd.prog (w.drewN n)=.ok (.bool (en p==en q)) (w.drewN n):=(h.drewN n).eql p q
theorem R_make0 {P:Program} {ops:Array Oper} {rest:List Oper} {o:Oper} {a:Act} {Q:Exit→Act→World→Prop} {α:Type} (d:Kd α) {w0 W:World} (base e:Nat) (hgd:o.guard=none) {N:Tmp} (hd:o.dst=some N) (t:TypeId) (x y:Operand) (ho:o.op=.makeSlice t x y) (n:Int) (hx:a.eval x=.int .i64 0) (hy:a.eval y=.int .i64 n)
  (ht:P.underlying t=some (.slice e)) (z:Value) (bytes:Nat) (hinfo:(P.info? e).map (fun i=>(i.zero,i.size,i.bytes))=some (some z,d.sz,bytes)) (hz:z.cells.size=d.sz) (hs0:0<d.sz) (hb0:0<bytes)
  (z0:α) {ok okp:Nat→Prop} (hzero:d.M W base okp z0 z.cells.toList) (hok : ∀ k,okp k→ok k) (hfresh:ok W.heap.size) (h0:0≤n) (hl:n.toNat*bytes≤281474976710656) (HB:Below base w0 W) (hbase:base≤W.heap.size)
  (h : ∀ v1 w1,d.R e w1 base ok v1 ([]:List α)→Below base w0 w1→W.grownBy w1 none→(∃ b,v1.ownBlock=some b∧W.heap.size≤b)→wpList P ops Q rest (a.put o.dst v1) w1):wpList P ops Q (o::rest) a W:=by
 obtain⟨m,rfl⟩:=Int.eq_ofNat_of_zero_le h0
 simp only[Int.toNat_natCast] at hl
 obtain⟨i0,hi,hzz⟩:=Option.map_eq_some_iff.1 hinfo
 simp only[Prod.mk.injEq] at hzz
 obtain⟨hz0,hz1,hz2⟩:=hzz
 have hm:m≤281474976710656:=Nat.le_trans (Nat.le_mul_of_pos_right _ hb0) hl
 have hr:=run_make (P:=P) W t e i0 z ht hi hz0 .i64 .i64 0 (m:Int) (by omega) (by omega)
  (by
   have h3:((i0.bytes*m:Nat):Int)≤281474976710656:=by rw[hz2,Nat.mul_comm];omega
   rwa [Int.natCast_mul] at h3) (by omega)
 simp only[Int.toNat_natCast,Int.toNat_zero] at hr
 rw[hz1] at hr
 have hrun:(execOp a.eval o).run P W=.ok (.value (.slice (some ⟨W.heap.size,0,none⟩) 0 m)) (W.alloc (.cells (madeCells z.cells (m*d.sz)) e)):=by
  simp[execOp,ho,hx,hy,hr]
 refine Kd.event_run hgd hrun (h _ _ ⟨fun k hk=>?_,[],⟨by simp,.inr ⟨W.heap.size,m,_,rfl,hbase,heap_alloc_new W _,Nat.zero_le _,by simp only[maxLen];omega,size_madeCells _ _,by simp⟩⟩,Reps.none _ _⟩ (HB.alloc hbase _) (World.grownBy_alloc W _ none) ⟨W.heap.size,by simp[Value.ownBlock],Nat.le_refl _⟩)
 have:W.heap.size=k:=by simpa [Value.ownBlock] using hk
 subst this
 exact hfresh


theorem info3:(Tryd.prog.info? 3).map (fun i=>(i.zero,i.size,i.bytes))=some (some (.int .i64 0),1,8):=by kernel_rfl
theorem info5:(Tryd.prog.info? 5).map (fun i=>(i.zero,i.size,i.bytes))=some (some (.int .u8 0),1,1):=by kernel_rfl
theorem info9:(Tryd.prog.info? 9).map (fun i=>(i.zero,i.size,i.bytes))=some (some (.string ⟨#[]⟩),1,16):=by kernel_rfl
theorem info58:(Tryd.prog.info? 58).map (fun i=>(i.zero,i.size,i.bytes))=some (some (.agg #[(.string ⟨#[]⟩),(.string ⟨#[]⟩)]),2,32):=by kernel_rfl
-- the values' own types
/-! #### struct type 58 -/
structure S58 where
 f0:ByteArray
 f1:ByteArray
def z58:S58:=⟨(⟨#[]⟩:ByteArray),(⟨#[]⟩:ByteArray)⟩
def k58:Kd S58:=Kd.iso (Kd.pair Kd.string Kd.string) (fun x:S58=>(x.f0,x.f1))
theorem k58_open {w:World} {x:S58} {cs:List Value} (h:k58.K w x cs):cs=[.string x.f0,.string x.f1]:=by
 obtain⟨_,_,rfl,rfl,rfl⟩:=h
 exact rfl
theorem k58_openM {w:World} {base:Nat} {ok:Nat→Prop} {x:S58} {cs:List Value} (h:k58.M w base ok x cs):cs=[.string x.f0,.string x.f1]:=by
 obtain⟨_,_,rfl,rfl,rfl⟩:=h
 exact rfl
theorem k58_mk (w:World) (x:S58)  : k58.K w x [.string x.f0,.string x.f1]:=⟨[.string x.f0],[.string x.f1],rfl,rfl,rfl⟩
theorem k58_mkM (w:World) (base:Nat) (ok:Nat→Prop) (x:S58)  : k58.M w base ok x [.string x.f0,.string x.f1]:=⟨[.string x.f0],[.string x.f1],rfl,rfl,rfl⟩
def rd_T58 (xs:List S58) (i:Int):S58:=xs.getD i.toNat z58
theorem at_T58 {w:World} {A:Option Addr} {n:Nat} {xs:List S58} (h:Kd.C k58 w A n xs) (i:Int) (h0:0≤i) (h1:i<n) : ∃ ad,A=some ad∧w.cell? (ad.add (i.toNat*2))=some (.string (rd_T58 xs i).f0)∧w.cell? ⟨(ad.add (i.toNat*2)).block,(ad.add (i.toNat*2)).off+1,none⟩=some (.string (rd_T58 xs i).f1):=by
 obtain⟨ad,c,e,_,hK,hc0⟩:=Kd.C_get h z58 i h0 h1
 have hc : ∀ j u,c[j]?=some u→w.cell? (ad.add (i.toNat*2+j))=some u:=hc0
 obtain rfl:=k58_open hK
 exact ⟨ad,e,hc 0 _ rfl,by rw[←add_field _ _ 1 (by omega)];exact hc 1 _ rfl⟩

def rd_L4 (xs:List (List Int)) (i:Int):(List Int):=xs.getD i.toNat ([]:List Int)
theorem at_L4 {w:World} {A:Option Addr} {n:Nat} {xs:List (List Int)} (h:Kd.C (Kd.slice 3 (Kd.int .i64)) w A n xs) (i:Int) (h0:0≤i) (h1:i<n) : ∃ ad A0 c0,A=some ad∧w.cell? (ad.add i.toNat)=some (.slice A0 (rd_L4 xs i).length c0)∧(rd_L4 xs i).length≤c0∧(Kd.int .i64).C w A0 (rd_L4 xs i).length (rd_L4 xs i):=by
 obtain⟨ad,c,e,_,hK,hc0⟩:=Kd.C_get h ([]:List Int) i h0 h1
 have hc : ∀ j u,c[j]?=some u→w.cell? (ad.add (i.toNat*1+j))=some u:=hc0
 obtain⟨A0,c0,rfl,l0,g0⟩:=hK
 exact ⟨ad,A0,c0,e,by have hq:=hc 0 _ rfl;rwa [Nat.mul_one,Nat.add_zero] at hq,l0,g0⟩

def rd_L6 (xs:List (List Int)) (i:Int):(List Int):=xs.getD i.toNat ([]:List Int)
theorem at_L6 {w:World} {A:Option Addr} {n:Nat} {xs:List (List Int)} (h:Kd.C (Kd.slice 5 (Kd.int .u8)) w A n xs) (i:Int) (h0:0≤i) (h1:i<n) : ∃ ad A0 c0,A=some ad∧w.cell? (ad.add i.toNat)=some (.slice A0 (rd_L6 xs i).length c0)∧(rd_L6 xs i).length≤c0∧(Kd.int .u8).C w A0 (rd_L6 xs i).length (rd_L6 xs i):=by
 obtain⟨ad,c,e,_,hK,hc0⟩:=Kd.C_get h ([]:List Int) i h0 h1
 have hc : ∀ j u,c[j]?=some u→w.cell? (ad.add (i.toNat*1+j))=some u:=hc0
 obtain⟨A0,c0,rfl,l0,g0⟩:=hK
 exact ⟨ad,A0,c0,e,by have hq:=hc 0 _ rfl;rwa [Nat.mul_one,Nat.add_zero] at hq,l0,g0⟩

def rd_L7 (xs:List (List ByteArray)) (i:Int):(List ByteArray):=xs.getD i.toNat ([]:List ByteArray)
theorem at_L7 {w:World} {A:Option Addr} {n:Nat} {xs:List (List ByteArray)} (h:Kd.C (Kd.slice 9 Kd.string) w A n xs) (i:Int) (h0:0≤i) (h1:i<n) : ∃ ad A0 c0,A=some ad∧w.cell? (ad.add i.toNat)=some (.slice A0 (rd_L7 xs i).length c0)∧(rd_L7 xs i).length≤c0∧Kd.string.C w A0 (rd_L7 xs i).length (rd_L7 xs i):=by
 obtain⟨ad,c,e,_,hK,hc0⟩:=Kd.C_get h ([]:List ByteArray) i h0 h1
 have hc : ∀ j u,c[j]?=some u→w.cell? (ad.add (i.toNat*1+j))=some u:=hc0
 obtain⟨A0,c0,rfl,l0,g0⟩:=hK
 exact ⟨ad,A0,c0,e,by have hq:=hc 0 _ rfl;rwa [Nat.mul_one,Nat.add_zero] at hq,l0,g0⟩

def rd_L8 (xs:List (List S58)) (i:Int):(List S58):=xs.getD i.toNat ([]:List S58)
theorem at_L8 {w:World} {A:Option Addr} {n:Nat} {xs:List (List S58)} (h:Kd.C (Kd.slice 58 k58) w A n xs) (i:Int) (h0:0≤i) (h1:i<n) : ∃ ad A0 c0,A=some ad∧w.cell? (ad.add i.toNat)=some (.slice A0 (rd_L8 xs i).length c0)∧(rd_L8 xs i).length≤c0∧k58.C w A0 (rd_L8 xs i).length (rd_L8 xs i):=by
 obtain⟨ad,c,e,_,hK,hc0⟩:=Kd.C_get h ([]:List S58) i h0 h1
 have hc : ∀ j u,c[j]?=some u→w.cell? (ad.add (i.toNat*1+j))=some u:=hc0
 obtain⟨A0,c0,rfl,l0,g0⟩:=hK
 exact ⟨ad,A0,c0,e,by have hq:=hc 0 _ rfl;rwa [Nat.mul_one,Nat.add_zero] at hq,l0,g0⟩

class Up (w w':World):Prop where
 h:Below w.heap.size w w'
instance upR (w:World):Up w w:=⟨Below.refl _ _⟩
instance upA (w w':World) (o:Obj) [u:Up w w']:Up w (w'.alloc o):=⟨below_alloc u.h o⟩
instance upD (w w':World) [u:Up w w']:Up w w'.drew:=⟨below_drew u.h⟩
instance upN (w w':World) (n:Nat) [u:Up w w']:Up w (w'.drewN n):=⟨pw_below_drewN u.h n⟩
theorem upB {w0 w w':World} (h:Below w0.heap.size w0 w) [u:Up w w']:Below w0.heap.size w0 w':=below_step h u.h
theorem upK {α:Type} {d:Kd α} {e:Nat} {w w':World} {base:Nat} {ok:Nat→Prop} {v:Value} {xs:List α} (h:Kd.R d e w base ok v xs) [u:Up w w']:Kd.R d e w' base ok v xs:=Kd.R_below h u.h
theorem upC {α:Type} {d:Kd α} {w w':World} {A:Option Addr} {n:Nat} {xs:List α} (h:Kd.C d w A n xs) [u:Up w w']:Kd.C d w' A n xs:=Kd.C_below h u.h
theorem upG {E:Int→Addr} {w w':World} (h:Glob E w) [u:Up w w']:Glob E w':=h.below u.h
theorem pt_:(∀ (a:Act) (n:Tmp) (v:Value),a.put (some n) v = { a with tmps:=a.tmps.setIfInBounds n v })∧(∀ (a:Act) (v:Value),a.put none v=a)∧(∀ (l:List Value) (i:Nat) (v:Value),l.toArray.setIfInBounds i v=(l.set i v).toArray)∧(∀ (a:Value) (l:List Value) (v:Value),(a::l).set 0 v=v::l)∧(∀ (a:Value) (l:List Value) (i:Nat) (v:Value),(a::l).set (i+1) v=a::l.set i v)∧(∀ n:Int,IntKind.i64.wrap n=wrap64 n)∧(∀ n:Int,IntKind.i32.wrap n=wrap32 n):=⟨fun _ _ _=>rfl,fun _ _=>rfl,fun _ _ _=>List.setIfInBounds_toArray ..,fun _ _ _=>rfl,fun _ _ _ _=>rfl,i64_w,i32_w⟩
theorem ml_ {α β:Type} {f:α→β} : (∀ l:List α,l.toArray.map f=(l.map f).toArray)∧(∀ (a:α) (l:List α),(a::l).map f=f a::l.map f)∧([]:List α).map f=[]:=⟨fun _=>List.map_toArray ..,fun _ _=>rfl,rfl⟩
theorem upX {w w':World} {g:Nat} {o:Obj} (h:w.heap[g]?=some o) [u:Up w w']:w'.heap[g]?=some o:=(u.h.block g (Array.getElem?_eq_some_iff.1 h).1).trans h
end Go.Proofs.YtdailhlghlledaaDoor.XLeafNew
