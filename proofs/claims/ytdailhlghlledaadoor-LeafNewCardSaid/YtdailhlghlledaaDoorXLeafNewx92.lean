-- Printed for this claim by a program (wip/printx/news.py) that builds on the kit's print. Not trusted: Lean checks it.
-- slim
import Derived.Test.YtdailhlghlledaaDoorXLeafNewx0
import Derived.Test.YtdailhlghlledaaDoorXLeafNewx1
import Derived.Test.YtdailhlghlledaaDoorXLeafNewx2
import Derived.Test.YtdailhlghlledaaDoorXLeafNewx3
import Derived.Test.YtdailhlghlledaaDoorXLeafNewx4
import Derived.Test.YtdailhlghlledaaDoorXLeafNewx5
import Derived.Test.YtdailhlghlledaaDoorXLeafNewx6
import Derived.Test.YtdailhlghlledaaDoorXLeafNewx7
import Derived.Test.YtdailhlghlledaaDoorXLeafNewx8
import Derived.Test.YtdailhlghlledaaDoorXLeafNewx9
import Derived.Test.YtdailhlghlledaaDoorXLeafNewx10
import Derived.Test.YtdailhlghlledaaDoorXLeafNewx11
import Derived.Test.YtdailhlghlledaaDoorXLeafNewx12
import Derived.Test.YtdailhlghlledaaDoorXLeafNewx13
import Derived.Test.YtdailhlghlledaaDoorXLeafNewx15
namespace Go.Proofs.YtdailhlghlledaaDoor.XLeafNew
open Go.RowKit Go.Proofs.YtdailhlghlledaaDoorW.PrintWords Go.Proofs.YtdailhlghlledaaDoorW.PrintLast Go.Proofs.YtdailhlghlledaaDoorW.PrintMore
attribute [local go_sem] max2_int min2_int max_two min_two max_three min_three max_four min_four   -- for this text's walks alone
set_option linter.unusedVariables false
set_option linter.unusedSimpArgs false

/-! rows of pairs: an outer row of N slices; what each shows (y), and the row of the call's own (L, Z) in whose memory it lies, or lay -/
def Vs (A:Nat→Option Addr) (n c:Nat→Nat) (i:Nat):Value:=.slice (A i) (n i) (c i)
structure RowsP (w0 W:World) (ga:Addr) (N:Nat) (A:Nat→Option Addr) (n c:Nat→Nat) (L:Nat→Value) (Z:Nat→List S58) (y:Nat→Nat→S58):Prop where
 cell : ∀ i,i<N→W.cell? (ga.add i)=some (Vs A n c i)
 own : ∀ i,i<N→Kd.R k58 58 W w0.heap.size (fun _=>True) (L i) (Z i)
 view : ∀ i,i<N→∀ k,k<n i→∃ g,A i=some ⟨g,0,none⟩∧W.cell? ⟨g,k*2,none⟩=some (.string (y i k).f0)∧W.cell? ⟨g,k*2+1,none⟩=some (.string (y i k).f1)
 low : ∀ i,i<N→∀ b,(Vs A n c i).ownBlock=some b→b<W.heap.size∧b≠ga.block
 far : ∀ i,i<N→(L i).ownBlock≠some ga.block
 apart : ∀ i j,i<N→j<N→i≠j→∀ b,(L i).ownBlock=some b→(L j).ownBlock≠some b∧(Vs A n c j).ownBlock≠some b
 link : ∀ i,i<N→∀ b,(Vs A n c i).ownBlock=some b→(L i).ownBlock=some b→∀ k,k<n i→(Z i)[k]?=some (y i k)
 below:Below w0.heap.size w0 W
theorem addp_block (a:Addr) (n:Nat):(a.add n).block=a.block:=by unfold Addr.add;split <;> rfl
theorem own_some (a:Option Addr) (n c b:Nat):(Value.slice a n c).ownBlock=some b↔∃ x,a=some x∧x.block=b:=by
 cases a <;> simp[Value.ownBlock]
/-- A pair of a row of the call's own, as its two cells. -/
theorem pair_cells {w:World} {base g n c:Nat} {ok:Nat→Prop} {Z:List S58} (h:Kd.R k58 58 w base ok (.slice (some ⟨g,0,none⟩) n c) Z) {k:Nat} {p:S58} (hk:Z[k]?=some p):w.cell? ⟨g,k*2,none⟩=some (.string p.f0)∧w.cell? ⟨g,k*2+1,none⟩=some (.string p.f1):=by
 have hlt:k<Z.length:=(List.getElem?_eq_some_iff.1 hk).1
 obtain⟨ce,_,hM,hcc,_⟩:=Kd.R_elem h z58 (k:Int) (Int.natCast_nonneg _) (by have:=(Kd.R_reads' h).1;omega)
 obtain rfl:=k58_openM hM
 rw[Int.toNat_natCast,List.getD_eq_getElem?_getD,hk] at hcc
 exact ⟨hcc 0 _ rfl,hcc 1 _ rfl⟩
theorem RowsP.step {w0 W W':World} {ga:Addr} {N:Nat} {A:Nat→Option Addr} {n c:Nat→Nat} {L:Nat→Value} {Z:Nat→List S58} {y:Nat→Nat→S58} (h:RowsP w0 W ga N A n c L Z y) (hb:Below W.heap.size W W'):RowsP w0 W' ga N A n c L Z y where
 cell:=fun i hi=>(hb.cell (World.block_lt_of_cell? W _ (h.cell i hi))).trans (h.cell i hi)
 own:=fun i hi=>Kd.R_below (h.own i hi) hb
 view:=fun i hi k hk=>by
  obtain⟨g,e,h1,h2⟩:=h.view i hi k hk
  exact ⟨g,e,(hb.cell (World.block_lt_of_cell? W _ h1)).trans h1,(hb.cell (World.block_lt_of_cell? W _ h2)).trans h2⟩
 low:=fun i hi b e=>⟨Nat.lt_of_lt_of_le (h.low i hi b e).1 hb.size,(h.low i hi b e).2⟩
 far:=h.far
 apart:=h.apart
 link:=h.link
 below:=below_step h.below hb
/-- Row i of the call's own has been written, or has grown: its own block alone, and new ones. -/
theorem RowsP.upd {w0 W W':World} {ga:Addr} {N:Nat} {A:Nat→Option Addr} {n c:Nat→Nat} {L:Nat→Value} {Z:Nat→List S58} {y:Nat→Nat→S58} (h:RowsP w0 W ga N A n c L Z y) {i:Nat} (hi:i<N) {row:Option Nat} (hg:W.grownBy W' row) (hr:row=none∨row=(L i).ownBlock)
  (L':Value) (Z':List S58) (y':Nat→S58) (hR:Kd.R k58 58 W' w0.heap.size (fun _=>True) L' Z') (hL:L'.ownBlock=(L i).ownBlock∨∃ b,L'.ownBlock=some b∧W.heap.size≤b)
  (hv:row≠none→∀ b,(Vs A n c i).ownBlock=some b→(L i).ownBlock=some b→∀ k,k<n i→∃ g,A i=some ⟨g,0,none⟩∧W'.cell? ⟨g,k*2,none⟩=some (.string (y' k).f0)∧W'.cell? ⟨g,k*2+1,none⟩=some (.string (y' k).f1))
  (hy:(row=none∨∀ b,(Vs A n c i).ownBlock=some b→(L i).ownBlock≠some b)→∀ k,k<n i→y' k=y i k)
  (hl : ∀ b,(Vs A n c i).ownBlock=some b→L'.ownBlock=some b→∀ k,k<n i→Z'[k]?=some (y' k)) (hB:Below w0.heap.size w0 W') :
  RowsP w0 W' ga N A n c (fun j=>if j=i then L' else L j) (fun j=>if j=i then Z' else Z j) (fun j=>if j=i then y' else y j):=by
 have hrow : ∀ b,row=some b→(L i).ownBlock=some b:=fun b e=>by
  rcases hr with hr|hr
  ·
   rw[hr] at e;cases e
  ·
   rw[←hr,e]
 have hgb:row≠some ga.block:=fun e=>h.far i hi (hrow _ e)
 have keep : ∀ {x:Addr} {v:Value},W.cell? x=some v→row≠some x.block→W'.cell? x=some v:=fun {x v} hx hne=>hg.cell hx (fun e=>hne e.symm)
 have viewj : ∀ j,j<N→(∀ b,row=some b→(Vs A n c j).ownBlock≠some b)→∀ k,k<n j→∃ g,A j=some ⟨g,0,none⟩∧W'.cell? ⟨g,k*2,none⟩=some (.string (y j k).f0)∧W'.cell? ⟨g,k*2+1,none⟩=some (.string (y j k).f1):=fun j hj hne k hk=>by
  obtain⟨g,e,h1,h2⟩:=h.view j hj k hk
  have hb:row≠some g:=fun er=>hne g er ((own_some _ _ _ _).2 ⟨_,e,rfl⟩)
  exact ⟨g,e,keep h1 hb,keep h2 hb⟩
 have hgl:ga.block<W.heap.size:=by
  have:=World.block_lt_of_cell? W _ (h.cell i hi)
  rwa [addp_block] at this
 refine ⟨fun j hj=>?_,fun j hj=>?_,fun j hj=>?_,fun j hj b e=>?_,fun j hj=>?_,fun j l hj hl' hne b=>?_,fun j hj=>?_,hB⟩
 ·
  exact keep (h.cell j hj) (by rw[addp_block];exact hgb)
 ·
  by_cases e:j=i
  ·
   subst e;rw[if_pos rfl,if_pos rfl];exact hR
  ·
   rw[if_neg e,if_neg e]
   exact Kd.R_grown2 (h.own j hj) rfl hg (fun k hk e2=>(h.apart i j hi hj (fun e3=>e e3.symm) k (hrow k hk)).1 e2.symm)
 ·
  by_cases e:j=i
  ·
   subst e;rw[if_pos rfl]
   intro k hk
   obtain⟨g,eg,_,_⟩:=h.view j hj k hk
   have hvb:(Vs A n c j).ownBlock=some g:=(own_some _ _ _ _).2 ⟨_,eg,rfl⟩
   by_cases hs:row≠none∧(L j).ownBlock=some g
   ·
    exact hv hs.1 g hvb hs.2 k hk
   ·
    have hyk:y' k=y j k:=hy (by
     by_cases e1:row=none
     ·
      exact .inl e1
     ·
      refine .inr fun b e2 e3=>hs ⟨e1,?_⟩
      rw[hvb] at e2
      rw[e3,e2]) k hk
    rw[hyk]
    refine viewj j hj (fun b e1 e2=>hs ⟨by rw[e1];simp,?_⟩) k hk
    rw[hvb] at e2
    rw[e2]
    exact hrow b e1
  ·
   rw[if_neg e]
   exact viewj j hj (fun b e1=>(h.apart i j hi hj (fun e3=>e e3.symm) b (hrow b e1)).2)
 ·
  exact ⟨Nat.lt_of_lt_of_le (h.low j hj b e).1 hg.size,(h.low j hj b e).2⟩
 ·
  by_cases e:j=i
  ·
   subst e;rw[if_pos rfl]
   rcases hL with e1|⟨b,e1,e2⟩
   ·
    rw[e1];exact h.far j hj
   ·
    rw[e1];intro e3;have:=Option.some.inj e3;omega
  ·
   rw[if_neg e];exact h.far j hj
 ·
  by_cases e:j=i
  ·
   subst e
   rw[if_pos rfl,if_neg (fun e3=>hne e3.symm)]
   intro e1
   rcases hL with e2|⟨b2,e2,e3⟩
   ·
    exact h.apart j l hj hl' hne b (e2 ▸ e1)
   ·
    rw[e2] at e1
    have hbe:=Option.some.inj e1
    refine ⟨fun e4=>?_,fun e4=>?_⟩
    ·
     have:=Kd.R_lt (h.own l hl') b e4;omega
    ·
     have:=(h.low l hl' b e4).1;omega
  ·
   rw[if_neg e]
   intro e1
   by_cases e':l=i
   ·
    subst e'
    rw[if_pos rfl]
    refine ⟨fun e4=>?_,(h.apart j l hj hl' hne b e1).2⟩
    rcases hL with e2|⟨b2,e2,e3⟩
    ·
     exact (h.apart j l hj hl' hne b e1).1 (e2 ▸ e4)
    ·
     rw[e2] at e4
     have hbe:=Option.some.inj e4
     have:=Kd.R_lt (h.own j hj) b e1
     omega
   ·
    rw[if_neg e'];exact h.apart j l hj hl' hne b e1
 ·
  by_cases e:j=i
  ·
   subst e;rw[if_pos rfl,if_pos rfl,if_pos rfl];exact hl
  ·
   rw[if_neg e,if_neg e,if_neg e];exact h.link j hj
theorem set_get {α:Type} {l:List α} {k q:Nat} {x z:α} (h:l[q]?=some z):(l.set k x)[q]?=some (if q=k then x else z):=by
 rw[List.getElem?_set]
 by_cases e:k=q
 ·
  subst e
  rw[if_pos rfl,if_pos rfl,if_pos (List.getElem?_eq_some_iff.1 h).1]
 ·
  rw[if_neg e,if_neg (fun e2=>e e2.symm),h]
/-- A store into row i. -/
theorem RowsP.put {w0 W:World} {ga:Addr} {N:Nat} {A:Nat→Option Addr} {n c:Nat→Nat} {L:Nat→Value} {Z:Nat→List S58} {y:Nat→Nat→S58} (h:RowsP w0 W ga N A n c L Z y) {i:Nat} (hi:i<N) {k:Nat} (hk:k<n i) {g:Nat} (hA:A i=some ⟨g,0,none⟩) (hs:(L i).ownBlock=some g) (x:S58) :
  RowsP w0 ((W.setCell ⟨g,k*2,none⟩ (.string x.f0)).setCell ⟨g,k*2+1,none⟩ (.string x.f1)) ga N A n c L (fun j=>if j=i then (Z i).set k x else Z j) (fun j=>if j=i then (fun q=>if q=k then x else y i q) else y j):=by
 have hvb:(Vs A n c i).ownBlock=some g:=(own_some _ _ _ _).2 ⟨_,hA,rfl⟩
 have hZ:=h.link i hi g hvb hs
 have hR:=h.own i hi
 have hlt:k<(Z i).length:=(List.getElem?_eq_some_iff.1 (hZ k hk)).1
 obtain⟨g',cap,eL,hb,_,_⟩:=Kd.R_form hR (by omega)
 obtain rfl:g'=g:=by rw[eL] at hs;simpa [Value.ownBlock] using hs
 rw[eL] at hR
 obtain⟨ce,hcl,hM,hcc,_⟩:=Kd.R_elem hR z58 (k:Int) (Int.natCast_nonneg _) (by omega)
 have hP:=Kd.R_seg hR (k:Int) (Int.natCast_nonneg _) (by omega) (seg:=[.string x.f0,.string x.f1]) (j:=0) hcl hcc (show 2≤2 from by decide) (x':=x) (okp:=fun k_=>True∧k_≠g') (by
  obtain rfl:=k58_openM hM
  exact k58_mkM _ _ _ x) (fun _ hk=>hk)
 rw[Int.toNat_natCast] at hP
 have hu:=h.upd hi hP.2 (.inr hs.symm) (L i) ((Z i).set k x) (fun q=>if q=k then x else y i q) (by rw[eL];exact hP.1) (.inl rfl) (fun _ b e1 e2 q hq=>by
  have hq2:=hZ q hq
  obtain⟨h1,h2⟩:=pair_cells hP.1 (set_get (k:=k) (x:=x) hq2)
  exact ⟨g',hA,h1,h2⟩) (fun ha=>by
  rcases ha with ha|ha
  ·
   cases ha
  ·
   exact absurd hs (ha g' hvb)) (fun b e1 e2 q hq=>set_get (hZ q hq)) (below_set (below_set h.below hb) hb)
 have hLL:(fun j=>if j=i then L i else L j)=L:=by
  funext j
  by_cases e:j=i
  ·
   subst e;rw[if_pos rfl]
  ·
   rw[if_neg e]
 rw[hLL] at hu
 exact hu
/-- One pair more is put behind row i of the call's own. -/
theorem pair_more {P:Program} {ops:Array Oper} {rest:List Oper} {o:Oper} {a:Act} {Q:Exit→Act→World→Prop} (hgd:o.guard=none) (sO xO:Operand) (t:TypeId)
  (ho:o.op=.call { callee:=.builtin .append,args:=#[sO,xO],argTypes:=#[t,t] }) (ht:P.underlying t=some (.slice 58))
  (hinfo:(P.info? 58).map (fun i=>(i.zero,i.size,i.bytes))=some (some (.agg #[(.string ⟨#[]⟩),(.string ⟨#[]⟩)]),2,32)) {w0 W:World} {ga:Addr} {N:Nat} {A:Nat→Option Addr} {n c:Nat→Nat} {L:Nat→Value} {Z:Nat→List S58} {y:Nat→Nat→S58} (h:RowsP w0 W ga N A n c L Z y) (i:Nat) (hi:i<N)
  (p:S58) (hs:a.eval sO=L i) (H:Nat) (hx:a.eval xO=.slice (some ⟨H,0,none⟩) 1 1) (hH0:W.cell? ⟨H,0,none⟩=some (.string p.f0)) (hH1:W.cell? ⟨H,1,none⟩=some (.string p.f1))
  (hl:(Z i).length+1≤4398046511104)
  (k : ∀ v' w' row,RowsP w0 w' ga N A n c (fun j=>if j=i then v' else L j) (fun j=>if j=i then Z i++[p] else Z j) y→W.grownBy w' row→(row=none∨row=(L i).ownBlock)→(v'.ownBlock=(L i).ownBlock∨∃ b,v'.ownBlock=some b∧W.heap.size≤b)→wpList P ops Q rest (a.put o.dst v') w'):wpList P ops Q (o::rest) a W:=by
 obtain⟨i0,hi0,hzz⟩:=Option.map_eq_some_iff.1 hinfo
 simp only[Prod.mk.injEq] at hzz
 obtain⟨hz0,hz1,hz2⟩:=hzz
 have hbl:=below_size h.below
 have hyy:(fun j=>if j=i then y i else y j)=y:=by
  funext j
  by_cases e:j=i
  ·
   subst e;rw[if_pos rfl]
  ·
   rw[if_neg e]
 have hc1 : ∀ j u,[Value.string p.f0,Value.string p.f1][j]?=some u→W.cell? ((⟨H,0,none⟩:Addr).add j)=some u:=fun j u hj=>by
  rw[add_plain]
  match j,hj with
  |0,hj=>obtain rfl:=Option.some.inj hj;exact hH0
  |1,hj=>obtain rfl:=Option.some.inj hj;exact hH1
  |j+2,hj=>simp at hj
 have hone : ∀ u∈[Value.string p.f0,Value.string p.f1],u.oneCell'=true:=fun u hu=>by
  simp only[List.mem_cons,List.not_mem_nil,or_false] at hu
  rcases hu with rfl|rfl <;> rfl
 have hR:=h.own i hi
 obtain⟨h0,inner,hown,hr⟩:=hR
 have hown':W.ownsRow w0.heap.size 58 2 (L i) (Z i).length inner:=hown
 have hmk : ∀ w1:World,k58.M w1 w0.heap.size (fun _=>False) p [.string p.f0,.string p.f1]:=fun w1=>k58_mkM _ _ _ _
 -- a new row
 have hgrow : ∀ v' w',w'.ownsRow W.heap.size 58 2 v' ((Z i).length+1) (inner++[Value.string p.f0,Value.string p.f1])→W.grownBy w' none→wpList P ops Q rest (a.put o.dst v') w':=fun v' w' ho' hg=>by
  obtain⟨g',cap',he',hb',_⟩:=ho'.form (by omega)
  have hat : ∃ b,v'.ownBlock=some b∧W.heap.size≤b:=⟨g',by rw[he'];rfl,hb'⟩
  have hg2:W.grownBy w' (L i).ownBlock:=⟨hg.os,hg.tape,hg.output,hg.size,fun k hk _=>hg.block k hk (by simp)⟩
  have hR':Kd.R k58 58 w' w0.heap.size (fun _=>True) v' (Z i++[p]):=Kd.R_appended h0 hr (hmk W) (fun _ hk=>hk.elim) (fun _ _=>trivial) (own_weaken ho' hbl) hg2 (.inr hat)
  have hu:=h.upd hi hg (.inl rfl) v' (Z i++[p]) (y i) hR' (.inr hat) (fun e=>absurd rfl e) (fun _ _ _=>rfl) (fun b e1 e2=>by
   obtain⟨b2,e3,e4⟩:=hat
   have:=(h.low i hi b e1).1
   rw[e3] at e2
   have:=Option.some.inj e2
   omega) (h.below.grown hg hbl (fun k hk=>by cases hk))
  rw[hyy] at hu
  exact k v' w' none hu hg (.inl rfl) (.inr hat)
 rcases hown'.2 with ⟨hvn,h0n⟩|⟨g,cap,cur,hve,hbg,hg,hnc,hcm,hcs,htake⟩
 ·
  have hZ:(Z i).length=0:=h0n
  have hin:inner=[]:=List.length_eq_zero_iff.1 (by rw[hown'.1,hZ,Nat.zero_mul])
  refine wpList_append_grows W hgd sO xO t ho 58 i0 _ 2 32 ht hi0 hz0 hz1 hz2 rfl (by omega) none 0 0 inner (by rw[hs,hvn]) (fun _=>⟨rfl,rfl⟩) (by rw[hin];rfl) (fun b hb=>by cases hb) ⟨H,0,none⟩ 1 1 [Value.string p.f0,Value.string p.f1] hx rfl hc1 hone (by omega) (by simp only[maxLen];omega) (by omega)
   (fun v' w' h1 h2=>hgrow v' w' (by rw[hZ];exact h1) h2)
 ·
  refine wpList_append_arg W hgd sO xO t ho 58 i0 _ 2 32 ht hi0 hz0 hz1 hz2 rfl (by omega) g 0 (Z i).length cap inner (by rw[hs,hve]) hown'.1 (fun j u hj=>?_) ⟨H,0,none⟩ 1 1 [Value.string p.f0,Value.string p.f1] hx rfl hc1 hone (fun hrm j hj=>?_) (by simp only[maxLen];omega) (by omega) (fun hrm=>?_) (fun _=>hgrow)
  ·
   have:=(hve ▸ hown').cells (g:=g) rfl j u hj
   rw[add_plain] at this
   first|exact this|(rw[Nat.zero_add];exact this)
  ·
   have hj2:j<2:=hj
   rw[Nat.zero_add]
   refine ⟨?_,blk_frozen hg _⟩
   rw[blk_cell hg,Array.getElem?_eq_getElem (by omega)]
   rfl
  ·
   obtain⟨cur',hh',hsz',hlist⟩:=setCells_row (g:=g) (e:=58) [Value.string p.f0,Value.string p.f1] (0+(Z i).length*2) W cur hg (by simp;omega)
   have hgb:W.grownBy (W.setCells g (0+(Z i).length*2) [Value.string p.f0,Value.string p.f1]) (some g):=by
    obtain⟨e1,e2,e3,e4⟩:=setCells_same g [Value.string p.f0,Value.string p.f1] (0+(Z i).length*2) W
    exact ⟨e1,e2,e3,Nat.le_of_eq e4.symm,fun k _ hne=>setCells_far _ _ k (fun e=>hne (by rw[e]))⟩
   have hLb:(L i).ownBlock=some g:=by rw[hve];rfl
   have hvb:(Value.slice (some ⟨g,0,none⟩) ((Z i).length+1) cap).ownBlock=(L i).ownBlock:=by rw[hLb];rfl
   have hown2:(W.setCells g (0+(Z i).length*2) [Value.string p.f0,Value.string p.f1]).ownsRow w0.heap.size 58 2 (.slice (some ⟨g,0,none⟩) ((Z i).length+1) cap) ((Z i).length+1) (inner++[Value.string p.f0,Value.string p.f1]):=by
    refine ⟨by rw[List.length_append,hown'.1];simp;omega,.inr ⟨g,cap,cur',rfl,hbg,hh',hrm,hcm,by rw[hsz',hcs],?_⟩⟩
    rw[hlist]
    have ht2:cur.toList.take (0+(Z i).length*2)=inner:=by rw[Nat.zero_add];exact htake
    rw[ht2,List.take_append_of_le_length (by rw[List.length_append,hown'.1];simp;omega),List.take_of_length_le (by rw[List.length_append,hown'.1];simp;omega)]
   have hR':Kd.R k58 58 (W.setCells g (0+(Z i).length*2) [Value.string p.f0,Value.string p.f1]) w0.heap.size (fun _=>True) (.slice (some ⟨g,0,none⟩) ((Z i).length+1) cap) (Z i++[p]):=Kd.R_appended h0 hr (hmk W) (fun _ hk=>hk.elim) (fun _ _=>trivial) hown2 (by rw[hLb];exact hgb) (.inl hvb)
   have hpre : ∀ q z,(Z i)[q]?=some z→(Z i++[p])[q]?=some z:=fun q z hq=>by
    rw[List.getElem?_append_left (List.getElem?_eq_some_iff.1 hq).1];exact hq
   have hu:=h.upd hi hgb (.inr hLb.symm) _ (Z i++[p]) (y i) hR' (.inl hvb) (fun _ b e1 e2 q hq=>by
    obtain⟨g2,eg,_,_⟩:=h.view i hi q hq
    have hb2:(Vs A n c i).ownBlock=some g2:=(own_some _ _ _ _).2 ⟨_,eg,rfl⟩
    have hgg:g2=g:=by
     rw[e1] at hb2
     rw[hLb] at e2
     have h1:=Option.some.inj hb2
     have h2:=Option.some.inj e2
     omega
    subst hgg
    obtain⟨h1,h2⟩:=pair_cells hR' (hpre q _ (h.link i hi b e1 e2 q hq))
    exact ⟨g2,eg,h1,h2⟩) (fun _ _ _=>rfl) (fun b e1 e2 q hq=>hpre q _ (h.link i hi b e1 (hvb ▸ e2) q hq)) (h.below.grown hgb hbl (fun k hk=>by obtain rfl:=Option.some.inj hk;exact hbg))
   rw[hyy] at hu
   exact k _ _ (some g) hu hgb (.inr hLb.symm) (.inl hvb)
/-- What is written elsewhere (none of the rows). -/
theorem RowsP.other {w0 W W':World} {ga:Addr} {N:Nat} {A:Nat→Option Addr} {n c:Nat→Nat} {L:Nat→Value} {Z:Nat→List S58} {y:Nat→Nat→S58} (h:RowsP w0 W ga N A n c L Z y) {row:Option Nat} (hg:W.grownBy W' row) (hB:Below w0.heap.size w0 W')
  (hne : ∀ b,row=some b→b≠ga.block∧∀ i,i<N→(L i).ownBlock≠some b∧(Vs A n c i).ownBlock≠some b):RowsP w0 W' ga N A n c L Z y where
 cell:=fun i hi=>hg.cell (h.cell i hi) (by rw[addp_block];exact fun e=>(hne _ e.symm).1 rfl)
 own:=fun i hi=>Kd.R_grown2 (h.own i hi) rfl hg (fun k hk e2=>((hne k hk).2 i hi).1 e2.symm)
 view:=fun i hi k hk=>by
  obtain⟨g,e,h1,h2⟩:=h.view i hi k hk
  have hb:row≠some g:=fun er=>((hne g er).2 i hi).2 ((own_some _ _ _ _).2 ⟨_,e,rfl⟩)
  exact ⟨g,e,hg.cell h1 (fun e=>hb e.symm),hg.cell h2 (fun e=>hb e.symm)⟩
 low:=fun i hi b e=>⟨Nat.lt_of_lt_of_le (h.low i hi b e).1 hg.size,(h.low i hi b e).2⟩
 far:=h.far
 apart:=h.apart
 link:=h.link
 below:=hB
/-- The row of the rows that have grown: those of the lists 1, 2, .., q. -/
structure LongP (w0 W:World) (ga:Addr) (N:Nat) (A:Nat→Option Addr) (n c:Nat→Nat) (L:Nat→Value) (vl:Value) (q:Nat):Prop where
 own:W.ownsRow w0.heap.size 22 1 vl q ((List.range q).map (fun j=>L (j+1)))
 apart : ∀ b,vl.ownBlock=some b→b≠ga.block∧∀ i,i<N→(L i).ownBlock≠some b∧(Vs A n c i).ownBlock≠some b
theorem own_belowP {W W':World} {B e size n:Nat} {v:Value} {xs:List Value} (h:W.ownsRow B e size v n xs) (hb:Below W.heap.size W W'):W'.ownsRow B e size v n xs:=by
 refine ⟨h.1,?_⟩
 rcases h.2 with h2|⟨g,cap,cur,hv,hbg,hg,h3⟩
 ·
  exact .inl h2
 ·
  exact .inr ⟨g,cap,cur,hv,hbg,(hb.block g (Array.getElem?_eq_some_iff.1 hg).1).trans hg,h3⟩
theorem LongP.step {w0 W W':World} {ga:Addr} {N:Nat} {A:Nat→Option Addr} {n c:Nat→Nat} {L:Nat→Value} {vl:Value} {q:Nat} (h:LongP w0 W ga N A n c L vl q) (hb:Below W.heap.size W W'):LongP w0 W' ga N A n c L vl q:=⟨own_belowP h.own hb,h.apart⟩
/-- Row i (behind those that lie in 'long') has grown. -/
theorem LongP.more {w0 W W':World} {ga:Addr} {N:Nat} {A:Nat→Option Addr} {n c:Nat→Nat} {L:Nat→Value} {vl:Value} {q:Nat} (h:LongP w0 W ga N A n c L vl q) {i:Nat} (hi:i<N) (hq:q<i) {row:Option Nat} (hg:W.grownBy W' row) (hr:row=none∨row=(L i).ownBlock) (v':Value) (hat:v'.ownBlock=(L i).ownBlock∨∃ b,v'.ownBlock=some b∧W.heap.size≤b) :
  LongP w0 W' ga N A n c (fun j=>if j=i then v' else L j) vl q where
 own:=by
  have e:(List.range q).map (fun j=>(fun j=>if j=i then v' else L j) (j+1))=(List.range q).map (fun j=>L (j+1)):=List.map_congr_left fun j hj=>by
   have:=List.mem_range.1 hj
   exact if_neg (by omega)
  rw[e]
  refine h.own.kept hg ?_
  rcases hr with hr|hr
  ·
   cases hv:vl.ownBlock with
   |none=>exact .inl rfl
   |some b=>exact .inr (by rw[hr];simp)
  ·
   cases hv:vl.ownBlock with
   |none=>exact .inl rfl
   |some b=>exact .inr (by rw[hr];exact fun e=>((h.apart b hv).2 i hi).1 e.symm)
 apart:=fun b hb=>⟨(h.apart b hb).1,fun j hj=>⟨by
  by_cases e:j=i
  ·
   subst e
   rw[if_pos rfl]
   rcases hat with e1|⟨b2,e1,e2⟩
   ·
    rw[e1];exact ((h.apart b hb).2 j hj).1
   ·
    rw[e1]
    intro e3
    have:=(h.own.lt b hb).2
    have:=Option.some.inj e3
    omega
  ·
   rw[if_neg e];exact ((h.apart b hb).2 j hj).1,((h.apart b hb).2 j hj).2⟩⟩
/-- .. and is put behind 'long'. -/
theorem long_more {P:Program} {ops:Array Oper} {rest:List Oper} {o:Oper} {a:Act} {Q:Exit→Act→World→Prop} (hgd:o.guard=none) (sO xO:Operand) (t:TypeId)
  (ho:o.op=.call { callee:=.builtin .append,args:=#[sO,xO],argTypes:=#[t,t] }) (ht:P.underlying t=some (.slice 22))
  (hinfo:(P.info? 22).map (fun i=>(i.zero,i.size,i.bytes))=some (some (.slice none 0 0),1,24)) {w0 W:World} {ga:Addr} {N:Nat} {A:Nat→Option Addr} {n c:Nat→Nat} {L:Nat→Value} {Z:Nat→List S58} {y:Nat→Nat→S58} (h:RowsP w0 W ga N A n c L Z y) {vl:Value} {q:Nat} (hl:LongP w0 W ga N A n c L vl q) {i:Nat} (hqi:q+1=i) (hq:i<N) (hN:N≤1000)
  (hs:a.eval sO=vl) (H:Nat) (hx:a.eval xO=.slice (some ⟨H,0,none⟩) 1 1) (hH0:W.cell? ⟨H,0,none⟩=some (L i))
  (k : ∀ v' w',RowsP w0 w' ga N A n c L Z y→LongP w0 w' ga N A n c L v' (q+1)→wpList P ops Q rest (a.put o.dst v') w'):wpList P ops Q (o::rest) a W:=by
 subst hqi
 obtain⟨i0,hi0,hzz⟩:=Option.map_eq_some_iff.1 hinfo
 simp only[Prod.mk.injEq] at hzz
 obtain⟨hz0,hz1,hz2⟩:=hzz
 have hbl:=below_size h.below
 have hc1 : ∀ j u,[L (q+1)][j]?=some u→W.cell? ((⟨H,0,none⟩:Addr).add j)=some u:=fun j u hj=>by
  match j,hj with
  |0,hj=>obtain rfl:=Option.some.inj hj;exact hH0
  |j+1,hj=>simp at hj
 have hone : ∀ u∈[L (q+1)],u.oneCell'=true:=fun u hu=>by
  simp only[List.mem_singleton] at hu
  obtain⟨A',c',e⟩:=Kd.R_slice (h.own (q+1) hq)
  rw[hu,e]
  rfl
 refine wpList_append_own_at W hgd sO xO t ho w0.heap.size 22 i0 _ 1 24 ht hi0 hz0 hz1 hz2 rfl (by omega) vl q _ hs hl.own ⟨H,0,none⟩ 1 1 [L (q+1)] hx rfl hc1 hone (by simp only[maxLen];omega) (by omega) hbl ?_
 intro v' w' hown hg _ hat
 have hB:Below w0.heap.size w0 w':=h.below.grown hg hbl (fun k hk=>(hl.own.lt k hk).1)
 refine k v' w' (h.other hg hB (fun b hb=>hl.apart b hb)) ⟨?_,fun b hb=>?_⟩
 ·
  rw[List.range_succ,List.map_append]
  exact hown
 ·
  rcases hat with e|e
  ·
   exact hl.apart b (e ▸ hb)
  ·
   rw[e] at hb
   have hbe:=Option.some.inj hb
   have hgl:ga.block<W.heap.size:=by
    have:=World.block_lt_of_cell? W _ (h.cell (q+1) hq)
    rwa [addp_block] at this
   refine ⟨by omega,fun i hi=>⟨fun e2=>?_,fun e2=>?_⟩⟩
   ·
    have:=Kd.R_lt (h.own i hi) b e2;omega
   ·
    have:=(h.low i hi b e2).1;omega
/-- A cell of 'long'. -/
theorem LongP.cell {w0 W:World} {ga:Addr} {N:Nat} {A:Nat→Option Addr} {n c:Nat→Nat} {L:Nat→Value} {vl:Value} {q:Nat} (h:LongP w0 W ga N A n c L vl q) (j:Nat) (hj:j<q) : ∃ g cap,vl=.slice (some ⟨g,0,none⟩) q cap∧W.cell? ⟨g,j,none⟩=some (L (j+1)):=by
 obtain⟨g,cap,e,_,_⟩:=h.own.form (by omega)
 refine ⟨g,cap,e,?_⟩
 have:=h.own.cells (g:=g) (by rw[e];rfl) j (L (j+1)) (by rw[List.getElem?_map,List.getElem?_range hj];rfl)
 rw[add_plain] at this
 first|exact this|(rw[Nat.zero_add] at this;exact this)
def seqTail:Nat→Code→Code
 |0,c=>c
 |n+1,.seq _ b=>seqTail n b
 |_+1,c=>c
noncomputable def copselaw7_LeafNew.code:Code:=seqTail 17 (Tryd.f10.body.getD .skip)
def copselaw7_LeafNew.T28:Bool×List (List Nat×List Nat):=(true,[([],[]),([],[]),([0,1],[0,1]),([2],[2]),([],[]),([],[]),([5],[5]),([3,4,0,1,2,3,4,5,6],[3,4]),([7,6,6,0,1,2,3,4,5,6],[6,7])])
def copselaw7_LeafNew.B28:List Nat:=[0,0,3,7,0,0,32,127,255]
theorem copselaw7_LeafNew.tab28:rtab .any (opsOf Tryd.f10 28)=copselaw7_LeafNew.T28:=by kernel_rfl
theorem copselaw7_LeafNew.bits28:waitsOk copselaw7_LeafNew.T28.2 copselaw7_LeafNew.B28=true:=by kernel_rfl
def copselaw7_LeafNew.T45:Bool×List (List Nat×List Nat):=(true,[([],[]),([],[]),([0,1],[0,1]),([2],[2]),([],[]),([3,4],[3,4]),([5],[5]),([],[]),([7],[7]),([6,8],[6,8])])
def copselaw7_LeafNew.B45:List Nat:=[0,0,3,7,0,31,63,0,128,511]
theorem copselaw7_LeafNew.tab45:rtab .any (opsOf Tryd.f10 45)=copselaw7_LeafNew.T45:=by kernel_rfl
theorem copselaw7_LeafNew.bits45:waitsOk copselaw7_LeafNew.T45.2 copselaw7_LeafNew.B45=true:=by kernel_rfl
def copselaw7_LeafNew.T53:Bool×List (List Nat×List Nat):=(true,[([],[]),([],[]),([0,1],[0,1]),([2],[2]),([],[]),([3,4],[3,4]),([5],[5]),([],[]),([7],[7]),([8],[8]),([6,9],[6,9])])
def copselaw7_LeafNew.B53:List Nat:=[0,0,3,7,0,31,63,0,128,384,1023]
theorem copselaw7_LeafNew.tab53:rtab .any (opsOf Tryd.f10 53)=copselaw7_LeafNew.T53:=by kernel_rfl
theorem copselaw7_LeafNew.bits53:waitsOk copselaw7_LeafNew.T53.2 copselaw7_LeafNew.B53=true:=by kernel_rfl
def copselaw7_LeafNew.T58:Bool×List (List Nat×List Nat):=(true,[([],[]),([],[]),([0,1],[0,1]),([2],[2]),([],[]),([],[]),([4,5],[4,5]),([6],[6]),([3,7],[3,7])])
def copselaw7_LeafNew.B58:List Nat:=[0,0,3,7,0,0,48,112,255]
theorem copselaw7_LeafNew.tab58:rtab .any (opsOf Tryd.f10 58)=copselaw7_LeafNew.T58:=by kernel_rfl
theorem copselaw7_LeafNew.bits58:waitsOk copselaw7_LeafNew.T58.2 copselaw7_LeafNew.B58=true:=by kernel_rfl
theorem natlt_b {a b:Nat} (h:a<b):decide ((a:Int)<(b:Int))=true∧decide (a<b)=true:=⟨decide_eq_true (by omega),decide_eq_true h⟩
theorem natge_b {a b:Nat} (h : ¬ a<b):decide ((a:Int)<(b:Int))=false∧decide (a<b)=false:=⟨decide_eq_false (by omega),decide_eq_false h⟩
theorem wnat {a:Nat} (h:a≤4611686018427387904):wrap64 ((a:Int)+1)=((a+1:Nat):Int):=by unfold wrap64;omega
def ownP (k i:Nat):S58:=match copselaw7_own.f k (i:Int) with
 |some p=>⟨p.1,p.2⟩
 |none=>z58
def markP (k:Nat) (i:Int):S58:=match copselaw7_mark.f k i with
 |some p=>⟨p.1,p.2⟩
 |none=>z58
structure copselaw7_LeafNew.lens (k:Nat) (l t:List S58) (ts:List (List S58)):Prop where
 own : ∀ i,i<11→copselaw7_own.f k ((i:Nat):Int)=some ((ownP k i).f0,(ownP k i).f1)
 le:l.length≤t.length
 top:t.length≤4398046511104
 mark : ∀ q,l.length≤q→q<t.length→copselaw7_mark.f k (((q:Nat):Int) - ((l.length:Nat):Int))=some ((markP k ((q:Int) - (l.length:Int))).f0,(markP k ((q:Int) - (l.length:Int))).f1)∧t[q]?=some (markP k ((q:Int) - (l.length:Int)))
 room : ∀ s∈ts,s.length+64≤4398046511104
def copselaw7_LeafNew.lensE (l t:List S58) (ts:List (List S58)):Prop:=∃ k,copselaw7_LeafNew.lens k l t ts
theorem eleven {i:Nat} (h:i<11):i=0∨i=1∨i=2∨i=3∨i=4∨i=5∨i=6∨i=7∨i=8∨i=9∨i=10:=by omega
/-- What is known of the eleven lists. -/
structure Rows11 (k:Nat) (l t:List S58) (A:Nat→Option Addr) (n c:Nat→Nat) (L:Nat→Value) (Z:Nat→List S58) (y:Nat→Nat→S58) (m:Value):Prop where
 n0:n 0=l.length
 L0:L 0=m
 Z0:Z 0=t
 len : ∀ i,1≤i→i<11→(Z i).length=n i
 val : ∀ i,1≤i→i<11→L i=Vs A n c i
 share : ∀ i,i<11→(Vs A n c i).ownBlock=(L i).ownBlock
 get : ∀ i,i<11→∀ q,q<n i→(Z i)[q]?=some (y i q)
 room : ∀ i,1≤i→i<11→n i+64≤4398046511104
 room0:n 0≤4398046511104
/-- What the writing leaves of them. -/
structure Ext (n:Nat→Nat) (Z Z1:Nat→List S58) (y1:Nat→Nat→S58):Prop where
 len : ∀ j,(Z1 j).length=(Z j).length
 get : ∀ j,j<11→∀ q,q<n j→(Z1 j)[q]?=some (y1 j q)
 rest : ∀ j,j<11→∀ q,n j≤q→(Z1 j)[q]?=(Z j)[q]?
theorem Ext.put {n:Nat→Nat} {Z Z1:Nat→List S58} {y1:Nat→Nat→S58} (h:Ext n Z Z1 y1) (i k:Nat) (hk:k<n i) (x:S58):Ext n Z (fun j=>if j=i then (Z1 i).set k x else Z1 j) (fun j=>if j=i then (fun q=>if q=k then x else y1 i q) else y1 j) where
 len:=fun j=>by
  by_cases e:j=i
  ·
   subst e;rw[if_pos rfl,List.length_set];exact h.len j
  ·
   rw[if_neg e];exact h.len j
 get:=fun j hj q hq=>by
  by_cases e:j=i
  ·
   subst e;rw[if_pos rfl,if_pos rfl];exact set_get (h.get j hj q hq)
  ·
   rw[if_neg e,if_neg e];exact h.get j hj q hq
 rest:=fun j hj q hq=>by
  by_cases e:j=i
  ·
   subst e;rw[if_pos rfl,List.getElem?_set_ne (by omega)];exact h.rest j hj q hq
  ·
   rw[if_neg e];exact h.rest j hj q hq
/-- What the growing leaves of them: the lists 1, .., i - 1 have grown. -/
structure Grown (k:Nat) (n:Nat→Nat) (L L2:Nat→Value) (Z1 Z2:Nat→List S58) (i:Nat):Prop where
 lo : ∀ j,1≤j→j<i→(Z2 j).length=n j+64∧∀ q,q<(Z2 j).length→(Z2 j)[q]?=some (ownP k j)
 hi : ∀ j,j<11→(j=0∨i≤j)→L2 j=L j∧Z2 j=Z1 j
structure GrownI (k:Nat) (n:Nat→Nat) (L L3:Nat→Value) (Z1 Z3:Nat→List S58) (i m:Nat):Prop where
 pos:1≤i
 lo : ∀ j,1≤j→j<i→(Z3 j).length=n j+64∧∀ q,q<(Z3 j).length→(Z3 j)[q]?=some (ownP k j)
 hi : ∀ j,j<11→(j=0∨i<j)→L3 j=L j∧Z3 j=Z1 j
 len:(Z3 i).length=n i+m
 all : ∀ q,q<(Z3 i).length→(Z3 i)[q]?=some (ownP k i)
theorem Grown.start {k:Nat} {l t:List S58} {A:Nat→Option Addr} {n c:Nat→Nat} {L L2:Nat→Value} {Z Z1 Z2:Nat→List S58} {y y1:Nat→Nat→S58} {v:Value} {i:Nat} (h:Grown k n L L2 Z1 Z2 i) (hE:Ext n Z Z1 y1) (hM : ∀ j,j<11→∀ q,q<n j→y1 j q=ownP k j) (hF:Rows11 k l t A n c L Z y v) (h1:1≤i) (hi:i<11):GrownI k n L L2 Z1 Z2 i 0 where
 pos:=h1
 lo:=h.lo
 hi:=fun j hj hc=>h.hi j hj (hc.imp id Nat.le_of_lt)
 len:=by rw[(h.hi i hi (.inr (Nat.le_refl _))).2,hE.len,hF.len i h1 hi];rfl
 all:=fun q hq=>by
  rw[(h.hi i hi (.inr (Nat.le_refl _))).2] at hq ⊢
  rw[hE.len,hF.len i h1 hi] at hq
  rw[hE.get i hi q hq,hM i hi q hq]
theorem GrownI.more {k:Nat} {n:Nat→Nat} {L L3:Nat→Value} {Z1 Z3:Nat→List S58} {i m:Nat} (h:GrownI k n L L3 Z1 Z3 i m) (v':Value):GrownI k n L (fun j=>if j=i then v' else L3 j) Z1 (fun j=>if j=i then Z3 i++[ownP k i] else Z3 j) i (m+1) where
 pos:=h.pos
 lo:=fun j h1 h2=>by
  rw[if_neg (by omega)]
  exact h.lo j h1 h2
 hi:=fun j hj hc=>by
  have:=h.pos
  rw[if_neg (by omega),if_neg (by omega)]
  exact h.hi j hj hc
 len:=by
  rw[if_pos rfl,List.length_append,h.len]
  rfl
 all:=fun q hq=>by
  rw[if_pos rfl] at hq ⊢
  rw[List.length_append,List.length_singleton] at hq
  by_cases e:q<(Z3 i).length
  ·
   rw[List.getElem?_append_left e];exact h.all q e
  ·
   have e2:q=(Z3 i).length:=by omega
   rw[e2,List.getElem?_append_right (Nat.le_refl _),Nat.sub_self]
   rfl
theorem GrownI.done {k:Nat} {n:Nat→Nat} {L L3:Nat→Value} {Z1 Z3:Nat→List S58} {i m:Nat} (h:GrownI k n L L3 Z1 Z3 i m) (hm:m=64):Grown k n L L3 Z1 Z3 (i+1) where
 lo:=fun j h1 h2=>by
  by_cases e:j=i
  ·
   subst e;exact ⟨by rw[h.len,hm],h.all⟩
  ·
   exact h.lo j h1 (by omega)
 hi:=fun j hj hc=>h.hi j hj (hc.imp id (fun x=>by omega))
theorem info22:(Tryd.prog.info? 22).map (fun i=>(i.zero,i.size,i.bytes))=some (some (.slice none 0 0),1,24):=by kernel_rfl
theorem small_ {k:Nat} {l t:List S58} {A:Nat→Option Addr} {n c:Nat→Nat} {L:Nat→Value} {Z:Nat→List S58} {y:Nat→Nat→S58} {m:Value} (h:Rows11 k l t A n c L Z y m) {i:Nat} (hi:i<11):n i≤4398046511104:=by
 by_cases e:i=0
 ·
  subst e;exact h.room0
 ·
  have:=h.room i (by omega) hi;omega
theorem Kd.R_block {w:World} {base g:Nat} {ok:Nat→Prop} {v:Value} {Z:List S58} (h:Kd.R k58 58 w base ok v Z) (hv:v.ownBlock=some g) : ∃ cs,w.heap[g]?=some (.cells cs 58 (0,0)):=by
 obtain⟨inner,ho⟩:=Kd.R_own h
 rcases ho.2 with ⟨e,_⟩|⟨g',cap,cur,e,_,hg,_⟩
 ·
  rw[e] at hv;cases hv
 ·
  rw[e] at hv
  obtain rfl:g'=g:=Option.some.inj hv
  exact ⟨cur,hg⟩
theorem rows_start {w W:World} {N:Nat} {A:Nat→Option Addr} {n c:Nat→Nat} {L:Nat→Value} {Z:Nat→List S58} {y:Nat→Nat→S58} (cs:Array Value) (hcs : ∀ i,i<N→cs[i]?=some (Vs A n c i)) (hown : ∀ i,i<N→Kd.R k58 58 W w.heap.size (fun _=>True) (L i) (Z i)) (hsh : ∀ i,i<N→(Vs A n c i).ownBlock=(L i).ownBlock) (hn : ∀ i,i<N→n i≤(Z i).length) (hA : ∀ i,i<N→∃ m' c',L i=.slice (A i) m' c') (hget : ∀ i,i<N→∀ q,q<n i→(Z i)[q]?=some (y i q))
  (hap : ∀ i j,i<N→j<N→i≠j→∀ b,(L i).ownBlock=some b→(L j).ownBlock≠some b) (HB:Below w.heap.size w W):RowsP w (W.alloc (.cells cs 22)) ⟨W.heap.size,0,none⟩ N A n c L Z y where
 cell:=fun i hi=>by
  rw[add_plain,blk_cell (heap_alloc_new W _)]
  exact hcs i hi
 own:=fun i hi=>Kd.R_alloc (hown i hi) _
 view:=fun i hi k hk=>by
  obtain⟨m',c',e⟩:=hA i hi
  obtain⟨g,cap,e2,_⟩:=Kd.R_form (hown i hi) (by have:=hn i hi;omega)
  have hR:=Kd.R_alloc (hown i hi) (.cells cs 22)
  rw[e2] at hR e
  injection e with e3 e4 e5
  obtain⟨h1,h2⟩:=pair_cells hR (hget i hi k hk)
  exact ⟨g,e3.symm,h1,h2⟩
 low:=fun i hi b e=>by
  have h:=Kd.R_lt (hown i hi) b (by rw[←hsh i hi];exact e)
  have hs:=(below_alloc (Below.refl W.heap.size W) (.cells cs 22)).size
  exact ⟨by omega,fun e2=>by subst e2;exact absurd h (Nat.lt_irrefl _)⟩
 far:=fun i hi e=>absurd (Kd.R_lt (hown i hi) _ e) (Nat.lt_irrefl _)
 apart:=fun i j hi hj hne b e=>⟨hap i j hi hj hne b e,by rw[hsh j hj];exact hap i j hi hj hne b e⟩
 link:=fun i hi b _ _=>hget i hi
 below:=below_alloc HB _
set_option maxHeartbeats 16000000 in
set_option maxRecDepth 100000 in
theorem copselaw7_LeafNew.rest (k:Nat) (l0_0:List S58) (w wc:World) (gb:Nat) (Ao:Option Addr) (co:Nat) (v480 v488 v497 v499 v506 v514 v523 v525 v22 v23:Value) (t472 t479 t486 t494 t495 t505 t512 t520 t521 x22 x23:List S58)
  {u0 u2 u3 u4 u5 u6 u7 u12 u15 u18 u21 u24 u25 u26 u27 u28 u29 u30 u31 u32 u33 u34 u35 u36 u37 u38 u39 u40 u41 u42 u43 u44 u45 u46 u47 u48 u49 u50 u51 u52 u53 u54 u55 u56 u57 u58 u59 u60 u61 u62 u63 u64 u65 u66 u67 u68 u69 u70 u71 u72 u73 u74 u75 u76 u77 u78 u79 u80 u81 u82 u83 u84 u85 u86 u87 u88 u89 u90 u91 u92 u93 u94 u95 u96 u97 u98 u99 u100 u101 u102 u103 u104 u105 u106 u107 u108 u109 u110 u111 u112 u113 u114 u115 u116 u117 u118 u119 u120 u121 u122 u123 u124 u125 u126 u127 u128 u129 u130 u131 u132 u133 u134 u135 u136 u137 u138 u139 u140 u141 u142 u143 u144 u145 u146 u147 u148 u149 u150 u151 u152 u153 u154 u155 u156 u157 u158 u159 u160 u161 u162 u163 u164 u165 u166 u167 u168 u169 u170 u171 u172 u173 u174 u175 u176 u177 u178 u179 u180 u181 u182 u183 u184 u185 u186 u187 u188 u189 u190 u191 u192 u193 u194 u195 u196 u197 u198 u199 u200 u201 u202 u203 u204 u205 u206 u207 u208 u209 u210 u211 u212 u213 u214 u215 u216 u217 u218 u219 u220 u221 u222 u223 u224 u225 u226 u227 u228 u229 u230 u231 u232 u233 u234 u235 u236 u237 u238 u239 u240 u241 u242 u243 u244 u245 u246 u247 u248 u249 u250 u251 u252 u253 u254 u255 u256 u257 u258 u259 u260 u261 u262 u263 u264 u265 u266 u267 u268 u269 u270 u271 u272:Value}
  (h8:Kd.R k58 58 wc w.heap.size (fun k_=>some k_≠(v480:Value).ownBlock∧some k_≠(v488:Value).ownBlock∧some k_≠(v497:Value).ownBlock∧some k_≠(v499:Value).ownBlock∧some k_≠(v506:Value).ownBlock∧some k_≠(v514:Value).ownBlock∧some k_≠(v523:Value).ownBlock∧some k_≠(v525:Value).ownBlock∧some k_≠(v22:Value).ownBlock∧some k_≠(v23:Value).ownBlock) (.slice Ao t472.length co) t472)
  (h16:Kd.R k58 58 wc w.heap.size (fun k_=>some k_≠((.slice Ao t472.length co):Value).ownBlock∧some k_≠(v480:Value).ownBlock∧some k_≠(v488:Value).ownBlock∧some k_≠(v497:Value).ownBlock∧some k_≠(v499:Value).ownBlock∧some k_≠(v514:Value).ownBlock∧some k_≠(v523:Value).ownBlock∧some k_≠(v525:Value).ownBlock∧some k_≠(v22:Value).ownBlock∧some k_≠(v23:Value).ownBlock) v506 t505)
  (h17:Kd.R k58 58 wc w.heap.size (fun k_=>some k_≠((.slice Ao t472.length co):Value).ownBlock∧some k_≠(v480:Value).ownBlock∧some k_≠(v488:Value).ownBlock∧some k_≠(v497:Value).ownBlock∧some k_≠(v499:Value).ownBlock∧some k_≠(v506:Value).ownBlock∧some k_≠(v523:Value).ownBlock∧some k_≠(v525:Value).ownBlock∧some k_≠(v22:Value).ownBlock∧some k_≠(v23:Value).ownBlock) v514 t512)
  (h19:Kd.R k58 58 wc w.heap.size (fun k_=>some k_≠((.slice Ao t472.length co):Value).ownBlock∧some k_≠(v480:Value).ownBlock∧some k_≠(v488:Value).ownBlock∧some k_≠(v497:Value).ownBlock∧some k_≠(v499:Value).ownBlock∧some k_≠(v506:Value).ownBlock∧some k_≠(v514:Value).ownBlock∧some k_≠(v525:Value).ownBlock∧some k_≠(v22:Value).ownBlock∧some k_≠(v23:Value).ownBlock) v523 t520)
  (h20:Kd.R k58 58 wc w.heap.size (fun k_=>some k_≠((.slice Ao t472.length co):Value).ownBlock∧some k_≠(v480:Value).ownBlock∧some k_≠(v488:Value).ownBlock∧some k_≠(v497:Value).ownBlock∧some k_≠(v499:Value).ownBlock∧some k_≠(v506:Value).ownBlock∧some k_≠(v514:Value).ownBlock∧some k_≠(v523:Value).ownBlock∧some k_≠(v22:Value).ownBlock∧some k_≠(v23:Value).ownBlock) v525 t521)
  (h22:Kd.R k58 58 wc w.heap.size (fun k_=>some k_≠((.slice Ao t472.length co):Value).ownBlock∧some k_≠(v480:Value).ownBlock∧some k_≠(v488:Value).ownBlock∧some k_≠(v497:Value).ownBlock∧some k_≠(v499:Value).ownBlock∧some k_≠(v506:Value).ownBlock∧some k_≠(v514:Value).ownBlock∧some k_≠(v523:Value).ownBlock∧some k_≠(v525:Value).ownBlock∧some k_≠(v23:Value).ownBlock) v22 x22)
  (h23:Kd.R k58 58 wc w.heap.size (fun k_=>some k_≠((.slice Ao t472.length co):Value).ownBlock∧some k_≠(v480:Value).ownBlock∧some k_≠(v488:Value).ownBlock∧some k_≠(v497:Value).ownBlock∧some k_≠(v499:Value).ownBlock∧some k_≠(v506:Value).ownBlock∧some k_≠(v514:Value).ownBlock∧some k_≠(v523:Value).ownBlock∧some k_≠(v525:Value).ownBlock∧some k_≠(v22:Value).ownBlock) v23 x23)
  (h10:Kd.R k58 58 wc w.heap.size (fun k_=>some k_≠((.slice Ao t472.length co):Value).ownBlock∧some k_≠(v488:Value).ownBlock∧some k_≠(v497:Value).ownBlock∧some k_≠(v499:Value).ownBlock∧some k_≠(v506:Value).ownBlock∧some k_≠(v514:Value).ownBlock∧some k_≠(v523:Value).ownBlock∧some k_≠(v525:Value).ownBlock∧some k_≠(v22:Value).ownBlock∧some k_≠(v23:Value).ownBlock) v480 t479)
  (h11:Kd.R k58 58 wc w.heap.size (fun k_=>some k_≠((.slice Ao t472.length co):Value).ownBlock∧some k_≠(v480:Value).ownBlock∧some k_≠(v497:Value).ownBlock∧some k_≠(v499:Value).ownBlock∧some k_≠(v506:Value).ownBlock∧some k_≠(v514:Value).ownBlock∧some k_≠(v523:Value).ownBlock∧some k_≠(v525:Value).ownBlock∧some k_≠(v22:Value).ownBlock∧some k_≠(v23:Value).ownBlock) v488 t486)
  (h13:Kd.R k58 58 wc w.heap.size (fun k_=>some k_≠((.slice Ao t472.length co):Value).ownBlock∧some k_≠(v480:Value).ownBlock∧some k_≠(v488:Value).ownBlock∧some k_≠(v499:Value).ownBlock∧some k_≠(v506:Value).ownBlock∧some k_≠(v514:Value).ownBlock∧some k_≠(v523:Value).ownBlock∧some k_≠(v525:Value).ownBlock∧some k_≠(v22:Value).ownBlock∧some k_≠(v23:Value).ownBlock) v497 t494)
  (h14:Kd.R k58 58 wc w.heap.size (fun k_=>some k_≠((.slice Ao t472.length co):Value).ownBlock∧some k_≠(v480:Value).ownBlock∧some k_≠(v488:Value).ownBlock∧some k_≠(v497:Value).ownBlock∧some k_≠(v506:Value).ownBlock∧some k_≠(v514:Value).ownBlock∧some k_≠(v523:Value).ownBlock∧some k_≠(v525:Value).ownBlock∧some k_≠(v22:Value).ownBlock∧some k_≠(v23:Value).ownBlock) v499 t495)
  (hB:Below w.heap.size w wc) (hlens:copselaw7_LeafNew.lens k l0_0 t472 [t505,t512,t520,t521,x22,x23,t479,t486,t494,t495]) :
  let Q':=bodyPost Tryd.prog Tryd.f10 fun e w'=>e=.returned (.bool true)∧Below w.heap.size w w'
  Code.wp Tryd.prog copselaw7_LeafNew.code Q' ⟨(u0::.pointer (some ⟨gb,0,none⟩)::u2::u3::u4::u5::u6::u7::.slice Ao t472.length co::.int .i64 (l0_0.length:Int)::v480::v488::u12::v497::v499::u15::v506::v514::u18::v523::v525::u21::v22::v23::u24::u25::u26::u27::u28::u29::u30::u31::u32::u33::u34::u35::u36::u37::u38::u39::u40::u41::u42::u43::u44::u45::u46::u47::u48::u49::u50::u51::u52::u53::u54::u55::u56::u57::u58::u59::u60::u61::u62::u63::u64::u65::u66::u67::u68::u69::u70::u71::u72::u73::u74::u75::u76::u77::u78::u79::u80::u81::u82::u83::u84::u85::u86::u87::u88::u89::u90::u91::u92::u93::u94::u95::u96::u97::u98::u99::u100::u101::u102::u103::u104::u105::u106::u107::u108::u109::u110::u111::u112::u113::u114::u115::u116::u117::u118::u119::u120::u121::u122::u123::u124::u125::u126::u127::u128::u129::u130::u131::u132::u133::u134::u135::u136::u137::u138::u139::u140::u141::u142::u143::u144::u145::u146::u147::u148::u149::u150::u151::u152::u153::u154::u155::u156::u157::u158::u159::u160::u161::u162::u163::u164::u165::u166::u167::u168::u169::u170::u171::u172::u173::u174::u175::u176::u177::u178::u179::u180::u181::u182::u183::u184::u185::u186::u187::u188::u189::u190::u191::u192::u193::u194::u195::u196::u197::u198::u199::u200::u201::u202::u203::u204::u205::u206::u207::u208::u209::u210::u211::u212::u213::u214::u215::u216::u217::u218::u219::u220::u221::u222::u223::u224::u225::u226::u227::u228::u229::u230::u231::u232::u233::u234::u235::u236::u237::u238::u239::u240::u241::u242::u243::u244::u245::u246::u247::u248::u249::u250::u251::u252::u253::u254::u255::u256::u257::u258::u259::u260::u261::u262::u263::u264::u265::u266::u267::u268::u269::u270::u271::u272::[]).toArray,[]⟩ wc:=by
 intro Q'
 delta copselaw7_LeafNew.code Tryd.f10
 dsimp only [Option.getD,seqTail]
 obtain⟨A16,c16,e16⟩:=Kd.R_slice h16
 subst e16
 obtain⟨A17,c17,e17⟩:=Kd.R_slice h17
 subst e17
 obtain⟨A19,c19,e19⟩:=Kd.R_slice h19
 subst e19
 obtain⟨A20,c20,e20⟩:=Kd.R_slice h20
 subst e20
 obtain⟨A22,c22,e22⟩:=Kd.R_slice h22
 subst e22
 obtain⟨A23,c23,e23⟩:=Kd.R_slice h23
 subst e23
 obtain⟨A10,c10,e10⟩:=Kd.R_slice h10
 subst e10
 obtain⟨A11,c11,e11⟩:=Kd.R_slice h11
 subst e11
 obtain⟨A13,c13,e13⟩:=Kd.R_slice h13
 subst e13
 obtain⟨A14,c14,e14⟩:=Kd.R_slice h14
 subst e14
 have HL:=Aside0.mk hlens
 clear hlens
 obtain⟨A,n,c,L,Z,y,HF,HQ⟩ : ∃ A n c L Z y,Rows11 k l0_0 t472 A n c L Z y (.slice Ao t472.length co)∧RowsP w (wc.alloc (.cells #[.slice Ao l0_0.length co,.slice A16 t505.length c16,.slice A17 t512.length c17,.slice A19 t520.length c19,.slice A20 t521.length c20,.slice A22 x22.length c22,.slice A23 x23.length c23,.slice A10 t479.length c10,.slice A11 t486.length c11,.slice A13 t494.length c13,.slice A14 t495.length c14] 22)) ⟨wc.heap.size,0,none⟩ 11 A n c L Z y:=by
  have hle:=HL.out.le
  have htop:=HL.out.top
  have hroom:=HL.out.room
  have hn : ∀ i,i<11→(fun i=>([l0_0.length,t505.length,t512.length,t520.length,t521.length,x22.length,x23.length,t479.length,t486.length,t494.length,t495.length]:List _).getD i 0) i≤((fun i=>([t472,t505,t512,t520,t521,x22,x23,t479,t486,t494,t495]:List _).getD i []) i).length:=fun i hi=>by
   rcases eleven hi with rfl|rfl|rfl|rfl|rfl|rfl|rfl|rfl|rfl|rfl|rfl
   ·
    exact hle
   all_goals exact Nat.le_refl _
  have hget : ∀ i,i<11→∀ q,q<(fun i=>([l0_0.length,t505.length,t512.length,t520.length,t521.length,x22.length,x23.length,t479.length,t486.length,t494.length,t495.length]:List _).getD i 0) i→((fun i=>([t472,t505,t512,t520,t521,x22,x23,t479,t486,t494,t495]:List _).getD i []) i)[q]?=some (((fun i=>([t472,t505,t512,t520,t521,x22,x23,t479,t486,t494,t495]:List _).getD i []) i).getD q z58):=fun i hi q hq=>by
   rw[List.getD_eq_getElem?_getD,List.getElem?_eq_getElem (Nat.lt_of_lt_of_le hq (hn i hi))]
   rfl
  refine ⟨(fun i=>([Ao,A16,A17,A19,A20,A22,A23,A10,A11,A13,A14]:List _).getD i none),(fun i=>([l0_0.length,t505.length,t512.length,t520.length,t521.length,x22.length,x23.length,t479.length,t486.length,t494.length,t495.length]:List _).getD i 0),(fun i=>([co,c16,c17,c19,c20,c22,c23,c10,c11,c13,c14]:List _).getD i 0),(fun i=>([.slice Ao t472.length co,.slice A16 t505.length c16,.slice A17 t512.length c17,.slice A19 t520.length c19,.slice A20 t521.length c20,.slice A22 x22.length c22,.slice A23 x23.length c23,.slice A10 t479.length c10,.slice A11 t486.length c11,.slice A13 t494.length c13,.slice A14 t495.length c14]:List _).getD i (.slice none 0 0)),(fun i=>([t472,t505,t512,t520,t521,x22,x23,t479,t486,t494,t495]:List _).getD i []),fun i q=>((fun i=>([t472,t505,t512,t520,t521,x22,x23,t479,t486,t494,t495]:List _).getD i []) i).getD q z58,⟨rfl,rfl,rfl,fun i h1 hi=>?_,fun i h1 hi=>?_,fun i hi=>?_,hget,fun i h1 hi=>?_,Nat.le_trans hle htop⟩,rows_start _ (fun i hi=>?_) (fun i hi=>?_) (fun i hi=>?_) hn (fun i hi=>?_) hget (fun i j hi hj hne b=>?_) hB⟩
  ·
   rcases eleven hi with rfl|rfl|rfl|rfl|rfl|rfl|rfl|rfl|rfl|rfl|rfl <;> first|rfl|exact absurd h1 (by decide)
  ·
   rcases eleven hi with rfl|rfl|rfl|rfl|rfl|rfl|rfl|rfl|rfl|rfl|rfl <;> first|rfl|exact absurd h1 (by decide)
  ·
   rcases eleven hi with rfl|rfl|rfl|rfl|rfl|rfl|rfl|rfl|rfl|rfl|rfl
   ·
    cases Ao <;> rfl
   all_goals rfl
  ·
   rcases eleven hi with rfl|rfl|rfl|rfl|rfl|rfl|rfl|rfl|rfl|rfl|rfl
   ·
    exact absurd h1 (by decide)
   all_goals exact hroom _ (by simp)
  ·
   rcases eleven hi with rfl|rfl|rfl|rfl|rfl|rfl|rfl|rfl|rfl|rfl|rfl <;> rfl
  ·
   rcases eleven hi with rfl|rfl|rfl|rfl|rfl|rfl|rfl|rfl|rfl|rfl|rfl
   ·
    exact Kd.R_mono h8 (fun _ _=>trivial)
   ·
    exact Kd.R_mono h16 (fun _ _=>trivial)
   ·
    exact Kd.R_mono h17 (fun _ _=>trivial)
   ·
    exact Kd.R_mono h19 (fun _ _=>trivial)
   ·
    exact Kd.R_mono h20 (fun _ _=>trivial)
   ·
    exact Kd.R_mono h22 (fun _ _=>trivial)
   ·
    exact Kd.R_mono h23 (fun _ _=>trivial)
   ·
    exact Kd.R_mono h10 (fun _ _=>trivial)
   ·
    exact Kd.R_mono h11 (fun _ _=>trivial)
   ·
    exact Kd.R_mono h13 (fun _ _=>trivial)
   ·
    exact Kd.R_mono h14 (fun _ _=>trivial)
  ·
   rcases eleven hi with rfl|rfl|rfl|rfl|rfl|rfl|rfl|rfl|rfl|rfl|rfl
   ·
    cases Ao <;> rfl
   all_goals rfl
  ·
   rcases eleven hi with rfl|rfl|rfl|rfl|rfl|rfl|rfl|rfl|rfl|rfl|rfl <;> exact ⟨_,_,rfl⟩
  ·
   intro hb_
   rcases eleven hi with rfl|rfl|rfl|rfl|rfl|rfl|rfl|rfl|rfl|rfl|rfl
   ·
    obtain⟨q10,q11,q13,q14,q16,q17,q19,q20,q22,q23⟩:=h8.1 b hb_
    rcases eleven hj with rfl|rfl|rfl|rfl|rfl|rfl|rfl|rfl|rfl|rfl|rfl
    ·
     exact absurd rfl hne
    ·
     exact fun e_=>q16 e_.symm
    ·
     exact fun e_=>q17 e_.symm
    ·
     exact fun e_=>q19 e_.symm
    ·
     exact fun e_=>q20 e_.symm
    ·
     exact fun e_=>q22 e_.symm
    ·
     exact fun e_=>q23 e_.symm
    ·
     exact fun e_=>q10 e_.symm
    ·
     exact fun e_=>q11 e_.symm
    ·
     exact fun e_=>q13 e_.symm
    ·
     exact fun e_=>q14 e_.symm
   ·
    obtain⟨q8,q10,q11,q13,q14,q17,q19,q20,q22,q23⟩:=h16.1 b hb_
    rcases eleven hj with rfl|rfl|rfl|rfl|rfl|rfl|rfl|rfl|rfl|rfl|rfl
    ·
     exact fun e_=>q8 e_.symm
    ·
     exact absurd rfl hne
    ·
     exact fun e_=>q17 e_.symm
    ·
     exact fun e_=>q19 e_.symm
    ·
     exact fun e_=>q20 e_.symm
    ·
     exact fun e_=>q22 e_.symm
    ·
     exact fun e_=>q23 e_.symm
    ·
     exact fun e_=>q10 e_.symm
    ·
     exact fun e_=>q11 e_.symm
    ·
     exact fun e_=>q13 e_.symm
    ·
     exact fun e_=>q14 e_.symm
   ·
    obtain⟨q8,q10,q11,q13,q14,q16,q19,q20,q22,q23⟩:=h17.1 b hb_
    rcases eleven hj with rfl|rfl|rfl|rfl|rfl|rfl|rfl|rfl|rfl|rfl|rfl
    ·
     exact fun e_=>q8 e_.symm
    ·
     exact fun e_=>q16 e_.symm
    ·
     exact absurd rfl hne
    ·
     exact fun e_=>q19 e_.symm
    ·
     exact fun e_=>q20 e_.symm
    ·
     exact fun e_=>q22 e_.symm
    ·
     exact fun e_=>q23 e_.symm
    ·
     exact fun e_=>q10 e_.symm
    ·
     exact fun e_=>q11 e_.symm
    ·
     exact fun e_=>q13 e_.symm
    ·
     exact fun e_=>q14 e_.symm
   ·
    obtain⟨q8,q10,q11,q13,q14,q16,q17,q20,q22,q23⟩:=h19.1 b hb_
    rcases eleven hj with rfl|rfl|rfl|rfl|rfl|rfl|rfl|rfl|rfl|rfl|rfl
    ·
     exact fun e_=>q8 e_.symm
    ·
     exact fun e_=>q16 e_.symm
    ·
     exact fun e_=>q17 e_.symm
    ·
     exact absurd rfl hne
    ·
     exact fun e_=>q20 e_.symm
    ·
     exact fun e_=>q22 e_.symm
    ·
     exact fun e_=>q23 e_.symm
    ·
     exact fun e_=>q10 e_.symm
    ·
     exact fun e_=>q11 e_.symm
    ·
     exact fun e_=>q13 e_.symm
    ·
     exact fun e_=>q14 e_.symm
   ·
    obtain⟨q8,q10,q11,q13,q14,q16,q17,q19,q22,q23⟩:=h20.1 b hb_
    rcases eleven hj with rfl|rfl|rfl|rfl|rfl|rfl|rfl|rfl|rfl|rfl|rfl
    ·
     exact fun e_=>q8 e_.symm
    ·
     exact fun e_=>q16 e_.symm
    ·
     exact fun e_=>q17 e_.symm
    ·
     exact fun e_=>q19 e_.symm
    ·
     exact absurd rfl hne
    ·
     exact fun e_=>q22 e_.symm
    ·
     exact fun e_=>q23 e_.symm
    ·
     exact fun e_=>q10 e_.symm
    ·
     exact fun e_=>q11 e_.symm
    ·
     exact fun e_=>q13 e_.symm
    ·
     exact fun e_=>q14 e_.symm
   ·
    obtain⟨q8,q10,q11,q13,q14,q16,q17,q19,q20,q23⟩:=h22.1 b hb_
    rcases eleven hj with rfl|rfl|rfl|rfl|rfl|rfl|rfl|rfl|rfl|rfl|rfl
    ·
     exact fun e_=>q8 e_.symm
    ·
     exact fun e_=>q16 e_.symm
    ·
     exact fun e_=>q17 e_.symm
    ·
     exact fun e_=>q19 e_.symm
    ·
     exact fun e_=>q20 e_.symm
    ·
     exact absurd rfl hne
    ·
     exact fun e_=>q23 e_.symm
    ·
     exact fun e_=>q10 e_.symm
    ·
     exact fun e_=>q11 e_.symm
    ·
     exact fun e_=>q13 e_.symm
    ·
     exact fun e_=>q14 e_.symm
   ·
    obtain⟨q8,q10,q11,q13,q14,q16,q17,q19,q20,q22⟩:=h23.1 b hb_
    rcases eleven hj with rfl|rfl|rfl|rfl|rfl|rfl|rfl|rfl|rfl|rfl|rfl
    ·
     exact fun e_=>q8 e_.symm
    ·
     exact fun e_=>q16 e_.symm
    ·
     exact fun e_=>q17 e_.symm
    ·
     exact fun e_=>q19 e_.symm
    ·
     exact fun e_=>q20 e_.symm
    ·
     exact fun e_=>q22 e_.symm
    ·
     exact absurd rfl hne
    ·
     exact fun e_=>q10 e_.symm
    ·
     exact fun e_=>q11 e_.symm
    ·
     exact fun e_=>q13 e_.symm
    ·
     exact fun e_=>q14 e_.symm
   ·
    obtain⟨q8,q11,q13,q14,q16,q17,q19,q20,q22,q23⟩:=h10.1 b hb_
    rcases eleven hj with rfl|rfl|rfl|rfl|rfl|rfl|rfl|rfl|rfl|rfl|rfl
    ·
     exact fun e_=>q8 e_.symm
    ·
     exact fun e_=>q16 e_.symm
    ·
     exact fun e_=>q17 e_.symm
    ·
     exact fun e_=>q19 e_.symm
    ·
     exact fun e_=>q20 e_.symm
    ·
     exact fun e_=>q22 e_.symm
    ·
     exact fun e_=>q23 e_.symm
    ·
     exact absurd rfl hne
    ·
     exact fun e_=>q11 e_.symm
    ·
     exact fun e_=>q13 e_.symm
    ·
     exact fun e_=>q14 e_.symm
   ·
    obtain⟨q8,q10,q13,q14,q16,q17,q19,q20,q22,q23⟩:=h11.1 b hb_
    rcases eleven hj with rfl|rfl|rfl|rfl|rfl|rfl|rfl|rfl|rfl|rfl|rfl
    ·
     exact fun e_=>q8 e_.symm
    ·
     exact fun e_=>q16 e_.symm
    ·
     exact fun e_=>q17 e_.symm
    ·
     exact fun e_=>q19 e_.symm
    ·
     exact fun e_=>q20 e_.symm
    ·
     exact fun e_=>q22 e_.symm
    ·
     exact fun e_=>q23 e_.symm
    ·
     exact fun e_=>q10 e_.symm
    ·
     exact absurd rfl hne
    ·
     exact fun e_=>q13 e_.symm
    ·
     exact fun e_=>q14 e_.symm
   ·
    obtain⟨q8,q10,q11,q14,q16,q17,q19,q20,q22,q23⟩:=h13.1 b hb_
    rcases eleven hj with rfl|rfl|rfl|rfl|rfl|rfl|rfl|rfl|rfl|rfl|rfl
    ·
     exact fun e_=>q8 e_.symm
    ·
     exact fun e_=>q16 e_.symm
    ·
     exact fun e_=>q17 e_.symm
    ·
     exact fun e_=>q19 e_.symm
    ·
     exact fun e_=>q20 e_.symm
    ·
     exact fun e_=>q22 e_.symm
    ·
     exact fun e_=>q23 e_.symm
    ·
     exact fun e_=>q10 e_.symm
    ·
     exact fun e_=>q11 e_.symm
    ·
     exact absurd rfl hne
    ·
     exact fun e_=>q14 e_.symm
   ·
    obtain⟨q8,q10,q11,q13,q16,q17,q19,q20,q22,q23⟩:=h14.1 b hb_
    rcases eleven hj with rfl|rfl|rfl|rfl|rfl|rfl|rfl|rfl|rfl|rfl|rfl
    ·
     exact fun e_=>q8 e_.symm
    ·
     exact fun e_=>q16 e_.symm
    ·
     exact fun e_=>q17 e_.symm
    ·
     exact fun e_=>q19 e_.symm
    ·
     exact fun e_=>q20 e_.symm
    ·
     exact fun e_=>q22 e_.symm
    ·
     exact fun e_=>q23 e_.symm
    ·
     exact fun e_=>q10 e_.symm
    ·
     exact fun e_=>q11 e_.symm
    ·
     exact fun e_=>q13 e_.symm
    ·
     exact absurd rfl hne
 have q60:((l0_0.length:Int):Int)≤((t472.length:Int):Int):=Int.ofNat_le.2 HL.out.le
 have c60b0:=eq_true (Int.natCast_nonneg l0_0.length:0≤(l0_0.length:Int))
 have c61b0:=eq_true q60
 obtain⟨i060,hi060,_,hsz60,_⟩:=info_parts info58
 have hroom60:t472.length≤co:=(Kd.R_reads' h8).2.1
 have hcut60:=cut_to (P:=Tryd.prog) 22 58 .i64 Tryd.underlying22 hi060 Ao t472.length co (l0_0.length:Int) (Int.natCast_nonneg _) q60 hroom60
 rw[Int.toNat_natCast] at hcut60
 clear hsz60 hi060 hroom60
 replace q60:=eq_true q60
 have HQ0:=Aside0.mk HQ
 have HF0:=Aside0.mk HF
 clear HQ HF hB h8 h16 h17 h19 h20 h22 h23 h10 h11 h13 h14
 go_wp2
 generalize (⟨wc.heap.size,0,none⟩:Addr)=ga at HQ0 ⊢
 go_loopg [25] 12 (fun kq v25 w'=>∃ (i:Nat) (Z1:Nat→List S58) (y1:Nat→Nat→S58),v25=.int .i64 (i:Int)∧Aside0 (i+kq=12∧i≤11)∧Aside0 (RowsP w w' ga 11 A n c L Z1 y1)∧Aside0 (Ext n Z Z1 y1)∧Aside0 (∀ j,j<i→∀ q,q<n j→y1 j q=ownP k j))
 case atStart=>exact ⟨0,Z,y,rfl,⟨by omega,by omega⟩,HQ0,⟨fun _=>rfl,HF0.out.get,fun _ _ _ _=>rfl⟩,⟨fun j hj=>absurd hj (Nat.not_lt_zero _)⟩⟩
 case round=>
  obtain⟨i,Z1,y1,rfl,HA,HQ1,HE1,HM1⟩:=hrel
  clear HQ0 hcut60 q60 c60b0 c61b0
  cases gk with
  |zero=>exact absurd HA.out (by omega)
  |succ k1=>
   by_cases c2:i<11
   ·
    have c2b:decide ((i:Int)<11)=true:=decide_eq_true (by omega)
    have c2d:decide (i<11)=true:=decide_eq_true c2
    go_wp2
    go_loopg [26] (n i+1) (fun kq v26 w'=>∃ (m:Nat) (Z2:Nat→List S58) (y2:Nat→Nat→S58),v26=.int .i64 (m:Int)∧Aside0 (m+kq=n i+1∧m≤n i)∧Aside0 (RowsP w w' ga 11 A n c L Z2 y2)∧Aside0 (Ext n Z Z2 y2)∧Aside0 (∀ j,j<i→∀ q,q<n j→y2 j q=ownP k j)∧Aside0 (∀ q,q<m→y2 i q=ownP k i))
    case atStart=>exact ⟨0,Z1,y1,rfl,⟨by omega,by omega⟩,HQ1,HE1,HM1,⟨fun q hq=>absurd hq (Nat.not_lt_zero _)⟩⟩
    case round=>
     obtain⟨m,Z2,y2,rfl,HA2,HQ2,HE2,HM2,HP2⟩:=hrel
     clear HQ1 HE1 HM1
     cases gk with
     |zero=>exact absurd HA2.out (by omega)
     |succ k2=>
      have hcell:wr.cell? ((ga:Addr).add i)=some (.slice (A i) (n i) (c i)):=HQ2.out.cell i c2
      have hpb:=eq_true (Int.natCast_nonneg i:0≤(i:Int))
      have hqb:=eq_true (show (i:Int)<(11:Int) by omega)
      by_cases c3:m<n i
      ·
       obtain⟨c3b,c3d⟩:=natlt_b c3
       obtain⟨g,eA,hx0_,hx1_⟩:=HQ2.out.view i c2 m c3
       clear hx0_ hx1_
       rw[eA] at hcell
       have EA:=Aside0.mk eA
       clear eA
       go_wp2
       have HH:=Aside0.mk (HQ2.out.step (below_drew (Below.refl _ _)))
       have hcell2:=(below_drew (Below.refl wr.heap.size wr)).cell (World.block_lt_of_cell? wr _ hcell) |>.trans hcell
       refine start_ (n:=9) (S:=fun w'=>w'.cell? ((ga:Addr).add i)=some (.slice (some ⟨g,0,none⟩) (n i) (c i))) (ds:=[8]) #[false,false,false,false,false,false,false,false,false] (by kernel_rfl) rfl rfl hcell2 (fun hHeld=>?_);refine with_tabW copselaw7_LeafNew.tab28 copselaw7_LeafNew.bits28 (fun HT_ HW_=>?_)
       clear hcell
       generalize wr.drew=w7 at HH hcell2 hHeld ⊢
       refine pure_ (i:=0) (N:=some 175) (v:=?_) (a':=?_) #[true,false,false,false,false,false,false,false,false] rfl rfl (any_of HT_.out (by kernel_rfl)) (fun _ _ _ h=>h) (Or.inl ⟨by rfl,?_⟩) ?_ ?_
       rotate_left
       ·
        intro w'
        go_simp
        with_reducible rfl
       rotate_left
       ·
        simp only[pt_]
        rfl
       refine pure_ (i:=1) (N:=some 176) (v:=?_) (a':=?_) #[true,true,false,false,false,false,false,false,false] rfl rfl (any_of HT_.out (by kernel_rfl)) (fun _ _ _ h=>h) (Or.inl ⟨by rfl,?_⟩) ?_ ?_
       rotate_left
       ·
        intro w'
        go_simp
        with_reducible rfl
       rotate_left
       ·
        simp only[pt_]
        rfl
       refine pure_ (i:=2) (N:=some 177) (v:=?_) (a':=?_) #[true,true,true,false,false,false,false,false,false] rfl rfl (any_of HT_.out (by kernel_rfl)) (fun _ _ _ h=>h) (Or.inl ⟨by rfl,?_⟩) ?_ ?_
       rotate_left
       ·
        intro w'
        go_simp
        with_reducible rfl
       rotate_left
       ·
        simp only[pt_]
        rfl
       refine take_ (i:=3) (N:=some 178) (v:=?_) (a':=?_) #[true,true,true,true,false,false,false,false,false] rfl rfl (take_ofW HT_.out HW_.out (by kernel_rfl)) (fun _ _ _ h=>h) (Or.inl ⟨by rfl,?_⟩) hHeld ?_ ?_
       rotate_left
       ·
        rintro w' s0
        go_simp
        with_reducible rfl
       rotate_left
       ·
        simp only[pt_]
        rfl
       refine pure_ (i:=4) (N:=some 179) (v:=?_) (a':=?_) #[true,true,true,true,true,false,false,false,false] rfl rfl (any_of HT_.out (by kernel_rfl)) (fun _ _ _ h=>h) (Or.inl ⟨by rfl,?_⟩) ?_ ?_
       rotate_left
       ·
        intro w'
        go_simp
        with_reducible rfl
       rotate_left
       ·
        simp only[pt_]
        rfl
       refine pure_ (i:=5) (N:=some 180) (v:=?_) (a':=?_) #[true,true,true,true,true,true,false,false,false] rfl rfl (any_of HT_.out (by kernel_rfl)) (fun _ _ _ h=>h) (Or.inl ⟨by rfl,?_⟩) ?_ ?_
       rotate_left
       ·
        intro w'
        go_simp
        with_reducible rfl
       rotate_left
       ·
        simp only[pt_]
        rfl
       refine one_ (i:=6) (N:=some 181) #[true,true,true,true,true,true,true,false,false] rfl rfl (one_of HT_.out (by kernel_rfl)) (by decide) (fun K hK=>?_)
       refine goes_ Tryd.func31 (by kernel_rfl) rfl #[.int .i64 (i:Int)] (by rfl) rfl rfl (by (try simp only[List.map_toArray,List.map_cons,List.map_nil]);first|done|rfl) ?_
       with_reducible refine (copselaw7_own.calls k (i:Int) _ _ _ (HL.out.own i c2)).mono ?_
       rintro e_ w8 ⟨rfl,hb⟩
       refine ⟨_,rfl,?_⟩
       have HH8:=Aside0.mk (HH.out.step hb)
       have hcell8:=(hb.cell (World.block_lt_of_cell? w7 _ hcell2)).trans hcell2
       clear hb
       refine hK.out _ _ hcell8 (fun hHeld=>?_)
       clear hK K
       refine norm_ (a':=?_) ?_ ?_
       rotate_left
       ·
        show Act.put _ (some 181) _=_
        simp only[pt_]
        rfl
       have hs8:(L i).ownBlock=some g:=(HF0.out.share i c2).symm.trans ((own_some _ _ _ _).2 ⟨_,EA.out,rfl⟩)
       obtain⟨hx5_0,hx5_1⟩:w8.cell? ⟨g,m*2,none⟩=some (.string (y2 i m).f0)∧w8.cell? ⟨g,m*2+1,none⟩=some (.string (y2 i m).f1):=by
        obtain⟨g',e',h1,h2⟩:=HH8.out.view i c2 m c3
        obtain rfl:g'=g:=by have:=EA.out.symm.trans e';injection this with e1;injection e1 with e1;exact e1.symm
        exact ⟨h1,h2⟩
       obtain⟨hf5_0,hf5_1⟩:w8.frozen? ⟨g,m*2,none⟩=false∧w8.frozen? ⟨g,m*2+1,none⟩=false:=by
        obtain⟨cs_,hcs_⟩:=Kd.R_block (HH8.out.own i c2) hs8
        exact ⟨blk_frozen hcs_ _,blk_frozen hcs_ _⟩
       have p5:=eq_true (Int.natCast_nonneg m:0≤(m:Int))
       have q5:=eq_true (show (m:Int)<(n i:Int) by omega)
       have HP:=Aside0.mk (HH8.out.put c2 c3 EA.out hs8 (ownP k i))
       refine pure_ (i:=7) (N:=some 182) (v:=?_) (a':=?_) #[true,true,true,true,true,true,true,true,false] rfl rfl (any_of HT_.out (by kernel_rfl)) (fun _ _ _ h=>h) (Or.inl ⟨by rfl,?_⟩) ?_ ?_
       rotate_left
       ·
        intro w'
        go_simp
        with_reducible rfl
       rotate_left
       ·
        simp only[pt_]
        rfl
       refine last_ (i:=8) (N:=none) #[true,true,true,true,true,true,true,true,true] rfl rfl (one_of HT_.out (by kernel_rfl)) (by decide) (fun K hK=>?_)
       refine skip_ (w1:=?_) (by rfl) rfl ?_ ?_
       rotate_left
       ·
        go_simp
        rfl
       refine hK.out _ _ ?_
       clear hK K
       refine done_ (done_of HT_.out (by kernel_rfl)) ?_
       try go_wp2
       go_roundg k2
       case measure=>omega
       case rel=>
        refine ⟨m+1,_,_,(by have:=HA2.out;have:=HL.out.top;have:=HF0.out.room i;have:=HF0.out.room0;have:=small_ HF0.out c2;first|rfl|rw[wnat (by omega)]|exact congrArg _ (wnat (by omega))),⟨by have:=HA2.out.1;omega,by omega⟩,HP,⟨HE2.out.put i m c3 _⟩,⟨fun j hj q hq=>?_⟩,⟨fun q hq=>?_⟩⟩
        ·
         rw[if_neg (by omega)];exact HM2.out j hj q hq
        ·
         rw[if_pos rfl]
         by_cases e:q=m
         ·
          subst e;rw[if_pos rfl]
         ·
          rw[if_neg e];exact HP2.out q (by omega)
      ·
       obtain⟨c3b,c3d⟩:=natge_b c3
       go_wp2
       go_roundg k1
       case measure=>omega
       case rel=>
        refine ⟨i+1,Z2,y2,(by first|rfl|rw[wnat (by omega)]|exact congrArg _ (wnat (by omega))),⟨by have:=HA.out.1;omega,by omega⟩,HQ2,HE2,⟨fun j hj q hq=>?_⟩⟩
        by_cases e:j=i
        ·
         subst e;exact HP2.out q (by have:=HA2.out;omega)
        ·
         exact HM2.out j (by omega) q hq
   ·
    have c2b:decide ((i:Int)<11)=false:=decide_eq_false (by omega)
    have c2d:decide (i<11)=false:=decide_eq_false c2
    have HMa:=Aside0.mk (show ∀ j,j<11→∀ q,q<n j→y1 j q=ownP k j from fun j hj=>HM1.out j (by omega))
    clear HM1
    go_wp2
    go_loopg [27,28] 12 (fun kq v27 v28 w'=>∃ (i:Nat) (L2:Nat→Value) (Z2:Nat→List S58),v28=.int .i64 (i:Int)∧Aside0 (i+kq=13∧1≤i∧i≤11)∧Aside0 (RowsP w w' ga 11 A n c L2 Z2 y1)∧Aside0 (LongP w w' ga 11 A n c L2 v27 (i - 1))∧Aside0 (Grown k n L L2 Z1 Z2 i))
    case atStart=>exact ⟨1,L,Z1,rfl,⟨by omega,by omega,by omega⟩,HQ1,⟨⟨rfl,.inl ⟨rfl,rfl⟩⟩,fun b hb=>by cases hb⟩,⟨fun j h1 h2=>absurd h2 (by omega),fun j _ _=>⟨rfl,rfl⟩⟩⟩
    case round=>
     obtain⟨i,L2,Z2,rfl,HA,HQ2,HLg2,HG2⟩:=hrel
     clear HQ1 c2b c2d
     cases gk with
     |zero=>exact absurd HA.out (by omega)
     |succ k1=>
      by_cases c2:i<11
      ·
       have c2b:decide ((i:Int)<11)=true:=decide_eq_true (by omega)
       have c2d:decide (i<11)=true:=decide_eq_true c2
       have hcell:wr.cell? ((ga:Addr).add i)=some (.slice (A i) (n i) (c i)):=HQ2.out.cell i c2
       have hpb:=eq_true (Int.natCast_nonneg i:0≤(i:Int))
       have hqb:=eq_true (show (i:Int)<(11:Int) by omega)
       have hG3:GrownI k n L L2 Z1 Z2 i 0:=HG2.out.start HE1.out HMa.out HF0.out HA.out.2.1 c2
       have HG3:=Aside0.mk hG3
       have hLi:L2 i=.slice (A i) (n i) (c i):=((HG2.out.hi i c2 (.inr (Nat.le_refl _))).1).trans (HF0.out.val i HA.out.2.1 c2)
       have HLi:=Aside0.mk hLi
       clear hG3 hLi
       go_wp2
       go_loopg [29,30] 65 (fun kq v29 v30 w'=>∃ (m:Nat) (L3:Nat→Value) (Z3:Nat→List S58),v30=.int .i64 (m:Int)∧Aside0 (L3 i=v29)∧Aside0 (m+kq=65∧m≤64)∧Aside0 (RowsP w w' ga 11 A n c L3 Z3 y1)∧Aside0 (LongP w w' ga 11 A n c L3 u27 (i - 1))∧Aside0 (GrownI k n L L3 Z1 Z3 i m))
       case atStart=>exact ⟨0,L2,Z2,rfl,HLi,⟨by omega,by omega⟩,HQ2,HLg2,HG3⟩
       case round=>
        obtain⟨m,L3,Z3,rfl,HL3,HA3,HQ3,HLg3,HG4⟩:=hrel
        clear HQ2 HLg2 HG2 HG3 HLi hcell hpb hqb
        cases gk with
        |zero=>exact absurd HA3.out (by omega)
        |succ k2=>
         by_cases c3:m<64
         ·
          have c3b:decide ((m:Int)<64)=true:=decide_eq_true (by omega)
          have c3d:decide (m<64)=true:=decide_eq_true c3
          go_wp2_with (first|(go_at_call 31;refine (copselaw7_own.calls k (i:Int) _ _ _ (HL.out.own i c2)).mono ?_;rintro e_ w8 ⟨rfl,hb⟩;have HQ8:=Aside0.mk (HQ3.out.step hb);have HLg8:=Aside0.mk (HLg3.out.step hb);clear hb)|(at_builtin;have hal:=below_alloc (Below.refl w8.heap.size w8) (.cells #[.string (ownP k i).f0,.string (ownP k i).f1] 58);refine pair_more rfl (.tmp 197) (.tmp 200) 22 rfl Tryd.underlying22 info58 (HQ8.out.step hal) i c2 (ownP k i) HL3.out.symm w8.heap.size rfl ((blk_cell (heap_alloc_new w8 _) 0).trans rfl) ((blk_cell (heap_alloc_new w8 _) 1).trans rfl) (by have:=HG4.out.len;have:=HF0.out.room i HA.out.2.1 c2;omega) ?_;intro v' w9 row hq_ hg_ hr_ ht_;have HQ9:=Aside0.mk hq_;have HLg9:=Aside0.mk ((HLg8.out.step hal).more c2 (by have:=HA.out.2.1;omega) hg_ hr_ v' ht_);clear hq_ hg_ hr_ ht_ hal))
          go_roundg k2
          case measure=>omega
          case rel=>exact ⟨m+1,_,_,(by first|rfl|rw[wnat (by omega)]|exact congrArg _ (wnat (by omega))),⟨if_pos rfl⟩,⟨by have:=HA3.out.1;omega,by omega⟩,HQ9,HLg9,⟨HG4.out.more v'⟩⟩
         ·
          have c3b:decide ((m:Int)<64)=false:=decide_eq_false (by omega)
          have c3d:decide (m<64)=false:=decide_eq_false c3
          obtain⟨Az,cz,ez⟩:=Kd.R_slice (HQ3.out.own i c2)
          obtain rfl:=HL3.out.symm.trans ez
          have hal:=below_alloc (Below.refl wr.heap.size wr) (.cells #[.slice Az (Z3 i).length cz] 22)
          go_wp2_with (first|(at_builtin;refine long_more rfl (.tmp 202) (.tmp 204) 61 rfl Tryd.underlying61 info22 (HQ3.out.step hal) (HLg3.out.step hal) (i:=i) (by have:=HA.out.2.1;omega) c2 (by omega) rfl wr.heap.size rfl ((blk_cell (heap_alloc_new wr _) 0).trans (congrArg some ez.symm)) ?_;intro v' w9 hq_ hl_;have HQ9:=Aside0.mk hq_;have HLg9:=Aside0.mk hl_;clear hq_ hl_ hal))
          go_roundg k1
          case measure=>omega
          case rel=>exact ⟨i+1,L3,Z3,(by first|rfl|rw[wnat (by omega)]|exact congrArg _ (wnat (by omega))),⟨by have:=HA.out.1;omega,by omega,by omega⟩,HQ9,⟨by have:=HLg9.out;rwa [show i - 1+1=i+1 - 1 by have:=HA.out.2.1;omega] at this⟩,⟨HG4.out.done (by have:=HA3.out;omega)⟩⟩
      ·
       have c2b:decide ((i:Int)<11)=false:=decide_eq_false (by omega)
       have c2d:decide (i<11)=false:=decide_eq_false c2
       have hi11:i=11:=by have:=HA.out;omega
       subst hi11
       go_wp2
       go_loopg [31] 12 (fun kq v31 w'=>∃ (i2:Nat),v31=.int .i64 (i2:Int)∧Aside0 (i2+kq=12∧i2≤11)∧Aside0 (RowsP w w' ga 11 A n c L2 Z2 y1)∧Aside0 (LongP w w' ga 11 A n c L2 u27 (11 - 1)))
       case atStart=>exact ⟨0,rfl,⟨by omega,by omega⟩,HQ2,HLg2⟩
       case round=>
        obtain⟨i2,rfl,HA2,HQ3,HLg3⟩:=hrel
        clear HQ2 HLg2 c2b c2d
        cases gk with
        |zero=>exact absurd HA2.out (by omega)
        |succ k2=>
         by_cases c4:i2<11
         ·
          have c4b:decide ((i2:Int)<11)=true:=decide_eq_true (by omega)
          have c4d:decide (i2<11)=true:=decide_eq_true c4
          go_wp2
          go_loopg [32] (n i2+1) (fun kq v32 w'=>∃ (m:Nat),v32=.int .i64 (m:Int)∧Aside0 (m+kq=n i2+1∧m≤n i2)∧Aside0 (RowsP w w' ga 11 A n c L2 Z2 y1)∧Aside0 (LongP w w' ga 11 A n c L2 u27 (11 - 1)))
          case atStart=>exact ⟨0,rfl,⟨by omega,by omega⟩,HQ3,HLg3⟩
          case round=>
           obtain⟨m,rfl,HA3,HQ4,HLg4⟩:=hrel
           clear HQ3 HLg3
           cases gk with
           |zero=>exact absurd HA3.out (by omega)
           |succ k3=>
            have hcell:wr.cell? ((ga:Addr).add i2)=some (.slice (A i2) (n i2) (c i2)):=HQ4.out.cell i2 c4
            have hpb:=eq_true (Int.natCast_nonneg i2:0≤(i2:Int))
            have hqb:=eq_true (show (i2:Int)<(11:Int) by omega)
            by_cases c5:m<n i2
            ·
             obtain⟨c5b,c5d⟩:=natlt_b c5
             obtain⟨g,eA,hx0,hx1⟩:=HQ4.out.view i2 c4 m c5
             rw[eA] at hcell
             clear eA
             rw[HMa.out i2 c4 m c5] at hx0 hx1
             have p5:=eq_true (Int.natCast_nonneg m:0≤(m:Int))
             have q5:=eq_true (show (m:Int)<(n i2:Int) by omega)
             go_wp2
             have hd_:=below_drew (Below.refl wr.heap.size wr)
             have HH:=Aside0.mk (HQ4.out.step hd_)
             have HHL:=Aside0.mk (HLg4.out.step hd_)
             have hcell2:=(hd_.cell (World.block_lt_of_cell? wr _ hcell)).trans hcell
             have hy0:=(hd_.cell (World.block_lt_of_cell? wr _ hx0)).trans hx0
             have hy1:=(hd_.cell (World.block_lt_of_cell? wr _ hx1)).trans hx1
             clear hd_ hcell hx0 hx1
             refine start_ (n:=10) (S:=fun w'=>w'.cell? (ga.add i2)=some (.slice (some ⟨g,0,none⟩) (n i2) (c i2))∧w'.cell? ⟨g,m*2,none⟩=some (.string (ownP k i2).f0)∧w'.cell? ⟨g,m*2+1,none⟩=some (.string (ownP k i2).f1)) (ds:=[]) #[false,false,false,false,false,false,false,false,false,false] (by kernel_rfl) rfl rfl ⟨hcell2,hy0,hy1⟩ (fun hHeld=>?_);refine with_tabW copselaw7_LeafNew.tab45 copselaw7_LeafNew.bits45 (fun HT_ HW_=>?_)
             generalize wr.drew=w7 at HH HHL hcell2 hy0 hy1 hHeld ⊢
             refine pure_ (i:=0) (N:=some 221) (v:=?_) (a':=?_) #[true,false,false,false,false,false,false,false,false,false] rfl rfl (any_of HT_.out (by kernel_rfl)) (fun _ _ _ h=>h) (Or.inl ⟨by rfl,?_⟩) ?_ ?_
             rotate_left
             ·
              intro w'
              go_simp
              with_reducible rfl
             rotate_left
             ·
              simp only[pt_]
              rfl
             refine pure_ (i:=1) (N:=some 222) (v:=?_) (a':=?_) #[true,true,false,false,false,false,false,false,false,false] rfl rfl (any_of HT_.out (by kernel_rfl)) (fun _ _ _ h=>h) (Or.inl ⟨by rfl,?_⟩) ?_ ?_
             rotate_left
             ·
              intro w'
              go_simp
              with_reducible rfl
             rotate_left
             ·
              simp only[pt_]
              rfl
             refine pure_ (i:=2) (N:=some 223) (v:=?_) (a':=?_) #[true,true,true,false,false,false,false,false,false,false] rfl rfl (any_of HT_.out (by kernel_rfl)) (fun _ _ _ h=>h) (Or.inl ⟨by rfl,?_⟩) ?_ ?_
             rotate_left
             ·
              intro w'
              go_simp
              with_reducible rfl
             rotate_left
             ·
              simp only[pt_]
              rfl
             refine take_ (i:=3) (N:=some 224) (v:=?_) (a':=?_) #[true,true,true,true,false,false,false,false,false,false] rfl rfl (take_ofW HT_.out HW_.out (by kernel_rfl)) (fun _ _ _ h=>h) (Or.inl ⟨by rfl,?_⟩) hHeld ?_ ?_
             rotate_left
             ·
              rintro w' ⟨s0,s1,s2⟩
              go_simp
              with_reducible rfl
             rotate_left
             ·
              simp only[pt_]
              rfl
             refine pure_ (i:=4) (N:=some 225) (v:=?_) (a':=?_) #[true,true,true,true,true,false,false,false,false,false] rfl rfl (any_of HT_.out (by kernel_rfl)) (fun _ _ _ h=>h) (Or.inl ⟨by rfl,?_⟩) ?_ ?_
             rotate_left
             ·
              intro w'
              go_simp
              with_reducible rfl
             rotate_left
             ·
              simp only[pt_]
              rfl
             refine pure_ (i:=5) (N:=some 226) (v:=?_) (a':=?_) #[true,true,true,true,true,true,false,false,false,false] rfl rfl (any_of HT_.out (by kernel_rfl)) (fun _ _ _ h=>h) (Or.inl ⟨by rfl,?_⟩) ?_ ?_
             rotate_left
             ·
              intro w'
              go_simp
              with_reducible rfl
             rotate_left
             ·
              simp only[pt_]
              rfl
             refine take_ (i:=6) (N:=some 227) (v:=?_) (a':=?_) #[true,true,true,true,true,true,true,false,false,false] rfl rfl (take_ofW HT_.out HW_.out (by kernel_rfl)) (fun _ _ _ h=>h) (Or.inl ⟨by rfl,?_⟩) hHeld ?_ ?_
             rotate_left
             ·
              rintro w' ⟨s0,s1,s2⟩
              go_simp
              with_reducible rfl
             rotate_left
             ·
              simp only[pt_]
              rfl
             refine pure_ (i:=7) (N:=some 228) (v:=?_) (a':=?_) #[true,true,true,true,true,true,true,true,false,false] rfl rfl (any_of HT_.out (by kernel_rfl)) (fun _ _ _ h=>h) (Or.inl ⟨by rfl,?_⟩) ?_ ?_
             rotate_left
             ·
              intro w'
              go_simp
              with_reducible rfl
             rotate_left
             ·
              simp only[pt_]
              rfl
             refine one_ (i:=8) (N:=some 229) #[true,true,true,true,true,true,true,true,true,false] rfl rfl (one_of HT_.out (by kernel_rfl)) (by decide) (fun K hK=>?_)
             refine goes_ Tryd.func31 (by kernel_rfl) rfl #[.int .i64 (i2:Int)] (by rfl) rfl rfl (by (try simp only[List.map_toArray,List.map_cons,List.map_nil]);first|done|rfl) ?_
             with_reducible refine (copselaw7_own.calls k (i2:Int) _ _ _ (HL.out.own i2 c4)).mono ?_
             rintro e_ w8 ⟨rfl,hb⟩
             refine ⟨_,rfl,?_⟩
             have HH8:=Aside0.mk (HH.out.step hb)
             have HHL8:=Aside0.mk (HHL.out.step hb)
             refine hK.out _ _ ⟨(hb.cell (World.block_lt_of_cell? w7 _ hcell2)).trans hcell2,(hb.cell (World.block_lt_of_cell? w7 _ hy0)).trans hy0,(hb.cell (World.block_lt_of_cell? w7 _ hy1)).trans hy1⟩ (fun hHeld=>?_)
             clear hb
             clear hK K
             refine norm_ (a':=?_) ?_ ?_
             rotate_left
             ·
              show Act.put _ (some 229) _=_
              simp only[pt_]
              rfl
             have hbe0:((ownP k i2).f0.toList==(ownP k i2).f0.toList)=true:=beq_self_eq_true _
             have hbe1:((ownP k i2).f1.toList==(ownP k i2).f1.toList)=true:=beq_self_eq_true _
             have hne:=fun w_ d_=>eqA58 d_ w_ (ownP k i2).f0 (ownP k i2).f0 (ownP k i2).f1 (ownP k i2).f1
             rw[hbe0,hbe1] at hne
             refine pure_ (i:=9) (N:=some 230) (v:=?_) (a':=?_) #[true,true,true,true,true,true,true,true,true,true] rfl rfl (any_of HT_.out (by kernel_rfl)) (fun _ _ _ h=>h) (Or.inl ⟨by rfl,?_⟩) ?_ ?_
             rotate_left
             ·
              intro w'
              go_simp
              with_reducible rfl
             rotate_left
             ·
              simp only[pt_]
              rfl
             refine done_ (done_of HT_.out (by kernel_rfl)) ?_
             try go_wp2
             go_roundg k3
             case measure=>omega
             case rel=>exact ⟨m+1,(by have:=small_ HF0.out c4;first|rfl|rw[wnat (by omega)]|exact congrArg _ (wnat (by omega))),⟨by have:=HA3.out.1;omega,by omega⟩,HH8,HHL8⟩
            ·
             obtain⟨c5b,c5d⟩:=natge_b c5
             go_wp2
             go_roundg k2
             case measure=>omega
             case rel=>exact ⟨i2+1,(by first|rfl|rw[wnat (by omega)]|exact congrArg _ (wnat (by omega))),⟨by have:=HA2.out.1;omega,by omega⟩,HQ4,HLg4⟩
         ·
          have c4b:decide ((i2:Int)<11)=false:=decide_eq_false (by omega)
          have c4d:decide (i2<11)=false:=decide_eq_false c4
          obtain⟨gl,cl,el,hel_⟩:=HLg3.out.cell 0 (by omega)
          clear hel_ c4b c4d
          have el2:u27=.slice (some ⟨gl,0,none⟩) 10 cl:=el
          clear el
          subst el2
          go_wp2
          go_loopg [33] 11 (fun kq v33 w'=>∃ (i3:Nat),v33=.int .i64 (i3:Int)∧Aside0 (i3+kq=11∧i3≤10)∧Aside0 (RowsP w w' ga 11 A n c L2 Z2 y1)∧Aside0 (LongP w w' ga 11 A n c L2 (.slice (some ⟨gl,0,none⟩) 10 cl) (11 - 1)))
          case atStart=>exact ⟨0,rfl,⟨by omega,by omega⟩,HQ3,HLg3⟩
          case round=>
           obtain⟨i3,rfl,HA3,HQ4,HLg4⟩:=hrel
           clear HQ3 HLg3
           cases gk with
           |zero=>exact absurd HA3.out (by omega)
           |succ k3=>
            by_cases c6:i3<10
            ·
             have c6b:decide ((i3:Int)<10)=true:=decide_eq_true (by omega)
             have c6d:decide (i3<10)=true:=decide_eq_true c6
             obtain⟨i2,hi2⟩ : ∃ i2,i2=i3+1:=⟨_,rfl⟩
             have HI2:=Aside0.mk hi2
             obtain⟨hZl,hZa⟩:=HG2.out.lo i2 (by omega) (by omega)
             obtain⟨Zr,hZr⟩ : ∃ z,z=Z2 i2:=⟨_,rfl⟩
             obtain⟨g,cg,eg,hgb_,_⟩:=Kd.R_form (HQ4.out.own i2 (by omega)) (by omega)
             clear hgb_
             rw[←hZr] at hZl hZa eg
             have HZ:=Aside0.mk hZr
             have HEG:=Aside0.mk eg
             have HZA:=Aside0.mk hZa
             have HZL:=Aside0.mk hZl
             have hw1:wrap64 ((i3:Int)+1)=((i2:Nat):Int):=by rw[hi2];exact wnat (by omega)
             have HW1:=Aside0.mk hw1
             clear hZr eg hZa hZl hi2 hw1
             have hcell:wr.cell? ⟨gl,i3,none⟩=some (.slice (some ⟨g,0,none⟩) Zr.length cg):=by
              obtain⟨gl',cl',el',h1⟩:=HLg4.out.cell i3 (by omega)
              injection el' with e1 e2 e3
              injection e1 with e1
              injection e1 with e1
              subst e1
              rw[h1,←HI2.out,HEG.out]
             have hpb:=eq_true (Int.natCast_nonneg i3:0≤(i3:Int))
             have hqb:=eq_true (show (i3:Int)<(10:Int) by omega)
             go_wp2
             clear hcell
             go_loopg [34] (Zr.length+1) (fun kq v34 w'=>∃ (m:Nat),v34=.int .i64 (m:Int)∧Aside0 (m+kq=Zr.length+1∧m≤Zr.length)∧Aside0 (RowsP w w' ga 11 A n c L2 Z2 y1)∧Aside0 (LongP w w' ga 11 A n c L2 (.slice (some ⟨gl,0,none⟩) 10 cl) (11 - 1)))
             case atStart=>exact ⟨0,rfl,⟨by omega,by omega⟩,HQ4,HLg4⟩
             case round=>
              obtain⟨m,rfl,HA4,HQ5,HLg5⟩:=hrel
              clear HQ4 HLg4
              cases gk with
              |zero=>exact absurd HA4.out (by omega)
              |succ k4=>
               have hcell:wr.cell? ⟨gl,i3,none⟩=some (.slice (some ⟨g,0,none⟩) Zr.length cg):=by
                obtain⟨gl',cl',el',h1⟩:=HLg5.out.cell i3 (by omega)
                injection el' with e1 e2 e3
                injection e1 with e1
                injection e1 with e1
                subst e1
                rw[h1,←HI2.out,HEG.out]
               by_cases c7:m<Zr.length
               ·
                obtain⟨c7b,c7d⟩:=natlt_b c7
                obtain⟨hx0,hx1⟩:wr.cell? ⟨g,m*2,none⟩=some (.string (ownP k i2).f0)∧wr.cell? ⟨g,m*2+1,none⟩=some (.string (ownP k i2).f1):=by
                 have hR:=HQ5.out.own i2 (by have:=HI2.out;omega)
                 rw[HEG.out,←HZ.out] at hR
                 exact pair_cells hR (HZA.out m c7)
                have p5:=eq_true (Int.natCast_nonneg m:0≤(m:Int))
                have q5:=eq_true (show (m:Int)<(Zr.length:Int) by omega)
                go_wp2
                have hd_:=below_drew (Below.refl wr.heap.size wr)
                have HH:=Aside0.mk (HQ5.out.step hd_)
                have HHL:=Aside0.mk (HLg5.out.step hd_)
                have hcell2:=(hd_.cell (World.block_lt_of_cell? wr _ hcell)).trans hcell
                have hy0:=(hd_.cell (World.block_lt_of_cell? wr _ hx0)).trans hx0
                have hy1:=(hd_.cell (World.block_lt_of_cell? wr _ hx1)).trans hx1
                clear hd_ hcell hx0 hx1
                refine start_ (n:=11) (S:=fun w'=>w'.cell? ⟨gl,i3,none⟩=some (.slice (some ⟨g,0,none⟩) Zr.length cg)∧w'.cell? ⟨g,m*2,none⟩=some (.string (ownP k i2).f0)∧w'.cell? ⟨g,m*2+1,none⟩=some (.string (ownP k i2).f1)) (ds:=[]) #[false,false,false,false,false,false,false,false,false,false,false] (by kernel_rfl) rfl rfl ⟨hcell2,hy0,hy1⟩ (fun hHeld=>?_);refine with_tabW copselaw7_LeafNew.tab53 copselaw7_LeafNew.bits53 (fun HT_ HW_=>?_)
                generalize wr.drew=w7 at HH HHL hcell2 hy0 hy1 hHeld ⊢
                refine pure_ (i:=0) (N:=some 246) (v:=?_) (a':=?_) #[true,false,false,false,false,false,false,false,false,false,false] rfl rfl (any_of HT_.out (by kernel_rfl)) (fun _ _ _ h=>h) (Or.inl ⟨by rfl,?_⟩) ?_ ?_
                rotate_left
                ·
                 intro w'
                 go_simp
                 with_reducible rfl
                rotate_left
                ·
                 simp only[pt_]
                 rfl
                refine pure_ (i:=1) (N:=some 247) (v:=?_) (a':=?_) #[true,true,false,false,false,false,false,false,false,false,false] rfl rfl (any_of HT_.out (by kernel_rfl)) (fun _ _ _ h=>h) (Or.inl ⟨by rfl,?_⟩) ?_ ?_
                rotate_left
                ·
                 intro w'
                 go_simp
                 with_reducible rfl
                rotate_left
                ·
                 simp only[pt_]
                 rfl
                refine pure_ (i:=2) (N:=some 248) (v:=?_) (a':=?_) #[true,true,true,false,false,false,false,false,false,false,false] rfl rfl (any_of HT_.out (by kernel_rfl)) (fun _ _ _ h=>h) (Or.inl ⟨by rfl,?_⟩) ?_ ?_
                rotate_left
                ·
                 intro w'
                 go_simp
                 with_reducible rfl
                rotate_left
                ·
                 simp only[pt_]
                 rfl
                refine take_ (i:=3) (N:=some 249) (v:=?_) (a':=?_) #[true,true,true,true,false,false,false,false,false,false,false] rfl rfl (take_ofW HT_.out HW_.out (by kernel_rfl)) (fun _ _ _ h=>h) (Or.inl ⟨by rfl,?_⟩) hHeld ?_ ?_
                rotate_left
                ·
                 rintro w' ⟨s0,s1,s2⟩
                 go_simp
                 with_reducible rfl
                rotate_left
                ·
                 simp only[pt_]
                 rfl
                refine pure_ (i:=4) (N:=some 250) (v:=?_) (a':=?_) #[true,true,true,true,true,false,false,false,false,false,false] rfl rfl (any_of HT_.out (by kernel_rfl)) (fun _ _ _ h=>h) (Or.inl ⟨by rfl,?_⟩) ?_ ?_
                rotate_left
                ·
                 intro w'
                 go_simp
                 with_reducible rfl
                rotate_left
                ·
                 simp only[pt_]
                 rfl
                refine pure_ (i:=5) (N:=some 251) (v:=?_) (a':=?_) #[true,true,true,true,true,true,false,false,false,false,false] rfl rfl (any_of HT_.out (by kernel_rfl)) (fun _ _ _ h=>h) (Or.inl ⟨by rfl,?_⟩) ?_ ?_
                rotate_left
                ·
                 intro w'
                 go_simp
                 with_reducible rfl
                rotate_left
                ·
                 simp only[pt_]
                 rfl
                refine take_ (i:=6) (N:=some 252) (v:=?_) (a':=?_) #[true,true,true,true,true,true,true,false,false,false,false] rfl rfl (take_ofW HT_.out HW_.out (by kernel_rfl)) (fun _ _ _ h=>h) (Or.inl ⟨by rfl,?_⟩) hHeld ?_ ?_
                rotate_left
                ·
                 rintro w' ⟨s0,s1,s2⟩
                 go_simp
                 with_reducible rfl
                rotate_left
                ·
                 simp only[pt_]
                 rfl
                refine pure_ (i:=7) (N:=some 253) (v:=?_) (a':=?_) #[true,true,true,true,true,true,true,true,false,false,false] rfl rfl (any_of HT_.out (by kernel_rfl)) (fun _ _ _ h=>h) (Or.inl ⟨by rfl,?_⟩) ?_ ?_
                rotate_left
                ·
                 intro w'
                 go_simp
                 with_reducible rfl
                rotate_left
                ·
                 simp only[pt_]
                 rfl
                refine pure_ (i:=8) (N:=some 254) (v:=?_) (a':=?_) #[true,true,true,true,true,true,true,true,true,false,false] rfl rfl (any_of HT_.out (by kernel_rfl)) (fun _ _ _ h=>h) (Or.inl ⟨by rfl,?_⟩) ?_ ?_
                rotate_left
                ·
                 intro w'
                 go_simp
                 with_reducible rfl
                rotate_left
                ·
                 simp only[pt_]
                 rfl
                refine one_ (i:=9) (N:=some 255) #[true,true,true,true,true,true,true,true,true,true,false] rfl rfl (one_of HT_.out (by kernel_rfl)) (by decide) (fun K hK=>?_)
                refine goes_ Tryd.func31 (by kernel_rfl) rfl #[.int .i64 (wrap64 ((i3:Int)+1))] (by rfl) rfl rfl (by (try simp only[List.map_toArray,List.map_cons,List.map_nil]);first|done|rfl) ?_
                with_reducible refine (copselaw7_own.calls k (wrap64 ((i3:Int)+1)) _ _ _ (by rw[HW1.out];exact HL.out.own i2 (by have:=HI2.out;omega))).mono ?_
                rintro e_ w8 ⟨rfl,hb⟩
                refine ⟨_,rfl,?_⟩
                have HH8:=Aside0.mk (HH.out.step hb)
                have HHL8:=Aside0.mk (HHL.out.step hb)
                refine hK.out _ _ ⟨(hb.cell (World.block_lt_of_cell? w7 _ hcell2)).trans hcell2,(hb.cell (World.block_lt_of_cell? w7 _ hy0)).trans hy0,(hb.cell (World.block_lt_of_cell? w7 _ hy1)).trans hy1⟩ (fun hHeld=>?_)
                clear hb
                clear hK K
                refine norm_ (a':=?_) ?_ ?_
                rotate_left
                ·
                 show Act.put _ (some 255) _=_
                 simp only[pt_]
                 rfl
                have hbe0:((ownP k i2).f0.toList==(ownP k i2).f0.toList)=true:=beq_self_eq_true _
                have hbe1:((ownP k i2).f1.toList==(ownP k i2).f1.toList)=true:=beq_self_eq_true _
                have hne:=fun w_ d_=>eqA58 d_ w_ (ownP k i2).f0 (ownP k i2).f0 (ownP k i2).f1 (ownP k i2).f1
                rw[hbe0,hbe1] at hne
                refine pure_ (i:=10) (N:=some 256) (v:=?_) (a':=?_) #[true,true,true,true,true,true,true,true,true,true,true] rfl rfl (any_of HT_.out (by kernel_rfl)) (fun _ _ _ h=>h) (Or.inl ⟨by rfl,?_⟩) ?_ ?_
                rotate_left
                ·
                 intro w'
                 go_simp
                 with_reducible rfl
                rotate_left
                ·
                 simp only[pt_]
                 rfl
                refine done_ (done_of HT_.out (by kernel_rfl)) ?_
                try go_wp2
                go_roundg k4
                case measure=>omega
                case rel=>exact ⟨m+1,(by have:=HZL.out;have:=small_ HF0.out (i:=i2) (by have:=HI2.out;omega);first|rfl|rw[wnat (by omega)]|exact congrArg _ (wnat (by omega))),⟨by have:=HA4.out.1;omega,by omega⟩,HH8,HHL8⟩
               ·
                obtain⟨c7b,c7d⟩:=natge_b c7
                go_wp2
                go_roundg k3
                case measure=>omega
                case rel=>exact ⟨i3+1,(by first|rfl|rw[wnat (by omega)]|exact congrArg _ (wnat (by omega))),⟨by have:=HA3.out.1;omega,by omega⟩,HQ5,HLg5⟩
            ·
             have c6b:decide ((i3:Int)<10)=false:=decide_eq_false (by omega)
             have c6d:decide (i3<10)=false:=decide_eq_false c6
             have hle:=HL.out.le
             have htop:=HL.out.top
             go_wp2
             go_loopg [35] (t472.length+1 - l0_0.length) (fun kq v35 w'=>∃ (q:Nat),v35=.int .i64 (q:Int)∧Aside0 (q+kq=t472.length+1∧l0_0.length≤q∧q≤t472.length)∧Aside0 (RowsP w w' ga 11 A n c L2 Z2 y1))
             case atStart=>exact ⟨l0_0.length,rfl,⟨by omega,by omega,by omega⟩,HQ4⟩
             case round=>
              obtain⟨q,rfl,HA5,HQ5⟩:=hrel
              clear HQ4 c6b c6d
              cases gk with
              |zero=>exact absurd HA5.out (by omega)
              |succ k5=>
               by_cases c8:q<t472.length
               ·
                obtain⟨c8b,c8d⟩:=natlt_b c8
                obtain⟨hm1,hm2⟩:=HL.out.mark q HA5.out.2.1 c8
                have HM5:=Aside0.mk hm1
                have hL0:L2 0=.slice Ao t472.length co:=(HG2.out.hi 0 (by omega) (.inl rfl)).1.trans HF0.out.L0
                have hR:=HQ5.out.own 0 (by omega)
                have hZq:(Z2 0)[q]?=some (markP k ((q:Int) - (l0_0.length:Int))):=by
                 rw[(HG2.out.hi 0 (by omega) (.inl rfl)).2,HE1.out.rest 0 (by omega) q (by rw[HF0.out.n0];exact HA5.out.2.1),HF0.out.Z0]
                 exact hm2
                obtain⟨g,cg,eg,hgb_,_⟩:=Kd.R_form hR (by have:=(List.getElem?_eq_some_iff.1 hZq).1;omega)
                have eAo:Ao=some ⟨g,0,none⟩:=by
                 have:=hL0.symm.trans eg
                 injection this
                subst eAo
                rw[hL0] at hR
                obtain⟨hx0,hx1⟩:=pair_cells hR hZq
                clear hR hZq hm1 hm2 hL0 eg hgb_
                obtain⟨P5,hP5⟩ : ∃ p,p=markP k ((q:Int) - (l0_0.length:Int)):=⟨_,rfl⟩
                rw[←hP5] at hx0 hx1
                have HP5:=Aside0.mk hP5
                clear hP5
                have p5:=eq_true (Int.natCast_nonneg q:0≤(q:Int))
                have q5:=eq_true (show (q:Int)<(t472.length:Int) by omega)
                have HW1:=Aside0.mk (show wrap64 ((q:Int) - (l0_0.length:Int))=(q:Int) - (l0_0.length:Int) by have:=HA5.out;unfold wrap64;omega)
                go_wp2
                have hd_:=below_drew (Below.refl wr.heap.size wr)
                have HH:=Aside0.mk (HQ5.out.step hd_)
                have hy0:=(hd_.cell (World.block_lt_of_cell? wr _ hx0)).trans hx0
                have hy1:=(hd_.cell (World.block_lt_of_cell? wr _ hx1)).trans hx1
                clear hd_ hx0 hx1
                refine start_ (n:=9) (S:=fun w'=>w'.cell? ⟨g,q*2,none⟩=some (.string P5.f0)∧w'.cell? ⟨g,q*2+1,none⟩=some (.string P5.f1)) (ds:=[]) #[false,false,false,false,false,false,false,false,false] (by kernel_rfl) rfl rfl ⟨hy0,hy1⟩ (fun hHeld=>?_);refine with_tabW copselaw7_LeafNew.tab58 copselaw7_LeafNew.bits58 (fun HT_ HW_=>?_)
                generalize wr.drew=w7 at HH hy0 hy1 hHeld ⊢
                refine pure_ (i:=0) (N:=some 264) (v:=?_) (a':=?_) #[true,false,false,false,false,false,false,false,false] rfl rfl (any_of HT_.out (by kernel_rfl)) (fun _ _ _ h=>h) (Or.inl ⟨by rfl,?_⟩) ?_ ?_
                rotate_left
                ·
                 intro w'
                 go_simp
                 with_reducible rfl
                rotate_left
                ·
                 simp only[pt_]
                 rfl
                refine pure_ (i:=1) (N:=some 265) (v:=?_) (a':=?_) #[true,true,false,false,false,false,false,false,false] rfl rfl (any_of HT_.out (by kernel_rfl)) (fun _ _ _ h=>h) (Or.inl ⟨by rfl,?_⟩) ?_ ?_
                rotate_left
                ·
                 intro w'
                 go_simp
                 with_reducible rfl
                rotate_left
                ·
                 simp only[pt_]
                 rfl
                refine pure_ (i:=2) (N:=some 266) (v:=?_) (a':=?_) #[true,true,true,false,false,false,false,false,false] rfl rfl (any_of HT_.out (by kernel_rfl)) (fun _ _ _ h=>h) (Or.inl ⟨by rfl,?_⟩) ?_ ?_
                rotate_left
                ·
                 intro w'
                 go_simp
                 with_reducible rfl
                rotate_left
                ·
                 simp only[pt_]
                 rfl
                refine take_ (i:=3) (N:=some 267) (v:=?_) (a':=?_) #[true,true,true,true,false,false,false,false,false] rfl rfl (take_ofW HT_.out HW_.out (by kernel_rfl)) (fun _ _ _ h=>h) (Or.inl ⟨by rfl,?_⟩) hHeld ?_ ?_
                rotate_left
                ·
                 rintro w' ⟨s0,s1⟩
                 go_simp
                 with_reducible rfl
                rotate_left
                ·
                 simp only[pt_]
                 rfl
                refine pure_ (i:=4) (N:=some 268) (v:=?_) (a':=?_) #[true,true,true,true,true,false,false,false,false] rfl rfl (any_of HT_.out (by kernel_rfl)) (fun _ _ _ h=>h) (Or.inl ⟨by rfl,?_⟩) ?_ ?_
                rotate_left
                ·
                 intro w'
                 go_simp
                 with_reducible rfl
                rotate_left
                ·
                 simp only[pt_]
                 rfl
                refine pure_ (i:=5) (N:=some 269) (v:=?_) (a':=?_) #[true,true,true,true,true,true,false,false,false] rfl rfl (any_of HT_.out (by kernel_rfl)) (fun _ _ _ h=>h) (Or.inl ⟨by rfl,?_⟩) ?_ ?_
                rotate_left
                ·
                 intro w'
                 go_simp
                 with_reducible rfl
                rotate_left
                ·
                 simp only[pt_]
                 rfl
                refine pure_ (i:=6) (N:=some 270) (v:=?_) (a':=?_) #[true,true,true,true,true,true,true,false,false] rfl rfl (any_of HT_.out (by kernel_rfl)) (fun _ _ _ h=>h) (Or.inl ⟨by rfl,?_⟩) ?_ ?_
                rotate_left
                ·
                 intro w'
                 go_simp
                 with_reducible rfl
                rotate_left
                ·
                 simp only[pt_]
                 rfl
                refine one_ (i:=7) (N:=some 271) #[true,true,true,true,true,true,true,true,false] rfl rfl (one_of HT_.out (by kernel_rfl)) (by decide) (fun K hK=>?_)
                refine goes_ Tryd.func32 (by kernel_rfl) rfl #[.int .i64 (wrap64 ((q:Int) - (l0_0.length:Int)))] (by rfl) rfl rfl (by (try simp only[List.map_toArray,List.map_cons,List.map_nil]);first|done|rfl) ?_
                with_reducible refine (copselaw7_mark.calls k (wrap64 ((q:Int) - (l0_0.length:Int))) _ _ _ (show _=some (P5.f0,P5.f1) by rw[HW1.out,HP5.out];exact HM5.out)).mono ?_
                rintro e_ w8 ⟨rfl,hb⟩
                refine ⟨_,rfl,?_⟩
                have HH8:=Aside0.mk (HH.out.step hb)
                refine hK.out _ _ ⟨(hb.cell (World.block_lt_of_cell? w7 _ hy0)).trans hy0,(hb.cell (World.block_lt_of_cell? w7 _ hy1)).trans hy1⟩ (fun hHeld=>?_)
                clear hb
                clear hK K
                refine norm_ (a':=?_) ?_ ?_
                rotate_left
                ·
                 show Act.put _ (some 271) _=_
                 simp only[pt_]
                 rfl
                have hbe0:(P5.f0.toList==P5.f0.toList)=true:=beq_self_eq_true _
                have hbe1:(P5.f1.toList==P5.f1.toList)=true:=beq_self_eq_true _
                have hne:=fun w_ d_=>eqA58 d_ w_ P5.f0 P5.f0 P5.f1 P5.f1
                rw[hbe0,hbe1] at hne
                refine pure_ (i:=8) (N:=some 272) (v:=?_) (a':=?_) #[true,true,true,true,true,true,true,true,true] rfl rfl (any_of HT_.out (by kernel_rfl)) (fun _ _ _ h=>h) (Or.inl ⟨by rfl,?_⟩) ?_ ?_
                rotate_left
                ·
                 intro w'
                 go_simp
                 with_reducible rfl
                rotate_left
                ·
                 simp only[pt_]
                 rfl
                refine done_ (done_of HT_.out (by kernel_rfl)) ?_
                try go_wp2
                go_roundg k5
                case measure=>omega
                case rel=>exact ⟨q+1,(by first|rfl|rw[wnat (by omega)]|exact congrArg _ (wnat (by omega))),⟨by have:=HA5.out.1;omega,by have:=HA5.out.2;omega,by omega⟩,HH8⟩
               ·
                obtain⟨c8b,c8d⟩:=natge_b c8
                go_wp2
                go_ret
                exact ⟨by first|rfl|(simp[*];done),HQ5.out.below⟩

end Go.Proofs.YtdailhlghlledaaDoor.XLeafNew
