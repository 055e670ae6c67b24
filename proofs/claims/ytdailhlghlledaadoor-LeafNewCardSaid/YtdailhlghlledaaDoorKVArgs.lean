-- From the print's words, those that this claim needs.
/- What a value of a law's parameter type reads as, kind by kind (the print's kinds), and what a row's list of package-level variables says: plain steps from the form's reading to the printed contracts. -/
import Derived.Test.YtdailhlghlledaaDoorKWMore
import Derived.Test.YtdailhlghlledaaDoorRows
import Derived.ChangeSame
import Derived.ChangeArms
import Derived.OpenShut
import Derived.LaidLaws
import Derived.SizedLaws
import Derived.FnData
import Derived.MakeChecks
import Derived.Lib.LaidTab
import Derived.Deep.Slices
set_option linter.unusedVariables false
namespace Go.Proofs.YtdailhlghlledaaDoor.V
open Go.RowKit Go.Proofs.YtdailhlghlledaaDoorW.PrintWords Go.ChangeShapes Go.WideShapes
def Opens {α:Type} (P:Program) (t:TypeId) (K:World→α→List Value→Prop) (b:α→Prop) (m:α→Nat):Prop:=
  ∀ {H:Type} {enc:TypeId×Value→H} {w:World} {base:Nat} {sp:Nat→Bool} {held:Bool} {fuel:Nat} {cs:List Value} {x:DataW H×List MemPlace},
    DataW.trod enc P w base sp held fuel t cs=some x→(∀ n∈x.1.weights P t,n≤140737488351232)→∃ a,K w a cs∧b a∧m a≤Rows.uptoBulk x.1
theorem opens_bool {P:Program} {t:TypeId} (ht:P.underlying t=some .bool):Opens P t Kd.bool.K (fun _=>True) (fun _=>1):=by
  intro H enc w base sp held fuel cs x h _
  obtain⟨b,rfl,rfl⟩:=DataW.trod_bool ht h
  exact ⟨b,rfl,trivial,by simp[Rows.uptoBulk]⟩
theorem opens_string {P:Program} {t:TypeId} (ht:P.underlying t=some .string):Opens P t Kd.string.K (fun a=>a.size≤140737488351232) (fun a=>a.size+1):=by
  intro H enc w base sp held fuel cs x h hz
  obtain⟨s,rfl,rfl,_⟩:=DataW.trod_string ht h
  refine ⟨s,rfl,?_,by simp[Rows.uptoBulk]⟩
  have:=hz s.data.toList.length (by simp[DataW.weights])
  simpa using this
theorem opens_slice {α:Type} {P:Program} {t e:TypeId} {d:Kd α} {b:α→Prop} {m:α→Nat} {B:Nat} (e':Nat) (ht:P.underlying t=some (.slice e)) (hc:P.cellsOf e=d.sz) (hB:P.bytesOf e=B) (he:Opens P e d.K b m) :
    Opens P t (Kd.slice e' d).K (fun l=>l.length*B≤140737488351232∧∀ a∈l,b a) (fun l=>(l.map m).sum+1):=by
  intro H enc w base sp held fuel cs x h hz
  rcases DataW.trod_slice ht h with ⟨rfl,rfl⟩|⟨a,len,cap,elems,rest,n,_,rfl,rfl,_,hl,hmx,hlen,hel,_,_⟩
  · exact ⟨[],⟨none,0,rfl,Nat.le_refl _,by simp,by simp,fun h0=>absurd h0 (by simp)⟩,⟨by simp,fun a ha=>by cases ha⟩,by simp[Rows.uptoBulk]⟩
  · have hz0:(elems.length+rest.length)*B≤140737488351232:=by
      have:=hz ((elems.map (·.1)).length+(rest.map (·.1)).length |>.mul (P.bytesOf e)) (by simp[DataW.weights,ht])
      simpa [hB] using this
    have each : ∀ i,i<len→∃ c x,(w.cells? base (a.add (i*P.cellsOf e)) (P.cellsOf e))=some c∧elems[i]?=some x∧∃ y,d.K w y c∧b y∧m y≤Rows.uptoBulk x.1:=by
      intro i hi
      have h1:=hel i hi
      have h2:elems[i]?=some (elems[i]'(by omega)):=List.getElem?_eq_getElem (by omega)
      rw[h2] at h1
      obtain⟨c,hc1,hc2⟩:=Option.bind_eq_some_iff.1 h1
      obtain⟨y,hy,hb,hm1⟩:=he hc2 (fun q hq=>hz q (by
        have hmem : ∀ (L:List (DataW H×List MemPlace)) (z:DataW H×List MemPlace),z∈L→∀ m∈z.1.weights P e,m∈DataW.weightsAll P e (L.map (·.1)):=by
          intro L
          induction L with
          |nil=>intro z hz';cases hz'
          |cons q r ih=>
            intro z hz' m hm2
            simp only[List.map_cons,DataW.weightsAll,List.mem_append]
            rcases List.mem_cons.1 hz' with rfl|hz'
            · exact Or.inl hm2
            · exact Or.inr (ih z hz' m hm2)
        have:=hmem elems (elems[i]'(by omega)) (List.getElem_mem _) q hq
        simp only[DataW.weights,ht,List.mem_cons,List.mem_append]
        exact Or.inr (Or.inl this)))
      exact ⟨c,_,hc1,h2,y,hy,hb,hm1⟩
    have bulkAll : ∀ (L:List (DataW H)),∀ j,Rows.uptoBulkAll (L.take (j+1))=Rows.uptoBulkAll (L.take j)+(match L[j]? with|some z=>Rows.uptoBulk z|none=>0):=by
      intro L
      induction L with
      |nil=>intro j;simp[Rows.uptoBulkAll]
      |cons z r ih=>
        intro j
        cases j with
        |zero=>simp[Rows.uptoBulkAll]
        |succ j=>simp only[List.take_succ_cons,Rows.uptoBulkAll,List.getElem?_cons_succ];have:=ih j;omega
    have build : ∀ q,q≤len→∃ l:List α,l.length=q∧(∀ y∈l,b y)∧(l.map m).sum≤Rows.uptoBulkAll ((elems.map (·.1)).take q)∧∀ j p,l[j]?=some p→∃ c,w.cells? base (a.add (j*P.cellsOf e)) (P.cellsOf e)=some c∧d.K w p c:=by
      intro q
      induction q with
      |zero=>intro _;exact ⟨[],rfl,(fun y hy=>by cases hy),by simp,(fun j p hj=>by simp at hj)⟩
      |succ q ih=>
        intro hq1
        obtain⟨l,hl1,hl2,hl4,hl3⟩:=ih (by omega)
        obtain⟨c,x,hc1,hx,y,hy,hb,hm1⟩:=each q (by omega)
        refine ⟨l++[y],by simp[hl1],fun z hz'=>?_,?_,fun j p hj=>?_⟩
        · rcases List.mem_append.1 hz' with hz'|hz'
          · exact hl2 z hz'
          · rw[List.mem_singleton.1 hz'];exact hb
        · rw[List.map_append,List.sum_append,bulkAll,List.getElem?_map,hx]
          simp only[Option.map_some,List.map_cons,List.map_nil,List.sum_cons,List.sum_nil]
          omega
        · by_cases hj1:j<l.length
          · rw[List.getElem?_append_left hj1] at hj
            exact hl3 j p hj
          · have hj2:j=l.length:=by
              have:=(List.getElem?_eq_some_iff.1 hj).1
              simp at this
              omega
            subst hj2
            simp at hj
            subst hj
            rw[hl1]
            exact ⟨c,hc1,hy⟩
    obtain⟨l,hl1,hl2,hl4,hl3⟩:=build len (Nat.le_refl _)
    refine ⟨l,⟨some a,cap,by rw[hl1],by omega,rfl,by simp only[maxLen] at hmx;omega,fun _=>⟨a,rfl,fun j p hj=>?_⟩⟩,⟨?_,hl2⟩,?_⟩
    · obtain⟨c,hc1,hK⟩:=hl3 j p hj
      obtain⟨_,hcl,hat⟩:=World.cells?_some hc1
      refine ⟨c,d.K_len hK,hK,fun i u hu=>?_⟩
      have hi:i<P.cellsOf e:=by
        have:=(List.getElem?_eq_some_iff.1 hu).1
        omega
      have h1:=hat i hi
      rw[hu] at h1
      rw[←hc,←h1,Go.Deep.add_add]
    · rw[hl1]
      exact Nat.le_trans (Nat.mul_le_mul_right _ (by omega)) hz0
    · rw[List.take_of_length_le (by rw[List.length_map];omega)] at hl4
      simp only[Rows.uptoBulk]
      omega
theorem opens_struct2 {α β:Type} {P:Program} {t:TypeId} {f0 f1:Field} {m0 m1:Nat} {K0:World→α→List Value→Prop} {K1:World→β→List Value→Prop} {u0:α→Nat} {u1:β→Nat} {b0:α→Prop} {b1:β→Prop}
    (hs:P.underlying t=some (.struct #[f0,f1])) (h0:Opens P f0.type K0 b0 u0) (h1:Opens P f1.type K1 b1 u1) (o0:f0.offset=0) (c0:P.cellsOf f0.type=m0) (o1:f1.offset=m0) (c1:P.cellsOf f1.type=m1) (ct:P.cellsOf t=m0+m1) :
    Opens P t (fun w (x:α×β) cs=>∃ k0 k1,cs=k0++k1∧K0 w x.1 k0∧K1 w x.2 k1) (fun x=>b0 x.1∧b1 x.2) (fun x=>u0 x.1+u1 x.2+1):=by
  intro H enc w base sp held fuel cs x h hz
  obtain⟨xs,n,_,rfl,hl,hlen,hf⟩:=DataW.trod_struct hs h
  match xs,hlen,hf,hz with
  |[y0,y1],_,hf,hz=>
    have w0:=hf 0 f0 rfl
    have w1:=hf 1 f1 rfl
    rw[o0,c0] at w0
    rw[o1,c1] at w1
    obtain⟨a0,k0,b0',g0⟩:=h0 w0 (fun m hm=>hz m (by simp only[DataW.weights,hs,DataW.weightsEach,List.map_cons,List.mem_append];exact Or.inl hm))
    obtain⟨a1,k1,b1',g1⟩:=h1 w1 (fun m hm=>hz m (by simp only[DataW.weights,hs,DataW.weightsEach,List.map_cons,List.mem_append];exact Or.inr (Or.inl hm)))
    refine ⟨(a0,a1),⟨_,_,?_,k0,k1⟩,⟨b0',b1'⟩,by simp only[List.map_cons,List.map_nil,Rows.uptoBulk,Rows.uptoBulkAll];omega⟩
    rw[List.drop_zero,List.take_of_length_le (l:=cs.drop m0) (by rw[List.length_drop];omega),List.take_append_drop]
theorem opens_struct4 {α β γ δ:Type} {P:Program} {t:TypeId} {f0 f1 f2 f3:Field} {m0 m1 m2 m3:Nat} {K0:World→α→List Value→Prop} {K1:World→β→List Value→Prop} {K2:World→γ→List Value→Prop} {K3:World→δ→List Value→Prop} {u0:α→Nat} {u1:β→Nat} {u2:γ→Nat} {u3:δ→Nat} {b0:α→Prop} {b1:β→Prop} {b2:γ→Prop} {b3:δ→Prop}
    (hs:P.underlying t=some (.struct #[f0,f1,f2,f3])) (h0:Opens P f0.type K0 b0 u0) (h1:Opens P f1.type K1 b1 u1) (h2:Opens P f2.type K2 b2 u2) (h3:Opens P f3.type K3 b3 u3) (o0:f0.offset=0) (c0:P.cellsOf f0.type=m0) (o1:f1.offset=m0) (c1:P.cellsOf f1.type=m1) (o2:f2.offset=m0+m1) (c2:P.cellsOf f2.type=m2) (o3:f3.offset=m0+m1+m2) (c3:P.cellsOf f3.type=m3) (ct:P.cellsOf t=m0+m1+m2+m3) :
    Opens P t (fun w (x:α×β×γ×δ) cs=>∃ k0 k1 k2 k3,cs=k0++(k1++(k2++k3))∧K0 w x.1 k0∧K1 w x.2.1 k1∧K2 w x.2.2.1 k2∧K3 w x.2.2.2 k3) (fun x=>b0 x.1∧b1 x.2.1∧b2 x.2.2.1∧b3 x.2.2.2) (fun x=>u0 x.1+u1 x.2.1+u2 x.2.2.1+u3 x.2.2.2+1):=by
  intro H enc w base sp held fuel cs x h hz
  obtain⟨xs,n,_,rfl,hl,hlen,hf⟩:=DataW.trod_struct hs h
  match xs,hlen,hf,hz with
  |[y0,y1,y2,y3],_,hf,hz=>
    have w0:=hf 0 f0 rfl
    have w1:=hf 1 f1 rfl
    have w2:=hf 2 f2 rfl
    have w3:=hf 3 f3 rfl
    rw[o0,c0] at w0
    rw[o1,c1] at w1
    rw[o2,c2] at w2
    rw[o3,c3] at w3
    obtain⟨a0,k0,b0',g0⟩:=h0 w0 (fun m hm=>hz m (by simp only[DataW.weights,hs,DataW.weightsEach,List.map_cons,List.mem_append];exact Or.inl hm))
    obtain⟨a1,k1,b1',g1⟩:=h1 w1 (fun m hm=>hz m (by simp only[DataW.weights,hs,DataW.weightsEach,List.map_cons,List.mem_append];exact Or.inr (Or.inl hm)))
    obtain⟨a2,k2,b2',g2⟩:=h2 w2 (fun m hm=>hz m (by simp only[DataW.weights,hs,DataW.weightsEach,List.map_cons,List.mem_append];exact Or.inr (Or.inr (Or.inl hm))))
    obtain⟨a3,k3,b3',g3⟩:=h3 w3 (fun m hm=>hz m (by simp only[DataW.weights,hs,DataW.weightsEach,List.map_cons,List.mem_append];exact Or.inr (Or.inr (Or.inr (Or.inl hm)))))
    refine ⟨(a0,a1,a2,a3),⟨_,_,_,_,?_,k0,k1,k2,k3⟩,⟨b0',b1',b2',b3'⟩,by simp only[List.map_cons,List.map_nil,Rows.uptoBulk,Rows.uptoBulkAll];omega⟩
    rw[List.drop_zero,List.take_of_length_le (l:=cs.drop (m0+m1+m2)) (by rw[List.length_drop];omega),show List.drop (m0+m1+m2) cs=List.drop m2 (List.drop (m0+m1) cs) by rw[List.drop_drop],List.take_append_drop,show List.drop (m0+m1) cs=List.drop m1 (List.drop m0 cs) by rw[List.drop_drop],List.take_append_drop,List.take_append_drop]
def sentD (text:List UInt8):DataW Unit:=.iface "*errors.errorString" (.ptr (.agg [.lit (.string text)]))
theorem sents_of_laid {P:Program} {W:World} {ti tp te ts:TypeId} {ms:Array (String×TypeId)} {f:Field}
    (hi:P.underlying ti=some (.interface ms)) (hrow : ∀ u,P.typeName? 3 u=some "*errors.errorString"→u=tp)
    (hp:P.underlying tp=some (.pointer te)) (he:P.underlying te=some (.struct #[f])) (hft:f.type=ts) (hfo:f.offset=0) (hs:P.underlying ts=some .string) (hc:P.cellsOf te=1) (hcs:P.cellsOf ts=1) {rest:List (String×DataW Unit)} :
    ∀ (L:List (String×List UInt8)) (ps:List MemPlace),DataW.LaidVars P W (L.map (fun x=>(x.1,sentD x.2))++rest) ps→
      (∀ b off,MemPlace.cell b off∈ps→(∃ c t,W.heap[b]?=some (.cells c t (0,0)))∧∀ u v,W.cell? ⟨b,off,none⟩=some (.iface u v)→Value.okWide P W .any 0 u v)→ps.Nodup→
      (∀ x∈L,∃ g,P.globalNamed x.1=some g∧(P.globals[g]?).map (·.type)=some ti)→
      ∃ (al:List Addr) (q:List MemPlace),al.length=L.length∧al.Nodup∧(∀ (i:Nat) (n:String),(L.map (·.1))[i]?=some n→∃ (g:Nat) (a:Addr),P.globalNamed n=some g∧al[i]?=some a∧W.cell? ⟨g,0,none⟩=some (.iface tp (.pointer (some a))))∧
        (∀ a∈al,∃ c t,W.heap[a.block]?=some (.cells c t (0,0)))∧(∀ a∈al,MemPlace.cell a.block a.off∈ps)∧DataW.LaidVars P W rest q∧(∀ z∈q,z∈ps):=by
  intro L
  induction L with
  |nil=>intro ps h hrows hnd _;exact ⟨[],ps,rfl,List.nodup_nil,(fun i n hn=>by simp at hn),(fun a ha=>by cases ha),(fun a ha=>by cases ha),h,fun z hz=>hz⟩
  |cons x L ih=>
    intro ps h hrows hnd hg
    obtain⟨g,t,cs,fuel,p,q,hg0,ht0,hv0,hd0,hr,rfl⟩:=h
    obtain⟨g',hg1,ht1⟩:=hg x List.mem_cons_self
    obtain rfl:=Option.some.inj (hg1.symm.trans hg0)
    obtain rfl:=Option.some.inj (ht1.symm.trans ht0)
    have ok0 : ∀ u v,cs.toList=[.iface u v]→Value.okWide P W .any 0 u v:=fun u v e=>by
      have hsz:cs.size=1:=by rw[←Array.length_toList,e];rfl
      refine (hrows g' 0 (by simp[MemPlace.row,hsz])).2 u v ?_
      rw[World.var?_cell hg0 hv0 0,←Array.getElem?_toList,e]
      rfl
    obtain⟨a,s,hcs0,_,_,_,rfl⟩:=errorString_of_trod hi hrow hp he hft hfo hs hc hcs hd0 ok0
    obtain⟨al,q',h1,h2,h3,h4,h5,h6,h7⟩:=ih q hr (fun b off hb=>hrows b off (by simp[hb])) (List.nodup_append.1 hnd).2.1 (fun y hy=>hg y (List.mem_cons_of_mem _ hy))
    refine ⟨a::al,q',by simp[h1],?_,?_,?_,?_,h6,fun z hz=>by simp[h7 z hz]⟩
    · refine List.nodup_cons.2 ⟨fun hm=>?_,h2⟩
      exact (List.nodup_append.1 hnd).2.2 (MemPlace.cell a.block a.off) (by simp[MemPlace.row]) _ (h5 a hm) rfl
    · intro i n hn
      cases i with
      |zero=>
        simp at hn
        subst hn
        refine ⟨g',a,hg0,rfl,?_⟩
        rw[World.var?_cell hg0 hv0 0,←Array.getElem?_toList,hcs0]
        rfl
      |succ i=>simp at hn;obtain⟨g2,a2,e1,e2,e3⟩:=h3 i n (by simpa using hn);exact ⟨g2,a2,e1,by simpa using e2,e3⟩
    · intro b hb
      rcases List.mem_cons.1 hb with rfl|hb
      · exact (hrows b.block b.off (by simp[MemPlace.row])).1
      · exact h4 b hb
    · intro b hb
      rcases List.mem_cons.1 hb with rfl|hb
      · simp[MemPlace.row]
      · simp[h5 b hb]
def addrOf (ks:List Int) (al:List Addr) (en:Int→Int) (q:Int):Addr:=al.getD (ks.idxOf (en q)) ⟨0,0,none⟩
theorem addrOf_inj {ks:List Int} {al:List Addr} {en:Int→Int} (hl:al.length=ks.length) (hn:al.Nodup) (hm : ∀ q,en q∈ks) {q r:Int} (h:addrOf ks al en q=addrOf ks al en r):en q=en r:=by
  have hq:=List.idxOf_lt_length_of_mem (hm q)
  have hr:=List.idxOf_lt_length_of_mem (hm r)
  unfold addrOf at h
  rw[List.getD_eq_getElem?_getD,List.getD_eq_getElem?_getD,List.getElem?_eq_getElem (by omega),List.getElem?_eq_getElem (by omega)] at h
  simp only[Option.getD_some] at h
  have hi:ks.idxOf (en q)=ks.idxOf (en r):=by
    have hp:=List.pairwise_iff_getElem.1 hn
    rcases Nat.lt_trichotomy (ks.idxOf (en q)) (ks.idxOf (en r)) with h1|h1|h1
    · exact absurd h (hp _ _ (by omega) (by omega) h1)
    · exact h1
    · exact absurd h.symm (hp _ _ (by omega) (by omega) h1)
  have e1:=List.getElem_idxOf hq
  have e2:=List.getElem_idxOf hr
  rw[←e1,←e2]
  simp only[hi]
theorem addrOf_mem {ks:List Int} {al:List Addr} {en:Int→Int} (hl:al.length=ks.length) (hm : ∀ q,en q∈ks) (q:Int):addrOf ks al en q∈al:=by
  have hq:=List.idxOf_lt_length_of_mem (hm q)
  unfold addrOf
  rw[List.getD_eq_getElem?_getD,List.getElem?_eq_getElem (by omega)]
  exact List.getElem_mem _
end Go.Proofs.YtdailhlghlledaaDoor.V
