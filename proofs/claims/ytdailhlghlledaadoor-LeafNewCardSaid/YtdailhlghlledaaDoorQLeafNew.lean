/- The pure side of LeafNew. -/
-- slim
import Derived.Test.YtdailhlghlledaaDoorXLeafNewx
import Derived.Laws.BitsLemmas
set_option linter.unusedVariables false
set_option linter.unusedSimpArgs false
namespace Go.Proofs.YtdailhlghlledaaDoor.XLeafNew
open Go.RowKit Go.Proofs.YtdailhlghlledaaDoorW.PrintWords Go.Proofs.YtdailhlghlledaaDoorW.PrintLast
theorem w64 {n:Int} (h0 : -9223372036854775808≤n) (h1:n<9223372036854775808):wrap64 n=n:=by unfold wrap64;omega
theorem Ev.loop {α:Type} {σ:Nat→Nat→Option α} {r:α} {n:Nat} (h : ∀ i,i<n→∀ k,σ i (k+1)=σ (i+1) k) (he:Ev (σ n) r) : ∀ i,i≤n→Ev (σ i) r:=by
  have : ∀ d i,i+d=n→Ev (σ i) r:=by
    intro d
    induction d with
    | zero => intro i hi; obtain rfl : i = n := by omega
              exact he
    |succ d ih=>intro i hi;exact Ev.step (h i (by omega)) (ih (i+1) (by omega))
  intro i hi
  exact this (n - i) i (by omega)
theorem Ev.loop' {α:Type} {σ:Nat→Nat→Option α} {r:α} {n:Nat} (h : ∀ i,i<n→Ev (σ (i+1)) r→Ev (σ i) r) (he:Ev (σ n) r) : ∀ i,i≤n→Ev (σ i) r:=by
  have : ∀ d i,i+d=n→Ev (σ i) r:=by
    intro d
    induction d with
    | zero => intro i hi; obtain rfl : i = n := by omega
              exact he
    |succ d ih=>intro i hi;exact h i (by omega) (ih (i+1) (by omega))
  intro i hi
  exact this (n - i) i (by omega)
theorem Ev.done {α:Type} {g:Nat→Option α} {r:α} (h : ∀ k,g (k+1)=some r):Ev g r:=Ev.step h (Ev.now r)
theorem Ev.const {α:Type} {g:Nat→Option α} {r:α} (h : ∀ k,g k=some r):Ev g r:=⟨0,fun k _=>h k⟩
theorem Ev.bindc {α β:Type} {o:Option α} {f:Nat→α→Option β} {a:α} {r:β} (h:o=some a) (k:Ev (fun n=>f n a) r):Ev (fun n=>o.bind (f n)) r:=by subst h;exact k
theorem bt_nat (s:ByteArray) (i:Nat) (h:i<s.size):bt s (i:Int)=(bytesOf s)[i]'(by rw[bytesOf_length];exact h):=by
  unfold bt bytesOf
  rw[dif_pos (by simpa using h)]
  simp only[Int.toNat_natCast,List.getElem_map,Array.getElem_toList]
  rfl
theorem rd_nat (l:List Int) (i:Nat) (h:i<l.length):rd l (i:Int)=l[i]:=by
  unfold rd
  rw[Int.toNat_natCast,List.getD_eq_getElem?_getD,List.getElem?_eq_getElem h]
  rfl
theorem bytesOf_range (s:ByteArray) : ∀ z∈bytesOf s,0≤z∧z<256:=by
  intro z hz
  unfold bytesOf at hz
  obtain⟨b,_,rfl⟩:=List.mem_map.1 hz
  have:=b.toNat_lt
  omega
theorem take_snoc {α:Type} (l:List α) (i:Nat) (h:i<l.length):l.take i++[l[i]]=l.take (i+1):=by
  rw[List.take_succ_eq_append_getElem h]
theorem rd_getD (l:List Int) (i:Nat):rd l (i:Int)=l.getD i 0:=by unfold rd;rw[Int.toNat_natCast]
theorem rd_left (l m:List Int) (i:Nat) (h:i<l.length):rd (l++m) (i:Int)=rd l (i:Int):=by
  rw[rd_getD,rd_getD,List.getD_eq_getElem?_getD,List.getD_eq_getElem?_getD,List.getElem?_append_left h]
theorem rd_right (l m:List Int) (i:Nat) (h:l.length≤i):rd (l++m) (i:Int)=rd m ((i - l.length:Nat):Int):=by
  rw[rd_getD,rd_getD,List.getD_eq_getElem?_getD,List.getD_eq_getElem?_getD,List.getElem?_append_right h]
theorem rd_drop0 (l:List Int) (i:Nat) (h:i<l.length):rd (l.drop i) ((0:Nat):Int)=l[i]:=by
  rw[List.drop_eq_getElem_cons h];rfl

theorem Bytes_ev (s:ByteArray) (hs:s.size≤140737488351232):Ev (fun k=>copsekit_Bytes.f k s) (bytesOf s):=by
  have h:=Ev.loop (σ:=fun i k=>copsekit_Bytes.l0 k s ((bytesOf s).take i) (i:Int)) (r:=bytesOf s) (n:=s.size) (fun i hi k=>by
    have hl:((bytesOf s).take i).length=i:=by rw[List.length_take,bytesOf_length];omega
    simp only[copsekit_Bytes.l0]
    rw[if_pos (by omega),if_pos (by omega),if_pos (by omega),bt_nat s i hi,take_snoc _ _ (by rw[bytesOf_length];exact hi),w64 (by omega) (by omega)]
    rfl) (Ev.done fun k=>by
    simp only[copsekit_Bytes.l0]
    rw[if_neg (by omega),List.take_of_length_le (by rw[bytesOf_length];omega)]) 0 (by omega)
  exact h

theorem ba_inj {x y:ByteArray} (h:x.toList=y.toList):x=y:=by
  rw[ByteArray.toList_eq,ByteArray.toList_eq] at h
  exact ByteArray.ext (Array.toList_inj.mp h)

/-- What Put answers. -/
def putbad (a0 a1:Int):Prop:=a1<1∨8<a1∨(a1<8∧a0 / 2 ^ (8*a1).toNat≠0)
instance (a0 a1:Int):Decidable (putbad a0 a1):=by unfold putbad;exact inferInstance
def putrow (a0 a1:Int):List Int:=(codec_Put.row a0 8).drop (8 - a1.toNat)
theorem Put_eq (a0 a1:Int) (h0:0≤a0) (h1:a0<18446744073709551616):codec_Put.f a0 a1=some (if putbad a0 a1 then ([],some 1) else (putrow a0 a1,none)):=by
  by_cases h:putbad a0 a1
  · rw[if_pos h]
    unfold codec_Put.f
    rw[if_pos ⟨h0,h1⟩]
    exact if_pos h
  · rw[if_neg h]
    unfold codec_Put.f
    rw[if_pos ⟨h0,h1⟩]
    exact if_neg h
theorem putrow_len (a0 a1:Int) (h : ¬ putbad a0 a1):(putrow a0 a1).length=a1.toNat:=by
  unfold putbad at h
  unfold putrow
  rw[List.length_drop,show (codec_Put.row a0 8).length=8 from rfl]
  omega
theorem wid8 {a1:Int} (h:1≤a1) (h':a1≤8):a1=1∨a1=2∨a1=3∨a1=4∨a1=5∨a1=6∨a1=7∨a1=8:=by omega
theorem u64_wf {a:Int} (h:(Lit.int .u64 a).wf=true):0≤a∧a<18446744073709551616:=by
  simp[Lit.wf,IntKind.min,IntKind.max,IntKind.bits,IntKind.signed] at h
  omega
theorem i64_wf {a:Int} (h:(Lit.int .i64 a).wf=true) : -9223372036854775808≤a∧a<9223372036854775808:=by
  simp[Lit.wf,IntKind.min,IntKind.max,IntKind.bits,IntKind.signed] at h
  omega

theorem RPut_ev (a0 a1:Int) (h0:0≤a0) (h1:a0<18446744073709551616):Ev (fun k=>copseref1_Put.f k a0 a1) (if putbad a0 a1 then ([],1) else (putrow a0 a1,0)):=by
  by_cases c1:a1<1
  · rw[if_pos (.inl c1)]
    refine Ev.done fun k=>?_
    simp[copseref1_Put.f,c1,copseref1_Put.j0]
  by_cases c8:8<a1
  · rw[if_pos (.inr (.inl c8))]
    refine Ev.done fun k=>?_
    simp[copseref1_Put.f,c1,c8,copseref1_Put.j0]
  have hx:a0 / 72057594037927936 % 256=a0 / 72057594037927936:=by omega
  have hw:=wid8 (a1:=a1) (by omega) (by omega)
  rcases hw with rfl|rfl|rfl|rfl|rfl|rfl|rfl|rfl
  all_goals
    refine ⟨12,fun k hk=>?_⟩
    obtain⟨j,rfl⟩ : ∃ j,k=j+12:=⟨k - 12,by omega⟩
    simp[copseref1_Put.f,copseref1_Put.j0,copseref1_Put.l0,wrap64,IntKind.wrap,IntKind.bits,IntKind.signed,putbad,putrow,codec_Put.row,shr,hx]
    try (split <;> simp_all)

/-! pairs, their marks, and whether they are kept -/
theorem rdp (l:List S58) (i:Nat) (h:i<l.length):rd_T58 l (i:Int)=l[i]:=by
  unfold rd_T58
  rw[Int.toNat_natCast,List.getD_eq_getElem?_getD,List.getElem?_eq_getElem h]
  rfl
theorem digit_cut : ∀ d:Nat,d<10→(([48,49,50,51,52,53,54,55,56,57]:List Int).take (d+1)).drop d=[48+(d:Int)]:=by decide
def mk (j:Nat):S58:=⟨(⟨#[109,97,114,107]⟩:ByteArray),strOfNums [48+((j % 10:Nat):Int)]⟩
theorem mark_ev (j:Nat) (h:j<64):Ev (fun k=>copselaw7_mark.f k (j:Int)) ((mk j).f0,(mk j).f1):=by
  have hb:=Bytes_ev (⟨#[48,49,50,51,52,53,54,55,56,57]⟩:ByteArray) (by decide)
  refine Ev.bind hb (Ev.const fun k=>?_)
  have e:bytesOf (⟨#[48,49,50,51,52,53,54,55,56,57]⟩:ByteArray)=[48,49,50,51,52,53,54,55,56,57]:=by decide
  rw[e,show Int.tmod (j:Int) 10=((j % 10:Nat):Int) from rfl,w64 (by omega) (by omega),if_pos (by omega),if_pos (by omega),if_pos (by simp;omega),
    show (((j % 10:Nat):Int)+1).toNat=j % 10+1 by omega,Int.toNat_natCast,digit_cut _ (by omega)]
  rfl
def marksP:List S58:=(List.range 64).map mk
theorem marksP_len:marksP.length=64:=by simp[marksP]
theorem marksP_at (j:Nat) (h:j<64):marksP[j]'(by rw[marksP_len];exact h)=mk j:=by simp[marksP]
theorem pairs_ev (l:List S58) (hl:l.length*32≤140737488351232):Ev (fun k=>copselaw7_pairs.f k l) (l++marksP):=by
  have h1:=Ev.loop' (σ:=fun i k=>copselaw7_pairs.l1 k (l++marksP.take i) (i:Int)) (r:=l++marksP) (n:=64) (fun i hi hn=>by
    have hlen:(l++marksP.take i).length=l.length+i:=by rw[List.length_append,List.length_take,marksP_len];omega
    refine Ev.step (f:=fun k=>(copselaw7_mark.f k (i:Int)).bind fun bt116=>if (l++marksP.take i).length<4398046511104 then copselaw7_pairs.l1 k ((l++marksP.take i)++[(⟨bt116.1,bt116.2⟩:S58)]) (wrap64 ((i:Int)+1)) else none) (fun k=>?_) (Ev.bind (mark_ev i hi) ?_)
    · simp only[copselaw7_pairs.l1]
      rw[if_pos (by omega)]
    · refine Ev.congr (fun k=>?_) hn
      rw[if_pos (by rw[hlen];omega),w64 (by omega) (by omega),←take_snoc marksP i (by rw[marksP_len];exact hi),marksP_at i hi,List.append_assoc]
      rfl) (Ev.done fun k=>by
    simp only[copselaw7_pairs.l1]
    rw[if_neg (by omega),List.take_of_length_le (by rw[marksP_len];omega)]) 0 (by omega)
  have h0:=Ev.loop (σ:=fun i k=>copselaw7_pairs.l0 k l (l.take i) (i:Int)) (r:=l++marksP) (n:=l.length) (fun i hi k=>by
    have hlen:(l.take i).length=i:=by rw[List.length_take];omega
    simp only[copselaw7_pairs.l0]
    rw[if_pos (by omega),if_pos (by omega),if_pos (by omega),rdp l i hi,w64 (by omega) (by omega),take_snoc l i hi]
    rfl) (Ev.step (fun k=>by
    simp only[copselaw7_pairs.l0]
    rw[if_neg (by omega),List.take_of_length_le (by omega)]) (by simpa using h1)) 0 (by omega)
  exact h0

theorem SamePairs_ev (l:List S58) (hl:l.length≤140737488351232):Ev (fun k=>copseref0_SamePairs.f k l l) true:=by
  have h:=Ev.loop (σ:=fun i k=>copseref0_SamePairs.l0 k l l (i:Int)) (r:=true) (n:=l.length) (fun i hi k=>by
    simp only[copseref0_SamePairs.l0]
    rw[if_pos (by omega),if_pos (by omega),if_pos (by omega),if_neg (by simp),w64 (by omega) (by omega)]
    rfl) (Ev.done fun k=>by
    simp only[copseref0_SamePairs.l0]
    rw[if_neg (by omega)]) 0 (by omega)
  exact Ev.congr (fun k=>by simp[copseref0_SamePairs.f]) h

/-! the sizes of pairs, and whether they may stand in a leaf -/
theorem wrap_add (a b:Int):wrap64 (wrap64 a+b)=wrap64 (a+b):=by unfold wrap64;omega
theorem add_wrap (a b:Int):wrap64 (a+wrap64 b)=wrap64 (a+b):=by unfold wrap64;omega
theorem size_step (s a b:Int):wrap64 (wrap64 s+wrap64 (wrap64 (5+a)+b))=wrap64 (s+(5+a+b)):=by unfold wrap64;omega
theorem size_step' (s a b:Int):wrap64 (wrap64 (wrap64 (wrap64 s+5)+a)+b)=wrap64 (s+(5+a+b)):=by unfold wrap64;omega
def cost (p:S58):Int:=5+(p.f0.size:Int)+(p.f1.size:Int)
def sizeT (l:List S58):Int:=(l.map cost).sum
theorem sizeT_snoc (l:List S58) (p:S58):sizeT (l++[p])=sizeT l+cost p:=by simp[sizeT]
theorem Size_ev (l:List S58) (hl:l.length*32≤140737488351232):Ev (fun k=>leaf_Size.f k l) (wrap64 (sizeT l)):=by
  have h0:=Ev.loop (σ:=fun i k=>leaf_Size.l0 k (wrap64 (sizeT (l.take i))) l (l.length:Int) (i:Int)) (r:=wrap64 (sizeT l)) (n:=l.length) (fun i hi k=>by
    simp only[leaf_Size.l0,leaf_cost.f,Option.bind_some]
    rw[if_pos (by omega),if_pos (by omega),if_pos (by omega),rdp l i hi,w64 (n:=(i:Int)+1) (by omega) (by omega),size_step,←take_snoc l i hi,sizeT_snoc]
    rfl) (Ev.done fun k=>by
    simp only[leaf_Size.l0]
    rw[if_neg (by omega),List.take_of_length_le (by omega)]) 0 (by omega)
  rw[show wrap64 (sizeT (l.take 0))=0 by simp[sizeT,wrap64]] at h0
  exact h0
def okp (p:S58):Prop:=1≤p.f0.size∧p.f0.size≤255∧p.f1.size≤700
def Rises (l:List S58):Prop:=∀ i:Nat,i+1<l.length→Op.bytesLess (rd_T58 l (i:Int)).f0.toList (rd_T58 l ((i+1:Nat):Int)).f0.toList=true
open Classical in
noncomputable def chk (l:List S58) (root:Bool):Option Int:=
  if ∀ p∈l,okp p then
    if Rises l then (if wrap64 (sizeT l) > 4072 then some 3 else if l.length=0 then some 4 else if root=true then none else if wrap64 (sizeT l)<1556 then some 4 else none)
    else some 12
  else some 1
theorem first_bad {p:Nat→Prop} (h : ¬ ∀ i,p i) : ∃ i,¬ p i:=Classical.byContradiction fun hn=>h fun i=>Classical.byContradiction fun hi=>hn ⟨i,hi⟩
theorem bad_at {l:List S58} (h : ¬ ∀ p∈l,okp p) : ∃ i,∃ hi:i<l.length,¬ okp l[i]:=by
  refine Classical.byContradiction fun hn=>h fun p hp=>Classical.byContradiction fun hb=>hn ?_
  obtain⟨i,hi,rfl⟩:=List.mem_iff_getElem.1 hp
  exact ⟨i,hi,hb⟩
theorem fall_at {l:List S58} (h : ¬ Rises l) : ∃ i:Nat,i+1<l.length∧¬ Op.bytesLess (rd_T58 l (i:Int)).f0.toList (rd_T58 l ((i+1:Nat):Int)).f0.toList=true:=by
  refine Classical.byContradiction fun hn=>h fun i hi=>Classical.byContradiction fun hb=>hn ⟨i,hi,hb⟩
theorem Check_ev (l:List S58) (root:Bool) (hl:l.length*32≤140737488351232):Ev (fun k=>leaf_Check.f k l root) (chk l root):=by
  have hS:=Size_ev l hl
  have hstep : ∀ i (hi:i<l.length),okp l[i]→∀ k,leaf_Check.l0 (k+1) l root l (l.length:Int) (i:Int)=leaf_Check.l0 k l root l (l.length:Int) ((i+1:Nat):Int):=fun i hi ho k=>by
    obtain⟨o1,o2,o3⟩:=ho
    simp only[leaf_Check.l0]
    rw[if_pos (by omega),if_pos (by omega),if_pos (by omega),rdp l i hi,if_neg (by omega),if_neg (by omega),if_neg (by omega),w64 (by omega) (by omega)]
    rfl
  by_cases ha : ∀ p∈l,okp p
  · have hlast:Ev (fun k=>leaf_Check.l1 k l root true (l.length:Int) 0) (chk l root):=by
      have hup : ∀ i:Nat,i<l.length→(i=0∨Op.bytesLess (rd_T58 l ((i - 1:Nat):Int)).f0.toList (rd_T58 l (i:Int)).f0.toList=true)→∀ k,leaf_Check.l1 (k+1) l root true (l.length:Int) (i:Int)=leaf_Check.l1 k l root true (l.length:Int) ((i+1:Nat):Int):=fun i hi ho k=>by
        simp only[leaf_Check.l1]
        rw[if_pos (by omega)]
        by_cases h0:i=0
        · subst h0
          rw[if_neg (by omega),w64 (by omega) (by omega)]
          rfl
        · have ho:=ho.resolve_left h0
          rw[if_pos (by omega),w64 (n:=(i:Int) - 1) (by omega) (by omega),show (i:Int) - 1=((i - 1:Nat):Int) by omega,if_pos (by omega),if_pos (by omega),if_pos (by omega),if_pos (by omega),if_pos ho,w64 (by omega) (by omega)]
          rfl
      by_cases hr:Rises l
      · refine Ev.loop (σ:=fun i k=>leaf_Check.l1 k l root true (l.length:Int) (i:Int)) (r:=chk l root) (n:=l.length) (fun i hi k=>hup i hi (by
          by_cases h0:i=0
          · exact .inl h0
          · have:=hr (i - 1) (by omega)
            rw[show i - 1+1=i by omega] at this
            exact .inr this) k) ?_ 0 (by omega)
        refine Ev.step (f:=fun k=>leaf_Check.j2 k l root true) (fun k=>?_) (Ev.step (f:=fun k=>(leaf_Size.f k l).bind fun t129=>(if t129 > 4072 then (some (some 3)) else (if (l.length:Int)=0 then (some (some 4)) else (if root=true then (some none) else (if t129<1556 then (some (some 4)) else (some none)))))) (fun k=>?_) (Ev.bind hS (Ev.const fun k=>?_)))
        · simp only[leaf_Check.l1]
          rw[if_neg (by omega)]
        · simp only[leaf_Check.j2]
          rfl
        · unfold chk
          rw[if_pos ha,if_pos hr]
          by_cases c1:wrap64 (sizeT l) > 4072
          · rw[if_pos c1,if_pos c1]
          rw[if_neg c1,if_neg c1]
          by_cases c2:l.length=0
          · rw[if_pos c2,if_pos (by omega)]
          rw[if_neg c2,if_neg (by omega)]
          by_cases c3:root=true
          · rw[if_pos c3,if_pos c3]
          rw[if_neg c3,if_neg c3]
          by_cases c4:wrap64 (sizeT l)<1556
          · rw[if_pos c4,if_pos c4]
          rw[if_neg c4,if_neg c4]
      · obtain⟨i0,hi0,hb⟩:=fall_at hr
        have hend:Ev (fun k=>leaf_Check.j2 k l root false) (chk l root):=Ev.step (f:=fun k=>(leaf_Size.f k l).bind fun t129=>some (some 12)) (fun k=>by simp only[leaf_Check.j2];rfl) (Ev.bind hS (Ev.const fun k=>by unfold chk;rw[if_pos ha,if_neg hr]))
        refine Ev.loop' (σ:=fun i k=>leaf_Check.l1 k l root true (l.length:Int) (i:Int)) (r:=chk l root) (n:=i0+1) (fun i hi hn=>?_) ?_ 0 (by omega)
        · by_cases ho:i=0∨Op.bytesLess (rd_T58 l ((i - 1:Nat):Int)).f0.toList (rd_T58 l (i:Int)).f0.toList=true
          · exact Ev.step (fun k=>hup i (by omega) ho k) hn
          · refine Ev.step (fun k=>?_) hend
            simp only[leaf_Check.l1]
            rw[if_pos (by omega),if_pos (by omega),w64 (n:=(i:Int) - 1) (by omega) (by omega),show (i:Int) - 1=((i - 1:Nat):Int) by omega,if_pos (by omega),if_pos (by omega),if_pos (by omega),if_pos (by omega),if_neg (fun h=>ho (.inr h))]
        · refine Ev.step (fun k=>?_) hend
          simp only[leaf_Check.l1]
          rw[if_pos (by omega),if_pos (by omega),w64 (n:=((i0+1:Nat):Int) - 1) (by omega) (by omega),show ((i0+1:Nat):Int) - 1=(i0:Int) by omega,if_pos (by omega),if_pos (by omega),if_pos (by omega),if_pos (by omega),if_neg hb]
    refine Ev.loop (σ:=fun i k=>leaf_Check.l0 k l root l (l.length:Int) (i:Int)) (r:=chk l root) (n:=l.length) (fun i hi k=>hstep i hi (ha _ (List.getElem_mem hi)) k) ?_ 0 (by omega)
    refine Ev.step (fun k=>?_) hlast
    simp only[leaf_Check.l0]
    rw[if_neg (by omega)]
  · obtain⟨i0,hi0,hb⟩:=bad_at ha
    have hbad : ∀ i (hi:i<l.length),¬ okp l[i]→Ev (fun k=>leaf_Check.l0 k l root l (l.length:Int) (i:Int)) (chk l root):=fun i hi ho=>Ev.done fun k=>by
      unfold chk
      rw[if_neg ha]
      simp only[leaf_Check.l0]
      rw[if_pos (by omega),if_pos (by omega),if_pos (by omega),rdp l i hi]
      unfold okp at ho
      by_cases c1:(l[i].f0.size:Int)<1
      · rw[if_pos c1]
      rw[if_neg c1]
      by_cases c2:(l[i].f0.size:Int) > 255
      · rw[if_pos c2]
      rw[if_neg c2,if_pos (by omega)]
    refine Ev.loop' (σ:=fun i k=>leaf_Check.l0 k l root l (l.length:Int) (i:Int)) (r:=chk l root) (n:=i0) (fun i hi hn=>?_) (hbad i0 hi0 hb) 0 (by omega)
    by_cases ho:okp l[i]
    · exact Ev.step (fun k=>hstep i (by omega) ho k) hn
    · exact hbad i (by omega) ho

theorem RSize_ev (l:List S58) (hl:l.length*32≤140737488351232):Ev (fun k=>copseref7_Size.f k l) (wrap64 (sizeT l)):=by
  have h0:=Ev.loop (σ:=fun i k=>copseref7_Size.l0 k l (wrap64 (sizeT (l.take i))) (i:Int)) (r:=wrap64 (sizeT l)) (n:=l.length) (fun i hi k=>by
    simp only[copseref7_Size.l0]
    rw[if_pos (by omega),if_pos (by omega),rdp l i hi,w64 (n:=(i:Int)+1) (by omega) (by omega),size_step',←take_snoc l i hi,sizeT_snoc]
    rfl) (Ev.done fun k=>by
    simp only[copseref7_Size.l0]
    rw[if_neg (by omega),List.take_of_length_le (by omega)]) 0 (by omega)
  rw[show wrap64 (sizeT (l.take 0))=0 by simp[sizeT,wrap64]] at h0
  exact h0
def rnum (e:Option Int):Int:=e.getD 0
theorem RCheck_ev (l:List S58) (root:Bool) (hl:l.length*32≤140737488351232):Ev (fun k=>copseref7_Check.f k l root) (rnum (chk l root)):=by
  have hS:=RSize_ev l hl
  have hM : ∀ p:S58,copseref7_MayBe.f p.f0 p.f1=some (decide (1≤p.f0.size∧p.f0.size≤255∧p.f1.size≤700)):=fun p=>by
    unfold copseref7_MayBe.f
    by_cases c1:(p.f0.size:Int)≥1
    · rw[if_pos c1]
      by_cases c2:(p.f0.size:Int)≤255
      · rw[if_pos c2]
        congr 1
        by_cases c3:p.f1.size≤700
        · rw[decide_eq_true (by omega),decide_eq_true (by omega)]
        · rw[decide_eq_false (by omega),decide_eq_false (by omega)]
      · rw[if_neg c2,decide_eq_false (by omega)]
    · rw[if_neg c1,decide_eq_false (by omega)]
  have hstep : ∀ i (hi:i<l.length),okp l[i]→∀ k,copseref7_Check.l0 (k+1) l root (i:Int)=copseref7_Check.l0 k l root ((i+1:Nat):Int):=fun i hi ho k=>by
    simp only[copseref7_Check.l0]
    rw[if_pos (by omega),if_pos (by omega),rdp l i hi,hM,Option.bind_some,if_pos (decide_eq_true (show 1≤l[i].f0.size∧l[i].f0.size≤255∧l[i].f1.size≤700 from ho)),w64 (by omega) (by omega)]
    rfl
  by_cases ha : ∀ p∈l,okp p
  · have hlast:Ev (fun k=>copseref7_Check.l1 k l root 1) (rnum (chk l root)):=by
      have hup : ∀ i:Nat,1≤i→i<l.length→Op.bytesLess (rd_T58 l ((i - 1:Nat):Int)).f0.toList (rd_T58 l (i:Int)).f0.toList=true→∀ k,copseref7_Check.l1 (k+1) l root (i:Int)=copseref7_Check.l1 k l root ((i+1:Nat):Int):=fun i h1 hi ho k=>by
        simp only[copseref7_Check.l1]
        rw[if_pos (by omega),w64 (n:=(i:Int) - 1) (by omega) (by omega),show (i:Int) - 1=((i - 1:Nat):Int) by omega,if_pos (by omega),if_pos (by omega),if_pos (by omega),if_pos ho,w64 (by omega) (by omega)]
        rfl
      have hend : ∀ i:Nat,l.length≤i→i≤l.length+1→Rises l→Ev (fun k=>copseref7_Check.l1 k l root (i:Int)) (rnum (chk l root)):=fun i hi hi2 hr=>by
        refine Ev.step (f:=fun k=>(copseref7_Size.f k l).bind fun t148=>(if t148 > 4072 then (some 3) else (if (l.length:Int)=0 then (some 4) else (if root=true then (some 0) else (if t148<1556 then (some 4) else (some 0)))))) (fun k=>?_) (Ev.bind hS (Ev.const fun k=>?_))
        · simp only[copseref7_Check.l1]
          rw[if_neg (by omega)]
        · unfold chk
          rw[if_pos ha,if_pos hr]
          by_cases c1:wrap64 (sizeT l) > 4072
          · rw[if_pos c1,if_pos c1];rfl
          rw[if_neg c1,if_neg c1]
          by_cases c2:l.length=0
          · rw[if_pos c2,if_pos (by omega)];rfl
          rw[if_neg c2,if_neg (by omega)]
          by_cases c3:root=true
          · rw[if_pos c3,if_pos c3];rfl
          rw[if_neg c3,if_neg c3]
          by_cases c4:wrap64 (sizeT l)<1556
          · rw[if_pos c4,if_pos c4];rfl
          rw[if_neg c4,if_neg c4];rfl
      by_cases hr:Rises l
      · by_cases h0:l.length=0
        · exact hend 1 (by omega) (by omega) hr
        · exact Ev.loop (σ:=fun i k=>copseref7_Check.l1 k l root ((i+1:Nat):Int)) (r:=rnum (chk l root)) (n:=l.length - 1) (fun i hi k=>hup (i+1) (by omega) (by omega) (hr i (by omega)) k) (hend _ (by omega) (by omega) hr) 0 (by omega)
      · obtain⟨i0,hi0,hb⟩:=fall_at hr
        have hfall : ∀ i:Nat,i+1<l.length→¬ Op.bytesLess (rd_T58 l (i:Int)).f0.toList (rd_T58 l ((i+1:Nat):Int)).f0.toList=true→Ev (fun k=>copseref7_Check.l1 k l root ((i+1:Nat):Int)) (rnum (chk l root)):=fun i hi hb=>Ev.done fun k=>by
          simp only[copseref7_Check.l1]
          rw[if_pos (by omega),w64 (n:=((i+1:Nat):Int) - 1) (by omega) (by omega),show ((i+1:Nat):Int) - 1=(i:Int) by omega,if_pos (by omega),if_pos (by omega),if_pos (by omega),if_neg hb]
          unfold chk
          rw[if_pos ha,if_neg hr]
          rfl
        refine Ev.loop' (σ:=fun i k=>copseref7_Check.l1 k l root ((i+1:Nat):Int)) (r:=rnum (chk l root)) (n:=i0) (fun i hi hn=>?_) (hfall i0 hi0 hb) 0 (by omega)
        by_cases ho:Op.bytesLess (rd_T58 l (i:Int)).f0.toList (rd_T58 l ((i+1:Nat):Int)).f0.toList=true
        · exact Ev.step (fun k=>hup (i+1) (by omega) (by omega) ho k) hn
        · exact hfall i (by omega) ho
    refine Ev.loop (σ:=fun i k=>copseref7_Check.l0 k l root (i:Int)) (r:=rnum (chk l root)) (n:=l.length) (fun i hi k=>hstep i hi (ha _ (List.getElem_mem hi)) k) ?_ 0 (by omega)
    refine Ev.step (fun k=>?_) hlast
    simp only[copseref7_Check.l0]
    rw[if_neg (by omega)]
  · obtain⟨i0,hi0,hb⟩:=bad_at ha
    have hbad : ∀ i (hi:i<l.length),¬ okp l[i]→Ev (fun k=>copseref7_Check.l0 k l root (i:Int)) (rnum (chk l root)):=fun i hi ho=>Ev.done fun k=>by
      unfold chk
      rw[if_neg ha]
      simp only[copseref7_Check.l0]
      rw[if_pos (by omega),if_pos (by omega),rdp l i hi,hM,Option.bind_some,if_neg (by simpa [okp] using ho)]
      rfl
    refine Ev.loop' (σ:=fun i k=>copseref7_Check.l0 k l root (i:Int)) (r:=rnum (chk l root)) (n:=i0) (fun i hi hn=>?_) (hbad i0 hi0 hb) 0 (by omega)
    by_cases ho:okp l[i]
    · exact Ev.step (fun k=>hstep i (by omega) ho k) hn
    · exact hbad i (by omega) ho
theorem chk_num (l:List S58) (root:Bool):copsekit_Num.f (chk l root)=some (rnum (chk l root)):=by
  unfold chk rnum
  split
  · split
    · split
      · simp[copsekit_Num.f,en]
      · split
        · simp[copsekit_Num.f,en]
        · split
          · simp[copsekit_Num.f]
          · split <;> simp[copsekit_Num.f,en]
    · simp[copsekit_Num.f,copsekit_more.f,en]
  · simp[copsekit_Num.f,en]

/-! bodies: laid out and read -/
theorem bx_bytes (s:ByteArray) (a b:Nat):bytesOf (s.extract a b)=((bytesOf s).take b).drop a:=by
  unfold bytesOf
  rw[ByteArray.data_extract,Array.toList_extract,List.extract_eq_take_drop]
  rw[←List.map_take,←List.map_drop,List.drop_take]
theorem str_bytes (s:ByteArray):strOfNums (bytesOf s)=s:=by
  unfold strOfNums bytesOf
  rw[List.map_map,show ((fun n:Int=>UInt8.ofNat n.toNat)∘fun b:UInt8=>(b.toNat:Int))=id from by
    funext b
    simp]
  simp
theorem bytes_inj {s t:ByteArray} (h:bytesOf s=bytesOf t):s=t:=by rw[←str_bytes s,←str_bytes t,h]
theorem bytes_str (l:List Int) (h : ∀ z∈l,0≤z∧z<256):bytesOf (strOfNums l)=l:=by
  unfold strOfNums bytesOf
  rw[List.map_map]
  refine (List.map_congr_left (g:=id) fun z hz=>?_).trans (List.map_id l)
  have:=h z hz
  simp only[Function.comp_apply,id]
  rw[UInt8.toNat_ofNat']
  omega
/-- The byte at a place. -/
def b_ (s:ByteArray) (k:Nat):Nat:=((bytesOf s).getD k 0).toNat
theorem b_lt (s:ByteArray) (k:Nat):b_ s k<256:=by
  unfold b_
  rw[List.getD_eq_getElem?_getD]
  rcases h:(bytesOf s)[k]? with _|z
  · decide
  · have hz:=bytesOf_range s z (List.mem_of_getElem? h)
    simp only[Option.getD_some]
    omega
theorem bt_b (s:ByteArray) (k:Nat) (h:k<s.size):bt s (k:Int)=(b_ s k:Int):=by
  rw[bt_nat s k h]
  have hz:=bytesOf_range s _ (List.getElem_mem (l:=bytesOf s) (n:=k) (by rw[bytesOf_length];exact h))
  unfold b_
  rw[List.getD_eq_getElem?_getD,List.getElem?_eq_getElem (by rw[bytesOf_length];exact h)]
  simp only[Option.getD_some]
  omega
theorem b_get (s:ByteArray) (k:Nat) (h:k<s.size):(bytesOf s)[k]?=some (b_ s k:Int):=by
  have hz:=bytesOf_range s _ (List.getElem_mem (l:=bytesOf s) (n:=k) (by rw[bytesOf_length];exact h))
  unfold b_
  rw[List.getD_eq_getElem?_getD,List.getElem?_eq_getElem (by rw[bytesOf_length];exact h)]
  simp only[Option.getD_some]
  congr 1
  omega
/-- The slot of that number. -/
def slot (s:ByteArray) (i:Nat):Nat:=b_ s (2*i)*256+b_ s (2*i+1)
def readL (s:ByteArray):Nat→Nat→Nat→Option (List ByteArray×Nat)
  |0,_,at_=>some ([],at_)
  |d+1,i,at_=>if slot s i<at_∨4072<slot s i then none else (readL s d (i+1) (slot s i)).map fun x=>(s.extract at_ (slot s i)::x.1,x.2)
def clean (s:ByteArray) (t:Nat):Prop:=∀ k,t≤k→k<4072→b_ s k=0
open Classical in
noncomputable def readv (count:Int) (s:ByteArray):List ByteArray×Option Int:=
  if count<0∨2036<count∨s.size≠4072 then ([],some 2)
  else match readL s count.toNat 0 (2*count.toNat) with
    |none=>([],some 2)
    |some (l,t)=>if clean s t then (l,none) else ([],some 2)
theorem or_slot (x y:Nat) (hx:x<256) (hy:y<256):Go.bits .or .i64 (wrap64 ((wrap64 (x:Int))*256)) (wrap64 (y:Int))=((x*256+y:Nat):Int):=by
  rw[w64 (n:=(x:Int)) (by omega) (by omega),w64 (by omega) (by omega),w64 (by omega) (by omega)]
  rw[bits_join .i64 16 (by decide) (fun n a b=>by
    have h16:(2:Int) ^ 16=65536:=by decide
    rw[h16] at b
    exact (i64_w n).trans (w64 (by omega) (by omega))) 8 _ _ (by omega) (by simp) (by
    have h16:(2:Int) ^ 16=65536:=by decide
    omega) (by omega) (by simpa using (by omega:(y:Int)<256)) (by
    have h16:(2:Int) ^ 16=65536:=by decide
    omega)]
  omega
theorem clean_ev (s:ByteArray) (hs:s.size=4072) (l:List ByteArray) (t:Nat) (r:List ByteArray×Option Int) (hc:clean s t→r=(l,none)) (hn : ¬ clean s t→r=([],some 2)) (ht:t≤4072) :
    Ev (fun k=>cells_Read.l1 k s l (t:Int)) r:=by
  by_cases h:clean s t
  · rw[hc h]
    have:=Ev.loop (σ:=fun i k=>cells_Read.l1 k s l ((t+i:Nat):Int)) (r:=(l,none)) (n:=4072 - t) (fun i hi k=>by
      have hb:b_ s (t+i)=0:=h (t+i) (by omega) (by omega)
      simp only[cells_Read.l1]
      rw[if_pos (by omega),if_pos (by omega),bt_b s (t+i) (by omega),hb,if_pos (by rfl),w64 (by omega) (by omega)]
      rfl) (Ev.done fun k=>by
      simp only[cells_Read.l1]
      rw[if_neg (by omega)]) 0 (by omega)
    exact this
  · rw[hn h]
    have : ∃ k,t≤k∧k<4072∧b_ s k≠0:=by
      refine Classical.byContradiction fun hne=>h fun k h1 h2=>Classical.byContradiction fun hb=>hne ⟨k,h1,h2,hb⟩
    obtain⟨k0,h1,h2,h3⟩:=this
    have hbad : ∀ k,k<4072→b_ s k≠0→Ev (fun f=>cells_Read.l1 f s l (k:Int)) ([],some 2):=fun k hk hb=>Ev.done fun f=>by
      simp only[cells_Read.l1]
      rw[if_pos (by omega),if_pos (by omega),bt_b s k (by omega),if_neg (by omega)]
    have:=Ev.loop' (σ:=fun i k=>cells_Read.l1 k s l ((t+i:Nat):Int)) (r:=(([],some 2):List ByteArray×Option Int)) (n:=k0 - t) (fun i hi hnx=>by
      by_cases hb:b_ s (t+i)=0
      · refine Ev.step (fun k=>?_) hnx
        simp only[cells_Read.l1]
        rw[if_pos (by omega),if_pos (by omega),bt_b s (t+i) (by omega),hb,if_pos (by rfl),w64 (by omega) (by omega)]
        rfl
      · exact hbad (t+i) (by omega) hb) (by
      have:=hbad k0 h2 h3
      rwa [show t+(k0 - t)=k0 by omega]) 0 (by omega)
    exact this
theorem readL_bd (s:ByteArray) : ∀ (d i at_:Nat) (l:List ByteArray) (t:Nat),at_≤4072→readL s d i at_=some (l,t)→t≤4072
  |0,i,at_,l,t,ha,h=>by simp only[readL,Option.some.injEq,Prod.mk.injEq] at h;omega
  |d+1,i,at_,l,t,ha,h=>by
    unfold readL at h
    by_cases c:slot s i<at_∨4072<slot s i
    · rw[if_pos c] at h;cases h
    · rw[if_neg c] at h
      obtain⟨x,hx,he⟩:=Option.map_eq_some_iff.1 h
      simp only[Prod.mk.injEq] at he
      have:=readL_bd s d (i+1) (slot s i) x.1 x.2 (by omega) hx
      omega
theorem read_loop (s:ByteArray) (hs:s.size=4072) (n:Nat) (hn:n≤2036) : ∀ (d i at_:Nat) (acc:List ByteArray) (r:List ByteArray×Option Int),i+d=n→at_≤4072→acc.length≤i→
    (match readL s d i at_ with|none=>r=([],some 2)|some (l,t)=>(clean s t→r=(acc++l,none))∧(¬ clean s t→r=([],some 2)))→
    Ev (fun k=>cells_Read.l0 k s acc (at_:Int) (n:Int) (i:Int)) r:=by
  intro d
  induction d with
  |zero=>
    intro i at_ acc r hi ha hl hr
    simp only[readL] at hr
    rw[List.append_nil] at hr
    refine Ev.step (fun k=>?_) (clean_ev s hs acc at_ r hr.1 hr.2 ha)
    simp only[cells_Read.l0]
    rw[if_neg (by omega)]
  |succ d ih=>
    intro i at_ acc r hi ha hl hr
    have hb1:=b_lt s (2*i)
    have hb2:=b_lt s (2*i+1)
    have w1:wrap64 (2*(i:Int))=((2*i:Nat):Int):=by rw[w64 (by omega) (by omega)];omega
    have w2:wrap64 (((2*i:Nat):Int)+1)=((2*i+1:Nat):Int):=by rw[w64 (by omega) (by omega)];omega
    have hs1:Go.bits .or .i64 (wrap64 ((wrap64 (bt s ((2*i:Nat):Int)))*256)) (wrap64 (bt s ((2*i+1:Nat):Int)))=((slot s i:Nat):Int):=by
      rw[bt_b s (2*i) (by omega),bt_b s (2*i+1) (by omega),or_slot _ _ hb1 hb2]
      rfl
    unfold readL at hr
    have c1:(i:Int)<(n:Int):=by omega
    have c2:(0:Int)≤((2*i:Nat):Int):=by omega
    have c3:((2*i:Nat):Int)<(s.size:Int):=by omega
    have c4:(0:Int)≤((2*i+1:Nat):Int):=by omega
    have c5:((2*i+1:Nat):Int)<(s.size:Int):=by omega
    by_cases c:slot s i<at_∨4072<slot s i
    · rw[if_pos c] at hr
      simp only at hr
      rw[hr]
      refine Ev.done fun k=>?_
      simp only[cells_Read.l0,w1,w2,hs1]
      rw[if_pos c1,if_pos c2,if_pos c3,if_pos c4,if_pos c5]
      by_cases e:slot s i<at_
      · rw[if_pos (by omega)]
      · rw[if_neg (by omega),if_pos (by omega)]
    · rw[if_neg c] at hr
      have hstep : ∀ k,cells_Read.l0 (k+1) s acc (at_:Int) (n:Int) (i:Int)=cells_Read.l0 k s (acc++[s.extract at_ (slot s i)]) ((slot s i:Nat):Int) (n:Int) ((i+1:Nat):Int):=fun k=>by
        have d1 : ¬ ((slot s i:Nat):Int)<(at_:Int):=by omega
        have d2 : ¬ ((slot s i:Nat):Int) > (s.size:Int):=by omega
        have d3:(0:Int)≤(at_:Int):=by omega
        have d4:(at_:Int)≤((slot s i:Nat):Int):=by omega
        have d5:((slot s i:Nat):Int)≤(s.size:Int):=by omega
        have d6:acc.length<8796093022208:=by omega
        have w3:wrap64 ((i:Int)+1)=((i+1:Nat):Int):=w64 (by omega) (by omega)
        simp only[cells_Read.l0,w1,w2,hs1,w3]
        rw[if_pos c1,if_pos c2,if_pos c3,if_pos c4,if_pos c5,if_neg d1,if_neg d2,if_pos d3,if_pos d4,if_pos d5,if_pos d6,Int.toNat_natCast,Int.toNat_natCast]
      refine Ev.step hstep (ih (i+1) (slot s i) _ r (by omega) (by omega) (by simp;omega) ?_)
      rcases hq:readL s d (i+1) (slot s i) with _|⟨l,t⟩
      · rw[hq] at hr
        simpa using hr
      · rw[hq] at hr
        simp only[Option.map_some] at hr
        show (clean s t→r=(acc++[s.extract at_ (slot s i)]++l,none))∧(¬clean s t→r=([],some 2))
        rw[List.append_assoc]
        exact hr
theorem Read_ev (count:Int) (s:ByteArray):Ev (fun k=>cells_Read.f k count s) (readv count s):=by
  have hbad:Ev (fun k=>cells_Read.j0 k count s true) ([],some 2):=Ev.done fun k=>by simp[cells_Read.j0]
  unfold readv
  by_cases c1:count<0
  · rw[if_pos (.inl c1)]
    exact Ev.congr (fun k=>by unfold cells_Read.f;rw[if_pos c1]) hbad
  by_cases c2:2036<count
  · rw[if_pos (.inr (.inl c2))]
    exact Ev.congr (fun k=>by unfold cells_Read.f;rw[if_neg c1,if_pos c2]) hbad
  by_cases c3:s.size=4072
  · rw[if_neg (by omega)]
    obtain⟨n,rfl⟩:=Int.eq_ofNat_of_zero_le (show 0≤count by omega)
    have hw:wrap64 (2*(n:Int))=((2*n:Nat):Int):=by rw[w64 (by omega) (by omega)];omega
    refine Ev.congr (f:=fun k=>cells_Read.j0 k (n:Int) s false) (fun k=>by
      unfold cells_Read.f
      rw[if_neg c1,if_neg c2,c3]
      rfl) (Ev.step (f:=fun k=>cells_Read.l0 k s ([]:List ByteArray) ((2*n:Nat):Int) (n:Int) 0) (fun k=>by
      simp only[cells_Read.j0,hw]
      rw[if_neg (by simp),if_pos (by omega),if_pos (by omega)]) ?_)
    refine read_loop s c3 n (by omega) n 0 (2*n) [] _ (by omega) (by omega) (by simp) ?_
    rw[Int.toNat_natCast]
    rcases hq:readL s n 0 (2*n) with _|⟨l,t⟩
    · rfl
    · exact ⟨fun h=>by simp[h],fun h=>by simp[h]⟩
  · rw[if_pos (.inr (.inr c3))]
    exact Ev.congr (fun k=>by
      unfold cells_Read.f
      rw[if_neg c1,if_neg c2,show ((s.size:Int) != 4072)=true by rw[bne_iff_ne];omega]) hbad

/-! what Lay lays -/
theorem rdO (l:List ByteArray) (i:Nat) (h:i<l.length):rdOf ByteArray.empty l (i:Int)=l[i]:=by
  unfold rdOf
  rw[Int.toNat_natCast,List.getD_eq_getElem?_getD,List.getElem?_eq_getElem h]
  rfl
theorem gD (l:List ByteArray) (i:Nat) (h:i<l.length):l.getD i ⟨#[]⟩=l[i]:=by
  rw[List.getD_eq_getElem?_getD,List.getElem?_eq_getElem h]
  rfl
theorem size_w (a b:Int):wrap64 (wrap64 a+b)=wrap64 (a+b):=by unfold wrap64;omega
theorem SizeC_ev (l:List ByteArray) (hl:l.length≤8796093022208):Ev (fun k=>cells_Size.f k l) (wrap64 ((layE l l.length:Nat):Int)):=by
  have h0:=Ev.loop (σ:=fun i k=>cells_Size.l0 k (wrap64 ((layE l i:Nat):Int)) l (l.length:Int) (i:Int)) (r:=wrap64 ((layE l l.length:Nat):Int)) (n:=l.length) (fun i hi k=>by
    have e:=layE_succ l i hi
    rw[gD l i hi] at e
    have c1:(i:Int)<(l.length:Int):=by omega
    have c2:(0:Int)≤(i:Int):=by omega
    have w1:wrap64 ((i:Int)+1)=((i+1:Nat):Int):=w64 (by omega) (by omega)
    simp only[cells_Size.l0]
    rw[if_pos c1,if_pos c2,if_pos c1,rdO l i hi,size_w,w1,e]
    congr 2) (Ev.done fun k=>by
    simp only[cells_Size.l0]
    rw[if_neg (by omega)]) 0 (by omega)
  refine Ev.congr (fun k=>?_) h0
  unfold cells_Size.f layE
  simp
def layS (l:List ByteArray):ByteArray:=strOfNums (layC l l.length)
theorem Lay_ev (l:List ByteArray) (hl:l.length≤8796093022208) (ht:layE l l.length<4611686018427387904):Ev (fun k=>cells_Lay.f k l) (if layE l l.length≤4072 then (layS l,none) else ((⟨#[]⟩:ByteArray),some 3)):=by
  have h:=SizeC_ev l hl
  rw[w64 (by omega) (by omega)] at h
  unfold cells_Lay.f
  refine Ev.bind h (Ev.const fun k=>?_)
  by_cases c:layE l l.length≤4072
  · rw[if_neg (by omega),if_pos c,if_pos c]
    rfl
  · rw[if_pos (by omega),if_neg c]
theorem layC_at (l:List ByteArray) (hfit:layE l l.length≤4072) (i:Nat) (hi:i<l.length) (k:Nat) :
    (layC l (i+1))[k]?=if k=2*i+1 then some ((layE l (i+1):Int) % 256) else if k=2*i then some ((layE l (i+1):Int) / 256 % 256) else
      if k<layE l i then (layC l i)[k]? else if k<layE l (i+1) then (bytesOf l[i])[k - layE l i]? else (layC l i)[k]?:=by
  have hC:=layC_len l hfit i (by omega)
  have e1:=layE_succ l i hi
  have e2:=layE_le l (i+1) hi
  have e3:2*l.length≤layE l i:=by unfold layE;omega
  rw[gD l i hi] at e1
  have hb:(bytesOf l[i]).length=l[i].size:=bytesOf_length _
  have ht:((layC l i).take (layE l i)).length=layE l i:=by rw[List.length_take,hC];omega
  simp only[layC]
  rw[gD l i hi,List.getElem?_set,List.getElem?_set]
  have hlen:((layC l i).take (layE l i)++bytesOf l[i]++(layC l i).drop (layE l (i+1))).length=4072:=by
    simp only[List.length_append,ht,hb,List.length_drop,hC];omega
  rw[List.length_set,hlen]
  by_cases c1:k=2*i+1
  · rw[if_pos c1.symm,if_pos c1,if_pos (by omega)]
  rw[if_neg (fun h=>c1 h.symm),if_neg c1]
  by_cases c2:k=2*i
  · rw[if_pos c2.symm,if_pos c2,if_pos (by omega)]
  rw[if_neg (fun h=>c2 h.symm),if_neg c2]
  by_cases c3:k<layE l i
  · rw[if_pos c3,List.append_assoc,List.getElem?_append_left (by omega),List.getElem?_take,if_pos c3]
  rw[if_neg c3]
  by_cases c4:k<layE l (i+1)
  · rw[if_pos c4,List.getElem?_append_left (by rw[List.length_append];omega),List.getElem?_append_right (by omega),ht]
  · rw[if_neg c4,List.getElem?_append_right (by rw[List.length_append];omega),List.getElem?_drop,List.length_append,ht,hb]
    congr 1
    omega
theorem layC_inv (l:List ByteArray) (hfit:layE l l.length≤4072) : ∀ i,i≤l.length→
    (∀ j (hj:j<i),(layC l i)[2*j]?=some ((layE l (j+1):Int) / 256 % 256)∧(layC l i)[2*j+1]?=some ((layE l (j+1):Int) % 256))∧
    (∀ j (hj:j<l.length),j<i→∀ m,m<l[j].size→(layC l i)[layE l j+m]?=(bytesOf l[j])[m]?)∧
    (∀ k,(layE l i≤k∨(2*i≤k∧k<2*l.length))→k<4072→(layC l i)[k]?=some 0):=by
  intro i
  induction i with
  |zero=>
    intro _
    refine ⟨fun j hj=>by omega,fun j _ hj=>by omega,fun k _ hk=>?_⟩
    rw[layC,List.getElem?_replicate,if_pos hk]
  |succ i ih=>
    intro hi
    obtain⟨i1,i2,i3⟩:=ih (by omega)
    have e1:=layE_succ l i hi
    rw[gD l i hi] at e1
    have e3:2*l.length≤layE l i:=by unfold layE;omega
    refine ⟨fun j hj=>?_,fun j hjl hj m hm=>?_,fun k hk hk2=>?_⟩
    · rw[layC_at l hfit i hi,layC_at l hfit i hi]
      by_cases c:j=i
      · subst c
        rw[if_neg (by omega),if_pos rfl,if_pos rfl]
        exact ⟨rfl,rfl⟩
      · rw[if_neg (by omega),if_neg (by omega),if_pos (by omega),if_neg (by omega),if_neg (by omega),if_pos (by omega)]
        exact i1 j (by omega)
    · have e4:2*l.length≤layE l j:=by unfold layE;omega
      rw[layC_at l hfit i hi,if_neg (by omega),if_neg (by omega)]
      by_cases c:j=i
      · subst c
        rw[if_neg (by omega),if_pos (by omega),show layE l j+m - layE l j=m by omega]
      · have e5:=layE_succ l j hjl
        rw[gD l j hjl] at e5
        have e6:layE l (j+1)≤layE l i:=by
          have : ∀ d,layE l (j+1)≤layE l (j+1+d):=by
            intro d
            induction d with
            |zero=>exact Nat.le_refl _
            |succ d ihd=>
              by_cases hd:j+1+d<l.length
              · have:=layE_succ l (j+1+d) hd
                rw[show j+1+(d+1)=j+1+d+1 by omega]
                omega
              · have:layE l (j+1+(d+1))=layE l (j+1+d):=by
                  unfold layE
                  rw[List.take_of_length_le (by omega),List.take_of_length_le (by omega)]
                omega
          have:=this (i - (j+1))
          rwa [show j+1+(i - (j+1))=i by omega] at this
        rw[if_pos (by omega)]
        exact i2 j hjl (by omega) m hm
    · rw[layC_at l hfit i hi,if_neg (by omega),if_neg (by omega)]
      by_cases c:k<layE l i
      · rw[if_pos c]
        exact i3 k (by omega) hk2
      · rw[if_neg c,if_neg (by omega)]
        exact i3 k (by omega) hk2
theorem layC_range (l:List ByteArray) : ∀ i,∀ z∈layC l i,0≤z∧z<256
  |0=>fun z hz=>by
    have:=List.eq_of_mem_replicate hz
    omega
  |i+1=>fun z hz=>by
    simp only[layC] at hz
    rcases List.mem_or_eq_of_mem_set hz with hz|hz
    · rcases List.mem_or_eq_of_mem_set hz with hz|hz
      · rcases List.mem_append.1 hz with hz|hz
        · rcases List.mem_append.1 hz with hz|hz
          · exact layC_range l i z (List.mem_of_mem_take hz)
          · exact bytesOf_range _ z hz
        · exact layC_range l i z (List.mem_of_mem_drop hz)
      · omega
    · omega
theorem layS_bytes (l:List ByteArray):bytesOf (layS l)=layC l l.length:=bytes_str _ (layC_range l _)
theorem layS_size (l:List ByteArray) (hfit:layE l l.length≤4072):(layS l).size=4072:=by
  rw[←bytesOf_length,layS_bytes,layC_len l hfit _ (Nat.le_refl _)]
theorem layS_b (l:List ByteArray) (k:Nat) (z:Int) (h:(layC l l.length)[k]?=some z):b_ (layS l) k=z.toNat:=by
  unfold b_
  rw[layS_bytes,List.getD_eq_getElem?_getD,h]
  rfl
theorem lay_slot (l:List ByteArray) (hfit:layE l l.length≤4072) (i:Nat) (hi:i<l.length):slot (layS l) i=layE l (i+1):=by
  obtain⟨i1,_,_⟩:=layC_inv l hfit l.length (Nat.le_refl _)
  obtain⟨h1,h2⟩:=i1 i hi
  have e2:=layE_le l (i+1) hi
  unfold slot
  rw[layS_b l _ _ h1,layS_b l _ _ h2]
  omega
theorem lay_cell (l:List ByteArray) (hfit:layE l l.length≤4072) (i:Nat) (hi:i<l.length):(layS l).extract (layE l i) (layE l (i+1))=l[i]:=by
  obtain⟨_,i2,_⟩:=layC_inv l hfit l.length (Nat.le_refl _)
  have e1:=layE_succ l i hi
  rw[gD l i hi] at e1
  refine bytes_inj (List.ext_getElem? fun m=>?_)
  rw[bx_bytes,layS_bytes,List.getElem?_drop,List.getElem?_take]
  by_cases c:m<l[i].size
  · rw[if_pos (by omega)]
    exact i2 i hi hi m c
  · rw[if_neg (by omega),List.getElem?_eq_none (by rw[bytesOf_length];omega)]
theorem lay_read (l:List ByteArray) (hfit:layE l l.length≤4072) : ∀ d i,i+d=l.length→readL (layS l) d i (layE l i)=some (l.drop i,layE l l.length)
  |0,i,h=>by
    rw[readL,show i=l.length by omega,List.drop_of_length_le (Nat.le_refl _)]
  |d+1,i,h=>by
    have hi:i<l.length:=by omega
    have e1:=layE_succ l i hi
    have e2:=layE_le l (i+1) hi
    rw[readL,lay_slot l hfit i hi,if_neg (by omega),lay_read l hfit d (i+1) (by omega),Option.map_some,lay_cell l hfit i hi,List.drop_eq_getElem_cons hi]
theorem lay_readv (l:List ByteArray) (hfit:layE l l.length≤4072):readv (l.length:Int) (layS l)=(l,none):=by
  obtain⟨_,_,i3⟩:=layC_inv l hfit l.length (Nat.le_refl _)
  have h2:2*l.length≤4072:=by unfold layE at hfit;omega
  have hr:=lay_read l hfit l.length 0 (by omega)
  have e0:layE l 0=2*l.length:=by simp[layE]
  unfold readv
  rw[if_neg (by rw[layS_size l hfit];omega),Int.toNat_natCast,←e0,hr]
  simp only[List.drop_zero]
  refine if_pos fun k h1 hk=>?_
  rw[layS_b l k 0 (i3 k (.inl h1) hk)]
  rfl
/-! what is read is laid out as the same body -/
theorem read_facts (s:ByteArray) : ∀ (d i at_:Nat) (l:List ByteArray) (t:Nat),s.size=4072→at_≤4072→readL s d i at_=some (l,t)→
    l.length=d∧t=at_+(l.map (·.size)).sum∧t≤4072∧(∀ j,j<d→slot s (i+j)=at_+((l.take (j+1)).map (·.size)).sum)∧
      (∀ j (hj:j<l.length),∀ m,m<l[j].size→(bytesOf s)[at_+((l.take j).map (·.size)).sum+m]?=(bytesOf l[j])[m]?)
  |0,i,at_,l,t,hs,ha,h=>by
    simp only[readL,Option.some.injEq,Prod.mk.injEq] at h
    obtain⟨rfl,rfl⟩:=h
    exact ⟨rfl,by simp,ha,fun j hj=>by omega,fun j hj=>by simp at hj⟩
  |d+1,i,at_,l,t,hs,ha,h=>by
    unfold readL at h
    by_cases c:slot s i<at_∨4072<slot s i
    · rw[if_pos c] at h;cases h
    · rw[if_neg c] at h
      obtain⟨x,hx,he⟩:=Option.map_eq_some_iff.1 h
      simp only[Prod.mk.injEq] at he
      obtain⟨rfl,rfl⟩:=he
      obtain⟨f1,f2,f3,f4,f5⟩:=read_facts s d (i+1) (slot s i) x.1 x.2 hs (by omega) hx
      have hsz:(s.extract at_ (slot s i)).size=slot s i - at_:=by
        rw[←bytesOf_length,bx_bytes,List.length_drop,List.length_take,bytesOf_length,hs]
        omega
      refine ⟨by simp[f1],?_,f3,fun j hj=>?_,fun j hj m hm=>?_⟩
      · simp only[List.map_cons,List.sum_cons,hsz]
        omega
      · cases j with
        |zero=>simp[hsz];omega
        |succ j=>
          have:=f4 j (by omega)
          rw[show i+1+j=i+(j+1) by omega] at this
          rw[this,List.take_succ_cons,List.map_cons,List.sum_cons,hsz]
          omega
      · cases j with
        |zero=>
          simp only[List.getElem_cons_zero] at hm ⊢
          rw[hsz] at hm
          rw[bx_bytes,List.getElem?_drop,List.getElem?_take,if_pos (by omega)]
          simp
        |succ j=>
          simp only[List.getElem_cons_succ] at hm ⊢
          rw[←f5 j (by simpa using hj) m hm,List.take_succ_cons,List.map_cons,List.sum_cons,hsz]
          congr 1
          omega
theorem find_cell (l:List ByteArray) (k:Nat) (h1:layE l 0≤k) : ∀ i,i≤l.length→k<layE l i→∃ j,j<i∧layE l j≤k∧k<layE l (j+1)
  |0,_,h=>by omega
  |i+1,hi,h=>by
    by_cases c:layE l i≤k
    · exact ⟨i,by omega,c,h⟩
    · obtain⟨j,h2,h3⟩:=find_cell l k h1 i (by omega) (by omega)
      exact ⟨j,by omega,h3⟩
theorem readv_lay (count:Int) (s:ByteArray) (l:List ByteArray) (h:readv count s=(l,none)):(l.length:Int)=count∧layE l l.length≤4072∧layS l=s:=by
  unfold readv at h
  by_cases c:count<0∨2036<count∨s.size≠4072
  · rw[if_pos c] at h
    simp at h
  rw[if_neg c] at h
  obtain⟨n,rfl⟩:=Int.eq_ofNat_of_zero_le (show 0≤count by omega)
  have hs:s.size=4072:=by omega
  rw[Int.toNat_natCast] at h
  rcases hq:readL s n 0 (2*n) with _|⟨l',t⟩
  · rw[hq] at h
    simp at h
  rw[hq] at h
  simp only at h
  by_cases hcl:clean s t
  · rw[if_pos hcl] at h
    simp only[Prod.mk.injEq,and_true] at h
    subst h
    obtain⟨f1,f2,f3,f4,f5⟩:=read_facts s n 0 (2*n) l' t hs (by omega) hq
    have hE : ∀ j,layE l' j=2*n+((l'.take j).map (·.size)).sum:=fun j=>by unfold layE;rw[f1]
    have hT:layE l' l'.length=t:=by rw[hE,List.take_of_length_le (Nat.le_refl _)];exact f2.symm
    have hfit:layE l' l'.length≤4072:=by omega
    refine ⟨by omega,hfit,bytes_inj ?_⟩
    rw[layS_bytes]
    obtain⟨i1,i2,i3⟩:=layC_inv l' hfit l'.length (Nat.le_refl _)
    refine List.ext_getElem? fun k=>?_
    by_cases hk:k<4072
    · rw[b_get s k (by omega)]
      by_cases c1:k<2*n
      · have hj:k / 2<l'.length:=by omega
        obtain⟨h1,h2⟩:=i1 (k / 2) hj
        have h3:=f4 (k / 2) (by omega)
        rw[Nat.zero_add,←hE] at h3
        have hb1:=b_lt s (2*(k / 2))
        have hb2:=b_lt s (2*(k / 2)+1)
        unfold slot at h3
        by_cases par:k=2*(k / 2)
        · rw[par,h1]
          congr 1
          omega
        · have par:k=2*(k / 2)+1:=by omega
          rw[←par] at h2 hb2 h3
          rw[h2]
          congr 1
          omega
      · by_cases c2:t≤k
        · rw[i3 k (.inl (by omega)) hk,hcl k c2 hk]
          rfl
        · obtain⟨j,hj1,hj2,hj3⟩:=find_cell l' k (by rw[hE];simp;omega) l'.length (Nat.le_refl _) (by omega)
          have e1:=layE_succ l' j hj1
          rw[gD l' j hj1] at e1
          have a1:=i2 j hj1 hj1 (k - layE l' j) (by omega)
          have a2:=f5 j hj1 (k - layE l' j) (by omega)
          rw[←hE,show layE l' j+(k - layE l' j)=k by omega,b_get s k (by omega)] at a2
          rw[show layE l' j+(k - layE l' j)=k by omega] at a1
          rw[a1,a2]
    · rw[List.getElem?_eq_none (by rw[layC_len l' hfit _ (Nat.le_refl _)];omega),List.getElem?_eq_none (by rw[bytesOf_length];omega)]
  · rw[if_neg hcl] at h
    simp at h
theorem readv_bad (count:Int) (s:ByteArray):readv count s=([],some 2)∨∃ l,readv count s=(l,none):=by
  unfold readv
  split
  · exact .inl rfl
  · split
    · exact .inl rfl
    · split
      · exact .inr ⟨_,rfl⟩
      · exact .inl rfl

/-! the document's Lay -/
def hd (l:List ByteArray):Nat→List Int
  |0=>[]
  |i+1=>hd l i++[((layE l (i+1):Int) / 256) % 256,(layE l (i+1):Int) % 256]
def dt (l:List ByteArray):Nat→List Int
  |0=>[]
  |i+1=>dt l i++bytesOf (l.getD i ⟨#[]⟩)
theorem hd_len (l:List ByteArray) : ∀ i,(hd l i).length=2*i
  |0=>rfl
  |i+1=>by rw[hd,List.length_append,hd_len l i];simp;omega
theorem dt_len (l:List ByteArray) : ∀ i,i≤l.length→(dt l i).length=layE l i - 2*l.length
  |0,_=>by simp[dt,layE]
  |i+1,h=>by
    have ih:=dt_len l i (by omega)
    have e:=layE_succ l i h
    have e3:2*l.length≤layE l i:=by unfold layE;omega
    rw[dt,List.length_append,ih,bytesOf_length]
    omega
theorem hd_at (l:List ByteArray) : ∀ i j,j<i→(hd l i)[2*j]?=some ((layE l (j+1):Int) / 256 % 256)∧(hd l i)[2*j+1]?=some ((layE l (j+1):Int) % 256)
  |0,j,h=>by omega
  |i+1,j,h=>by
    have hl:=hd_len l i
    rw[hd]
    by_cases c:j=i
    · subst c
      rw[List.getElem?_append_right (by omega),List.getElem?_append_right (by omega),hl,show 2*j - 2*j=0 by omega,show 2*j+1 - 2*j=1 by omega]
      exact ⟨rfl,rfl⟩
    · rw[List.getElem?_append_left (by omega),List.getElem?_append_left (by omega)]
      exact hd_at l i j (by omega)
theorem dt_at (l:List ByteArray) : ∀ i,i≤l.length→∀ j (hj:j<l.length),j<i→∀ m,m<l[j].size→(dt l i)[layE l j - 2*l.length+m]?=(bytesOf l[j])[m]?
  |0,_,j,_,h,_,_=>by omega
  |i+1,hi,j,hj,h,m,hm=>by
    have hl:=dt_len l i (by omega)
    have e:=layE_succ l j hj
    rw[gD l j hj] at e
    have e3:2*l.length≤layE l j:=by unfold layE;omega
    rw[dt,gD l i hi]
    by_cases c:j=i
    · subst c
      rw[List.getElem?_append_right (by omega),hl]
      congr 1
      omega
    · have ih:=dt_at l i (by omega) j hj (by omega) m hm
      have hlt:layE l j - 2*l.length+m<(dt l i).length:=by
        rcases Nat.lt_or_ge (layE l j - 2*l.length+m) (dt l i).length with h1|h1
        · exact h1
        · rw[List.getElem?_eq_none h1] at ih
          rw[List.getElem?_eq_getElem (by rw[bytesOf_length];exact hm)] at ih
          cases ih
      rw[List.getElem?_append_left hlt]
      exact ih
theorem layC_eq (l:List ByteArray) (hfit:layE l l.length≤4072):layC l l.length=hd l l.length++dt l l.length++List.replicate (4072 - layE l l.length) 0:=by
  obtain⟨i1,i2,i3⟩:=layC_inv l hfit l.length (Nat.le_refl _)
  have h1:=hd_len l l.length
  have h2:=dt_len l l.length (Nat.le_refl _)
  have e3:2*l.length≤layE l l.length:=by unfold layE;omega
  refine List.ext_getElem? fun k=>?_
  by_cases c1:k<2*l.length
  · have hj:k / 2<l.length:=by omega
    obtain⟨a1,a2⟩:=i1 (k / 2) hj
    obtain⟨b1,b2⟩:=hd_at l l.length (k / 2) hj
    rw[List.append_assoc,List.getElem?_append_left (by omega)]
    by_cases par:k=2*(k / 2)
    · rw[←par] at a1 b1
      rw[a1,b1]
    · have par:k=2*(k / 2)+1:=by omega
      rw[←par] at a2 b2
      rw[a2,b2]
  · by_cases c2:k<layE l l.length
    · obtain⟨j,hj1,hj2,hj3⟩:=find_cell l k (by simp[layE];omega) l.length (Nat.le_refl _) c2
      have e1:=layE_succ l j hj1
      rw[gD l j hj1] at e1
      have e4:2*l.length≤layE l j:=by unfold layE;omega
      have a1:=i2 j hj1 hj1 (k - layE l j) (by omega)
      have a2:=dt_at l l.length (Nat.le_refl _) j hj1 hj1 (k - layE l j) (by omega)
      rw[show layE l j+(k - layE l j)=k by omega] at a1
      rw[show layE l j - 2*l.length+(k - layE l j)=k - 2*l.length by omega] at a2
      rw[List.append_assoc,List.getElem?_append_right (by omega),h1,List.getElem?_append_left (by omega),a1,a2]
    · rw[List.getElem?_append_right (by rw[List.length_append];omega),List.length_append,h1,h2]
      by_cases c3:k<4072
      · rw[i3 k (.inl (by omega)) c3,List.getElem?_replicate,if_pos (by omega)]
      · rw[List.getElem?_eq_none (by rw[layC_len l hfit _ (Nat.le_refl _)];omega),List.getElem?_eq_none (by rw[List.length_replicate];omega)]
def totR (l:List ByteArray) (i:Nat):Nat:=2*i+((l.take i).map (·.size)).sum
theorem totR_succ (l:List ByteArray) (i:Nat) (h:i<l.length):totR l (i+1)=totR l i+2+l[i].size:=by
  unfold totR
  rw[List.take_succ_eq_append_getElem h,List.map_append,List.sum_append]
  simp
  omega
theorem size_w2 (s a:Int):wrap64 (wrap64 (wrap64 s+2)+a)=wrap64 (s+2+a):=by unfold wrap64;omega
theorem enc2 (E:Nat) (h:E≤4072):(wrap64 (Int.tdiv (E:Int) 256)) % 256=(E:Int) / 256 % 256∧(Int.tmod (E:Int) 256) % 256=(E:Int) % 256:=by
  rw[Int.tdiv_eq_ediv_of_nonneg (by omega),Int.tmod_eq_emod_of_nonneg (by omega),w64 (by omega) (by omega)]
  exact ⟨rfl,by omega⟩
theorem add_w (a b c:Nat) (h:a+b=c) (hc:c≤4072):wrap64 ((a:Int)+(b:Int))=(c:Int):=by rw[w64 (by omega) (by omega)];omega
theorem inc_w (i:Nat) (h:i≤8796093022208):wrap64 ((i:Int)+1)=((i+1:Nat):Int):=w64 (by omega) (by omega)
theorem RSizeC_ev (l:List ByteArray) (hl:l.length≤8796093022208):Ev (fun k=>copseref6_Size.f k l) (wrap64 ((layE l l.length:Nat):Int)):=by
  have h0:=Ev.loop (σ:=fun i k=>copseref6_Size.l0 k l (wrap64 ((totR l i:Nat):Int)) (i:Int)) (r:=wrap64 ((layE l l.length:Nat):Int)) (n:=l.length) (fun i hi k=>by
    have e:=totR_succ l i hi
    have c1:(i:Int)<(l.length:Int):=by omega
    have c2:(0:Int)≤(i:Int):=by omega
    have e2:((totR l (i+1):Nat):Int)=((totR l i:Nat):Int)+2+(l[i].size:Int):=by omega
    have w1:=inc_w i (by omega)
    simp only[copseref6_Size.l0]
    rw[if_pos c1,if_pos c2,rdO l i hi,size_w2,w1,e2]) (Ev.done fun k=>by
    simp only[copseref6_Size.l0]
    rw[if_neg (by omega)]
    rfl) 0 (by omega)
  rw[show totR l 0=0 by simp[totR],show wrap64 ((0:Nat):Int)=0 by simp[wrap64]] at h0
  exact h0
theorem RLay_ev (l:List ByteArray) (hl:l.length≤8796093022208) (hfit:layE l l.length≤4072):Ev (fun k=>copseref6_Lay.f k l) (layS l,0):=by
  have hS:=RSizeC_ev l hl
  rw[w64 (by omega) (by omega)] at hS
  have hn:l.length≤2036:=by unfold layE at hfit;omega
  have e0:layE l 0=2*l.length:=by simp[layE]
  unfold copseref6_Lay.f
  refine Ev.bind hS (Ev.congr (f:=fun k=>copseref6_Lay.l0 k l ((layE l l.length:Nat):Int) ([]:List Int) ((layE l 0:Nat):Int) 0) (fun k=>?_) ?_)
  · rw[if_neg (by omega),w64 (by omega) (by omega),e0]
    rfl
  have l2:=Ev.loop (σ:=fun i k=>copseref6_Lay.l2 k (hd l l.length++dt l l.length++List.replicate i 0) ((layE l l.length+i:Nat):Int)) (r:=(layS l,0)) (n:=4072 - layE l l.length) (fun i hi k=>by
    have h1:=hd_len l l.length
    have h2:=dt_len l l.length (Nat.le_refl _)
    have hlen:(hd l l.length++dt l l.length++List.replicate i 0).length<140737488355328:=by
      rw[List.length_append,List.length_append,List.length_replicate];omega
    have c1:((layE l l.length+i:Nat):Int)<4072:=by omega
    have w1:wrap64 (((layE l l.length+i:Nat):Int)+1)=((layE l l.length+(i+1):Nat):Int):=inc_w (layE l l.length+i) (by omega)
    simp only[copseref6_Lay.l2]
    rw[if_pos c1,if_pos hlen,w1,List.append_assoc _ _ [0],←List.replicate_succ']) (Ev.done fun k=>by
    simp only[copseref6_Lay.l2]
    rw[if_neg (by omega),←layC_eq l hfit]
    rfl) 0 (by omega)
  have l1:=Ev.loop (σ:=fun i k=>copseref6_Lay.l1 k l ((layE l l.length:Nat):Int) (hd l l.length++dt l i) (i:Int)) (r:=(layS l,0)) (n:=l.length) (fun i hi k=>by
    have h1:=hd_len l l.length
    have h2:=dt_len l i (by omega)
    have e1:=layE_succ l i hi
    have e2:=layE_le l (i+1) hi
    rw[gD l i hi] at e1
    have hlen:(hd l l.length++dt l i).length+l[i].size<140737488355328:=by rw[List.length_append];omega
    have c1:(i:Int)<(l.length:Int):=by omega
    have c2:(0:Int)≤(i:Int):=by omega
    have w1:=inc_w i (by omega)
    simp only[copseref6_Lay.l1]
    rw[if_pos c1,if_pos c2,rdO l i hi,if_pos hlen,w1,List.append_assoc,show dt l i++bytesOf l[i]=dt l (i+1) by rw[dt,gD l i hi]]) (Ev.step (fun k=>by
    simp only[copseref6_Lay.l1]
    rw[if_neg (by omega)]) (by simpa using l2)) 0 (by omega)
  have l0:=Ev.loop (σ:=fun i k=>copseref6_Lay.l0 k l ((layE l l.length:Nat):Int) (hd l i) ((layE l i:Nat):Int) (i:Int)) (r:=(layS l,0)) (n:=l.length) (fun i hi k=>by
    have h1:=hd_len l i
    have e1:=layE_succ l i hi
    have e2:=layE_le l (i+1) hi
    rw[gD l i hi] at e1
    have c1:(i:Int)<(l.length:Int):=by omega
    have c2:(0:Int)≤(i:Int):=by omega
    have c3 : ∀ a b:Int,(hd l i).length+[a,b].length<140737488355328:=fun a b=>by rw[h1];simp;omega
    have d:=enc2 (layE l (i+1)) (by omega)
    have w1:=inc_w i (by omega)
    have w3:=add_w (layE l i) l[i].size (layE l (i+1)) (by omega) (by omega)
    simp only[copseref6_Lay.l0]
    rw[if_pos c1,if_pos c2,rdO l i hi,w3,d.1,d.2,Option.bind_some,if_pos (c3 _ _),w1]
    rfl) (Ev.step (fun k=>by
    simp only[copseref6_Lay.l0]
    rw[if_neg (by omega)]) (by simpa [dt] using l1)) 0 (by omega)
  exact l0

/-! the cells of pairs -/
theorem bytes_append (s t:ByteArray):bytesOf (s++t)=bytesOf s++bytesOf t:=by
  unfold bytesOf
  rw[ByteArray.data_append,Array.toList_append,List.map_append]
theorem size_append (s t:ByteArray):(s++t).size=s.size+t.size:=by rw[←bytesOf_length,bytes_append,List.length_append,bytesOf_length,bytesOf_length]
def head1 (k:Nat):List Int:=[(k:Int)]
def head2 (v:Nat):List Int:=[(v:Int) / 256,(v:Int) % 256]
def cellB (p:S58):ByteArray:=strOfNums (head1 p.f0.size)++strOfNums (head2 p.f1.size)++p.f0++p.f1
theorem put1 (k:Nat) (h:k≤255):codec_Put.f (k:Int) 1=some (head1 k,none):=by
  rw[Put_eq _ _ (by omega) (by omega),if_neg (by unfold putbad;simp;omega)]
  congr 2
  simp[putrow,codec_Put.row,head1]
  omega
theorem put2 (v:Nat) (h:v≤700):codec_Put.f (v:Int) 2=some (head2 v,none):=by
  rw[Put_eq _ _ (by omega) (by omega),if_neg (by unfold putbad;simp;omega)]
  congr 2
  simp[putrow,codec_Put.row,head2]
  omega
theorem str_len (l:List Int):(strOfNums l).size=l.length:=by simp[strOfNums,ByteArray.size]
theorem cellB_size (p:S58):(cellB p).size=3+p.f0.size+p.f1.size:=by
  unfold cellB
  rw[size_append,size_append,size_append,str_len,str_len]
  simp[head1,head2]
theorem Cell_eq (p:S58) (h:okp p):leaf_cell.f p.f0 p.f1=some (cellB p):=by
  obtain⟨h1,h2,h3⟩:=h
  unfold leaf_cell.f cellB
  rw[put1 _ h2,Option.bind_some,put2 _ h3,Option.bind_some]
  have s1:(strOfNums (head1 p.f0.size)).size=1:=by rw[str_len];rfl
  have s2:(strOfNums (head2 p.f1.size)).size=2:=by rw[str_len];rfl
  rw[if_pos (by rw[s1,s2];omega),if_pos (by rw[size_append,s1,s2];omega),if_pos (by rw[size_append,size_append,s1,s2];omega)]
def encs_ (l:List S58):List ByteArray:=l.map cellB
theorem encs_len (l:List S58):(encs_ l).length=l.length:=List.length_map _
theorem encs_E (l:List S58):((layE (encs_ l) (encs_ l).length:Nat):Int)=sizeT l:=by
  have : ∀ m:List S58,(2*m.length:Int)+((((encs_ m).map (·.size)).sum:Nat):Int)=sizeT m:=by
    intro m
    induction m with
    |nil=>rfl
    |cons p m ih=>
      have:sizeT (p::m)=cost p+sizeT m:=by simp[sizeT]
      rw[this]
      simp only[encs_,List.map_cons,List.sum_cons,List.length_cons,cellB_size] at ih ⊢
      unfold cost
      omega
  rw[←this l]
  unfold layE
  rw[List.take_of_length_le (Nat.le_refl _),encs_len]
  omega
theorem sizeT_bd (l:List S58) (h : ∀ p∈l,okp p):0≤sizeT l∧sizeT l≤960*(l.length:Int):=by
  induction l with
  |nil=>simp[sizeT]
  |cons p l ih=>
    have h1:=h p (by simp)
    have h2:=ih (fun q hq=>h q (by simp[hq]))
    have:sizeT (p::l)=cost p+sizeT l:=by simp[sizeT]
    rw[this]
    obtain⟨a,b,c⟩:=h1
    unfold cost
    simp only[List.length_cons]
    omega
theorem chk_ok {l:List S58} {root:Bool} (h:chk l root=none):(∀ p∈l,okp p)∧Rises l∧¬ wrap64 (sizeT l) > 4072∧l.length≠0:=by
  unfold chk at h
  split at h
  · rename_i h1
    split at h
    · rename_i h2
      split at h
      · cases h
      · rename_i h3
        split at h
        · cases h
        · rename_i h4
          exact ⟨h1,h2,h3,h4⟩
    · cases h
  · cases h
theorem chk_fit {l:List S58} {root:Bool} (hl:l.length*32≤140737488351232) (h:chk l root=none):layE (encs_ l) (encs_ l).length≤4072:=by
  obtain⟨h1,h2,h3,h4⟩:=chk_ok h
  have hb:=sizeT_bd l h1
  have hE:=encs_E l
  rw[w64 (by omega) (by omega)] at h3
  omega
noncomputable def encv (l:List S58):ByteArray×Option Int:=if chk l true=none then (layS (encs_ l),none) else ((⟨#[]⟩:ByteArray),chk l true)
theorem Encode_ev (l:List S58) (hl:l.length*32≤140737488351232):Ev (fun k=>leaf_Encode.f k l) (encv l):=by
  unfold leaf_Encode.f
  refine Ev.bind (Check_ev l true hl) ?_
  unfold encv
  rcases hc:chk l true with _|q
  · have hfit:=chk_fit hl hc
    obtain⟨hok,_⟩:=chk_ok hc
    rw[if_pos rfl]
    refine Ev.congr (fun k=>if_pos rfl) ?_
    have hL:=Lay_ev (encs_ l) (by rw[encs_len];omega) (by omega)
    rw[if_pos hfit] at hL
    obtain⟨B,hB⟩ : ∃ B,B=layS (encs_ l):=⟨_,rfl⟩
    rw[←hB] at hL ⊢
    have:=Ev.loop (σ:=fun i k=>leaf_Encode.l0 k (encs_ (l.take i)) l (l.length:Int) (i:Int)) (r:=(B,none)) (n:=l.length) (fun i hi k=>by
      have hlen:(encs_ (l.take i)).length<8796093022208:=by rw[encs_len,List.length_take];omega
      have c1:(i:Int)<(l.length:Int):=by omega
      have c2:(0:Int)≤(i:Int):=by omega
      have hs:encs_ (l.take i)++[cellB l[i]]=encs_ (l.take (i+1)):=by rw[←take_snoc l i hi];unfold encs_;rw[List.map_append];rfl
      have w1:wrap64 ((i:Int)+1)=((i+1:Nat):Int):=w64 (by omega) (by omega)
      simp only[leaf_Encode.l0]
      rw[if_pos c1,if_pos c2,if_pos c1,rdp l i hi,Cell_eq _ (hok _ (List.getElem_mem hi)),Option.bind_some,if_pos hlen,hs,w1]) (by
      rw[List.take_of_length_le (Nat.le_refl _)]
      refine Ev.step (f:=fun k=>(cells_Lay.f k (encs_ l)).bind fun bt159=>(some (bt159.1,bt159.2))) (fun k=>?_) (Ev.bind hL (Ev.const fun k=>rfl))
      simp only[leaf_Encode.l0]
      rw[if_neg (by omega)]) 0 (by omega)
    exact this
  · rw[if_neg (by simp)]
    exact Ev.const fun k=>by simp

theorem rputnum (a b:Int) (h0:0≤a) (h1:a<18446744073709551616) (l:List Int) (h:codec_Put.f a b=some (l,none)):Ev (fun k=>copseref1_Put.f k a b) (l,0):=by
  have hr:=RPut_ev a b h0 h1
  rw[Put_eq a b h0 h1] at h
  by_cases hb:putbad a b
  · rw[if_pos hb] at h;simp at h
  · rw[if_neg hb] at h hr
    simp only[Option.some.injEq,Prod.mk.injEq,and_true] at h
    rwa [h] at hr
theorem strOf_append (a b:List Int):strOfNums (a++b)=strOfNums a++strOfNums b:=by
  apply ByteArray.ext
  rw[ByteArray.data_append]
  simp[strOfNums]
theorem u64_small {n:Int} (h0:0≤n) (h1:n<9223372036854775808):IntKind.u64.wrap n=n:=by
  simp[IntKind.wrap,IntKind.bits,IntKind.signed]
  omega
theorem RCell_ev (p:S58) (h:okp p):Ev (fun k=>copseref7_cell.f k p.f0 p.f1) (cellB p):=by
  obtain⟨h1,h2,h3⟩:=h
  have hb : ∀ (n w:Nat) (l:List Int),n≤700→codec_Put.f (n:Int) (w:Int)=some (l,none)→Ev (fun k=>copseref1_Bytes.f k (n:Int) (w:Int)) l:=fun n w l hn hp=>by
    unfold copseref1_Bytes.f
    rw[u64_small (by omega) (by omega)]
    exact Ev.bind (rputnum _ _ (by omega) (by omega) l hp) (Ev.const fun k=>rfl)
  unfold copseref7_cell.f cellB
  refine Ev.bind (hb _ 1 _ (by omega) (put1 _ h2)) (Ev.bind (hb _ 2 _ h3 (put2 _ h3)) (Ev.const fun k=>?_))
  have s1:(strOfNums (head1 p.f0.size++head2 p.f1.size)).size=3:=by rw[str_len];rfl
  rw[if_pos (by simp[head1,head2]),Option.bind_some,if_pos (by rw[s1];omega),if_pos (by rw[size_append,s1];omega),strOf_append]
noncomputable def rencv (l:List S58):ByteArray×Int:=if chk l true=none then (layS (encs_ l),0) else ((⟨#[]⟩:ByteArray),rnum (chk l true))
theorem chk_pos (l:List S58) (root:Bool):chk l root≠none→rnum (chk l root)≠0:=by
  unfold chk rnum
  split
  · split
    · split
      · simp
      · split
        · simp
        · split
          · simp
          · split <;> simp
    · simp
  · simp
set_option maxHeartbeats 4000000 in
theorem REncode_ev (l:List S58) (hl:l.length*32≤140737488351232):Ev (fun k=>copseref7_Encode.f k l) (rencv l):=by
  unfold copseref7_Encode.f
  refine Ev.bind (RCheck_ev l true hl) ?_
  unfold rencv
  by_cases hc:chk l true=none
  · have hfit:=chk_fit hl hc
    obtain⟨hok,_⟩:=chk_ok hc
    rw[if_pos hc]
    refine Ev.congr (fun k=>if_pos (by rw[hc];rfl)) ?_
    have hL:=RLay_ev (encs_ l) (by rw[encs_len];omega) hfit
    obtain⟨B,hB⟩ : ∃ B,B=layS (encs_ l):=⟨_,rfl⟩
    rw[←hB] at hL ⊢
    clear hB hfit hc
    have:=Ev.loop' (σ:=fun i k=>copseref7_Encode.l0 k l (encs_ (l.take i)) (i:Int)) (r:=(B,0)) (n:=l.length) (fun i hi hn=>by
      have hlen:(encs_ (l.take i)).length<8796093022208:=by rw[encs_len,List.length_take];omega
      have c1:(i:Int)<(l.length:Int):=by omega
      have c2:(0:Int)≤(i:Int):=by omega
      have hs:encs_ (l.take i)++[cellB l[i]]=encs_ (l.take (i+1)):=by rw[←take_snoc l i hi];unfold encs_;rw[List.map_append];rfl
      have w1:wrap64 ((i:Int)+1)=((i+1:Nat):Int):=w64 (by omega) (by omega)
      have hcell:=RCell_ev _ (hok _ (List.getElem_mem hi))
      have hn2:Ev (fun k=>(fun k t204=>copseref7_Encode.l0 k l (encs_ (l.take i)++[t204]) ((i+1:Nat):Int)) k (cellB l[i])) (B,0):=Ev.congr (fun k=>by simp only[hs]) hn
      refine Ev.step (fun k=>?_) (Ev.bind (f:=fun k t204=>copseref7_Encode.l0 k l (encs_ (l.take i)++[t204]) ((i+1:Nat):Int)) hcell hn2)
      simp only[copseref7_Encode.l0,if_pos hlen,w1]
      rw[if_pos c1,if_pos c2,rdp l i hi]) (by
      rw[List.take_of_length_le (Nat.le_refl _)]
      refine Ev.step (f:=fun k=>(copseref6_Lay.f k (encs_ l)).bind fun bt208=>(some (bt208.1,bt208.2))) (fun k=>?_) (Ev.bind hL (Ev.const fun k=>rfl))
      simp only[copseref7_Encode.l0]
      rw[if_neg (by omega)]) 0 (by omega)
    exact this
  · rw[if_neg hc]
    exact Ev.const fun k=>if_neg (chk_pos l true hc)

/-! a cell's pair -/
def pk (c:ByteArray):Nat:=b_ c 0
def pv (c:ByteArray):Nat:=b_ c 1*256+b_ c 2
def pcut (c:ByteArray):S58:=⟨c.extract 3 (3+pk c),c.extract (3+pk c) c.size⟩
def pairok (c:ByteArray):Prop:=3≤c.size∧c.size=3+pk c+pv c
def pairokb (c:ByteArray):Bool:=decide (3≤c.size)&&decide (c.size=3+pk c+pv c)
theorem pairokb_iff (c:ByteArray):pairokb c=true↔pairok c:=by unfold pairokb pairok;rw[Bool.and_eq_true,decide_eq_true_eq,decide_eq_true_eq]
def nopair:S58:=⟨(⟨#[]⟩:ByteArray),(⟨#[]⟩:ByteArray)⟩
theorem pk_lt (c:ByteArray):pk c<256:=b_lt c 0
theorem pv_lt (c:ByteArray):pv c<65536:=by
  have h1:=b_lt c 1
  have h2:=b_lt c 2
  unfold pv
  omega
theorem pk_w0 (a:Nat) (h0:a<256):wrap64 (3+wrap64 (a:Int))=((3+a:Nat):Int):=by
  rw[w64 (n:=(a:Int)) (by omega) (by omega),w64 (by omega) (by omega)]
  omega
theorem pv_w0 (a b:Nat) (h0:a<256) (h1:b<65536):wrap64 (((3+a:Nat):Int)+((b:Nat):Int))=((3+a+b:Nat):Int):=by
  rw[w64 (by omega) (by omega)]
  omega
theorem pair_conds (n a b:Nat) (h3:3≤n):(0:Int)<(n:Int)∧(1:Int)<(n:Int)∧(2:Int)<(n:Int)∧¬ (n:Int)<3∧(3:Int)≤((3+a:Nat):Int)∧(0:Int)≤((3+a:Nat):Int)∧(n=3+a+b→(n:Int)=((3+a+b:Nat):Int)∧((3+a:Nat):Int)≤(n:Int))∧(n≠3+a+b→¬ (n:Int)=((3+a+b:Nat):Int))∧(n<3+a→(n:Int)<((3+a:Nat):Int))∧(¬ n<3+a→¬ (n:Int)<((3+a:Nat):Int)∧((3+a:Nat):Int)≤(n:Int)):=by omega
theorem Pair_eq (c:ByteArray):leaf_pair.f c=some (if pairokb c=true then ((pcut c).f0,(pcut c).f1,true) else (nopair.f0,nopair.f1,false)):=by
  unfold leaf_pair.f
  by_cases c1:c.size<3
  · rw[if_pos (by omega),if_neg (fun h=>absurd ((pairokb_iff c).1 h).1 (by omega))]
    rfl
  · obtain⟨d1,d2,d3,d0,d4,d5,d6,d7,_,_⟩:=pair_conds c.size (pk c) (pv c) (by omega)
    have t0:bt c 0=(pk c:Int):=bt_b c 0 (by omega)
    have t1:bt c 1=(b_ c 1:Int):=bt_b c 1 (by omega)
    have t2:bt c 2=(b_ c 2:Int):=bt_b c 2 (by omega)
    have hs:Go.bits .or .i64 (wrap64 ((wrap64 (b_ c 1:Int))*256)) (wrap64 (b_ c 2:Int))=((pv c:Nat):Int):=or_slot (b_ c 1) (b_ c 2) (b_lt c 1) (b_lt c 2)
    rw[if_neg d0,if_pos d1,if_pos d2,if_pos d3,t0,t1,t2,hs,pk_w0 _ (pk_lt c),pv_w0 _ _ (pk_lt c) (pv_lt c)]
    by_cases e:c.size=3+pk c+pv c
    · rw[if_pos (d6 e).1,if_pos d4,if_pos (d6 e).2,if_pos d5,if_pos ((pairokb_iff c).2 ⟨Nat.le_of_not_lt c1,e⟩),Int.toNat_natCast]
      rfl
    · rw[if_neg (d7 e),if_neg (fun h=>e ((pairokb_iff c).1 h).2)]
      rfl
/-! the cells of pairs that may be -/
theorem cellB_bytes (p:S58) (h1:p.f0.size<256) (h2:p.f1.size<65536):bytesOf (cellB p)=[(p.f0.size:Int),(p.f1.size:Int) / 256,(p.f1.size:Int) % 256]++(bytesOf p.f0++bytesOf p.f1):=by
  unfold cellB
  rw[bytes_append,bytes_append,bytes_append,bytes_str _ (by unfold head1;intro z hz;simp only[List.mem_singleton] at hz;omega),bytes_str _ (by unfold head2;intro z hz;simp only[List.mem_cons,List.not_mem_nil,or_false] at hz;omega)]
  simp[head1,head2]
theorem b_of (s:ByteArray) (k:Nat) (z:Int) (h:(bytesOf s)[k]?=some z):b_ s k=z.toNat:=by
  unfold b_
  rw[List.getD_eq_getElem?_getD,h]
  rfl
theorem cell_pk (p:S58) (h1:p.f0.size<256) (h2:p.f1.size<65536):pk (cellB p)=p.f0.size:=by
  unfold pk
  rw[b_of _ 0 (p.f0.size:Int) (by rw[cellB_bytes p h1 h2];rfl)]
  omega
theorem cell_pv (p:S58) (h1:p.f0.size<256) (h2:p.f1.size<65536):pv (cellB p)=p.f1.size:=by
  unfold pv
  rw[b_of _ 1 ((p.f1.size:Int) / 256) (by rw[cellB_bytes p h1 h2];rfl),b_of _ 2 ((p.f1.size:Int) % 256) (by rw[cellB_bytes p h1 h2];rfl)]
  omega
theorem cell_ok (p:S58) (h1:p.f0.size<256) (h2:p.f1.size<65536):pairok (cellB p):=by
  have hs:=cellB_size p
  unfold pairok
  rw[cell_pk p h1 h2,cell_pv p h1 h2]
  omega
theorem pcut_cell (p:S58) (h1:p.f0.size<256) (h2:p.f1.size<65536):pcut (cellB p)=p:=by
  have hs:=cellB_size p
  have hb:=cellB_bytes p h1 h2
  have e0:(cellB p).extract 3 (3+p.f0.size)=p.f0:=bytes_inj (by
    rw[bx_bytes,hb]
    rw[show ([(p.f0.size:Int),(p.f1.size:Int) / 256,(p.f1.size:Int) % 256]++(bytesOf p.f0++bytesOf p.f1)).take (3+p.f0.size)=[(p.f0.size:Int),(p.f1.size:Int) / 256,(p.f1.size:Int) % 256]++bytesOf p.f0 by
      rw[List.take_append,List.take_of_length_le (by simp),List.take_append_of_le_length (by rw[bytesOf_length];simp),List.take_of_length_le (by rw[bytesOf_length];simp)]]
    rw[List.drop_append_of_le_length (by simp)]
    rfl)
  have e1:(cellB p).extract (3+p.f0.size) (cellB p).size=p.f1:=bytes_inj (by
    rw[bx_bytes,List.take_of_length_le (by rw[bytesOf_length];exact Nat.le_refl _),hb,List.drop_append,List.drop_of_length_le (by simp),List.nil_append,List.drop_append,List.drop_of_length_le (by rw[bytesOf_length];simp),List.nil_append,bytesOf_length]
    simp)
  unfold pcut
  rw[cell_pk p h1 h2,e0,e1]
theorem three_bytes (c:ByteArray) (h:3≤c.size):(bytesOf c).take 3=[(b_ c 0:Int),(b_ c 1:Int),(b_ c 2:Int)]:=by
  refine List.ext_getElem? fun k=>?_
  rw[List.getElem?_take]
  by_cases c3:k<3
  · rw[if_pos c3,b_get c k (by omega)]
    rcases (show k=0∨k=1∨k=2 by omega) with rfl|rfl|rfl <;> rfl
  · rw[if_neg c3,List.getElem?_eq_none (by simp;omega)]
theorem pcut_size (c:ByteArray) (h:pairok c):(pcut c).f0.size=pk c∧(pcut c).f1.size=pv c:=by
  obtain⟨h1,h2⟩:=h
  have hl:=bytesOf_length c
  have e1:(pcut c).f0.size=(bytesOf (c.extract 3 (3+pk c))).length:=(bytesOf_length _).symm
  have e2:(pcut c).f1.size=(bytesOf (c.extract (3+pk c) c.size)).length:=(bytesOf_length _).symm
  rw[e1,e2,bx_bytes,bx_bytes,List.length_drop,List.length_take,List.length_drop,List.length_take,hl]
  omega
theorem cell_pcut (c:ByteArray) (h:pairok c):cellB (pcut c)=c:=by
  obtain⟨h1,h2⟩:=pcut_size c h
  have hk:=pk_lt c
  have hv:=pv_lt c
  have hd:(pv c:Int) / 256=(b_ c 1:Int)∧(pv c:Int) % 256=(b_ c 2:Int):=by
    have a1:=b_lt c 1
    have a2:=b_lt c 2
    unfold pv
    omega
  obtain⟨h3,h4⟩:=h
  have hl:=bytesOf_length c
  refine bytes_inj ?_
  rw[cellB_bytes _ (by omega) (by omega),h1,h2,hd.1,hd.2]
  unfold pcut
  rw[bx_bytes,bx_bytes]
  rw[show [(pk c:Int),(b_ c 1:Int),(b_ c 2:Int)]=(bytesOf c).take 3 from (three_bytes c h3).symm,List.take_of_length_le (i:=c.size) (by omega)]
  rw[←List.append_assoc,show (bytesOf c).take 3++((bytesOf c).take (3+pk c)).drop 3=(bytesOf c).take (3+pk c) by
    have:=List.take_append_drop 3 ((bytesOf c).take (3+pk c))
    rwa [List.take_take,show min 3 (3+pk c)=3 by omega] at this]
  exact List.take_append_drop _ _
/-! what Decode answers -/
theorem readv_err (count:Int) (s:ByteArray) : ∀ l e,readv count s=(l,some e)→l=[]∧e=2:=by
  intro l e h
  rcases readv_bad count s with hb|⟨l',hb⟩ <;> rw[hb] at h <;> simp_all
open Classical in
noncomputable def decL (c:List ByteArray):List S58×Option Int:=if (∀ x∈c,pairok x)∧chk (c.map pcut) true=none then (c.map pcut,none) else ([],some 2)
noncomputable def decv (count:Int) (s:ByteArray):List S58×Option Int:=if (readv count s).2.isNone=true then decL (readv count s).1 else ([],some 2)
theorem map_snoc {α β:Type} (f:α→β) (l:List α) (i:Nat) (h:i<l.length):(l.take i).map f++[f l[i]]=(l.take (i+1)).map f:=by
  rw[←take_snoc l i h,List.map_append]
  rfl
theorem dec_loop (c:List ByteArray) (hc:c.length≤2036):Ev (fun k=>leaf_Decode.l0 k ([]:List S58) c (c.length:Int) 0) (decL c):=by
  have hstep : ∀ i (hi:i<c.length),pairok c[i]→∀ k,leaf_Decode.l0 (k+1) ((c.take i).map pcut) c (c.length:Int) (i:Int)=leaf_Decode.l0 k ((c.take (i+1)).map pcut) c (c.length:Int) ((i+1:Nat):Int):=fun i hi ho k=>by
    have c1:(i:Int)<(c.length:Int):=by omega
    have c2:(0:Int)≤(i:Int):=by omega
    have hlen:((c.take i).map pcut).length<4398046511104:=by rw[List.length_map,List.length_take];omega
    have hw:wrap64 ((i:Int)+1)=((i+1:Nat):Int):=w64 (by omega) (by omega)
    have hp:pairokb c[i]=true:=(pairokb_iff _).2 ho
    simp only[leaf_Decode.l0]
    rw[if_pos c1,if_pos c2,if_pos c1,rdO c i hi,Pair_eq,Option.bind_some,if_pos hp,if_pos rfl,if_pos hlen,hw,←map_snoc pcut c i hi]
  have hbad : ∀ i (hi:i<c.length),¬ pairok c[i]→Ev (fun k=>leaf_Decode.l0 k ((c.take i).map pcut) c (c.length:Int) (i:Int)) ([],some 2):=fun i hi ho=>Ev.done fun k=>by
    have c1:(i:Int)<(c.length:Int):=by omega
    have c2:(0:Int)≤(i:Int):=by omega
    have hp : ¬ pairokb c[i]=true:=fun h=>ho ((pairokb_iff _).1 h)
    simp only[leaf_Decode.l0]
    rw[if_pos c1,if_pos c2,if_pos c1,rdO c i hi,Pair_eq,Option.bind_some,if_neg hp,if_neg (by simp)]
  unfold decL
  by_cases ha : ∀ x∈c,pairok x
  · refine Ev.loop (σ:=fun i k=>leaf_Decode.l0 k ((c.take i).map pcut) c (c.length:Int) (i:Int)) (n:=c.length) (fun i hi k=>hstep i hi (ha _ (List.getElem_mem hi)) k) ?_ 0 (by omega)
    rw[List.take_of_length_le (Nat.le_refl _)]
    have hC:=Check_ev (c.map pcut) true (by rw[List.length_map];omega)
    refine Ev.step (f:=fun k=>(leaf_Check.f k (c.map pcut) true).bind fun t135=>(if t135.isNone=true then (some (c.map pcut,none)) else (some (([]:List S58),some 2)))) (fun k=>?_) (Ev.bind hC (Ev.const fun k=>?_))
    · have c1 : ¬ (c.length:Int)<(c.length:Int):=by omega
      simp only[leaf_Decode.l0]
      rw[if_neg c1]
    · rcases hq:chk (c.map pcut) true with _|q
      · rw[if_pos (by rfl),if_pos ⟨ha,rfl⟩]
      · rw[if_neg (by simp),if_neg (fun h=>by simp at h)]
  · rw[if_neg (fun h=>ha h.1)]
    obtain⟨i0,hi0,hb⟩ : ∃ i,∃ hi:i<c.length,¬ pairok c[i]:=by
      refine Classical.byContradiction fun hn=>ha fun p hp=>Classical.byContradiction fun hb=>hn ?_
      obtain⟨i,hi,rfl⟩:=List.mem_iff_getElem.1 hp
      exact ⟨i,hi,hb⟩
    refine Ev.loop' (σ:=fun i k=>leaf_Decode.l0 k ((c.take i).map pcut) c (c.length:Int) (i:Int)) (n:=i0) (fun i hi hn=>?_) (hbad i0 hi0 hb) 0 (by omega)
    by_cases ho:pairok c[i]
    · exact Ev.step (fun k=>hstep i (by omega) ho k) hn
    · exact hbad i (by omega) ho
theorem Decode_ev (count:Int) (s:ByteArray):Ev (fun k=>leaf_Decode.f k count s) (decv count s):=by
  unfold leaf_Decode.f decv
  refine Ev.bind (Read_ev count s) ?_
  rcases readv_bad count s with h|⟨l,h⟩
  · rw[h]
    exact Ev.const fun k=>by rw[if_neg (by simp),if_neg (by simp)]
  · obtain⟨h1,h2,h3⟩:=readv_lay count s l h
    have h4:2*l.length≤4072:=by unfold layE at h2;omega
    rw[h]
    exact Ev.congr (fun k=>if_pos (by rfl)) (dec_loop l (by omega))

/-! there and back -/
theorem pcut_encs (l:List S58) (h : ∀ p∈l,okp p):(encs_ l).map pcut=l:=by
  unfold encs_
  rw[List.map_map]
  exact (List.map_congr_left (g:=id) fun p hp=>by
    obtain⟨h1,h2,h3⟩:=h p hp
    exact pcut_cell p (by omega) (by omega)).trans (List.map_id l)
theorem dec_enc (l:List S58) (hl:l.length*32≤140737488351232) (h:chk l true=none):decv (l.length:Int) (layS (encs_ l))=(l,none):=by
  obtain⟨hok,_⟩:=chk_ok h
  have hfit:=chk_fit hl h
  have hr:=lay_readv (encs_ l) hfit
  rw[encs_len] at hr
  have hall : ∀ x∈encs_ l,pairok x:=fun x hx=>by
    obtain⟨p,hp,rfl⟩:=List.mem_map.1 hx
    obtain⟨h1,h2,h3⟩:=hok p hp
    exact cell_ok p (by omega) (by omega)
  unfold decv
  rw[hr,if_pos (by rfl)]
  unfold decL
  rw[pcut_encs l hok,if_pos ⟨hall,h⟩]
theorem decv_none (count:Int) (s:ByteArray) (m:List S58) (h:decv count s=(m,none)) : ∃ c,readv count s=(c,none)∧(∀ x∈c,pairok x)∧chk (c.map pcut) true=none∧m=c.map pcut:=by
  unfold decv at h
  rcases readv_bad count s with hb|⟨c,hb⟩
  · rw[hb] at h
    simp at h
  · rw[hb,if_pos (by rfl)] at h
    unfold decL at h
    split at h
    · rename_i hc
      exact ⟨c,hb,hc.1,hc.2,(Prod.mk.inj h).1.symm⟩
    · simp at h
theorem decv_cases (count:Int) (s:ByteArray):decv count s=([],some 2)∨∃ m,decv count s=(m,none):=by
  unfold decv decL
  split
  · split
    · exact .inr ⟨_,rfl⟩
    · exact .inl rfl
  · exact .inl rfl
theorem decv_good (count:Int) (s:ByteArray) (m:List S58) (h:decv count s=(m,none)):chk m true=none∧layS (encs_ m)=s∧(m.length:Int)=count∧m.length≤2036:=by
  obtain⟨c,h1,h2,h3,rfl⟩:=decv_none count s m h
  obtain⟨r1,r2,r3⟩:=readv_lay count s c h1
  have h4:2*c.length≤4072:=by unfold layE at r2;omega
  have he:encs_ (c.map pcut)=c:=by
    unfold encs_
    rw[List.map_map]
    exact (List.map_congr_left (g:=id) fun x hx=>cell_pcut x (h2 x hx)).trans (List.map_id c)
  exact ⟨h3,by rw[he,r3],by rw[List.length_map];exact r1,by rw[List.length_map];omega⟩
theorem encs_at (l:List S58) (i:Nat) (hi:i<l.length):(encs_ l)[i]'(by rw[encs_len];exact hi)=cellB l[i]:=by simp[encs_]
theorem dec_less (l:List S58) (hl:l.length*32≤140737488351232) (h:chk l true=none):decv ((l.length:Int) - 1) (layS (encs_ l))=([],some 2):=by
  obtain⟨hok,_,_,hne⟩:=chk_ok h
  have hfit:=chk_fit hl h
  refine (decv_cases _ _).resolve_right ?_
  rintro ⟨m,hm⟩
  obtain⟨c,h1,_,_,_⟩:=decv_none _ _ m hm
  obtain⟨r1,r2,r3⟩:=readv_lay _ _ c h1
  have hn:=encs_len l
  obtain⟨n,hn1⟩ : ∃ n,l.length=n+1:=⟨l.length - 1,by omega⟩
  have hcn:c.length=n:=by omega
  have hi:n<(encs_ l).length:=by omega
  obtain⟨_,i2,_⟩:=layC_inv (encs_ l) hfit (encs_ l).length (Nat.le_refl _)
  obtain⟨_,_,k3⟩:=layC_inv c r2 c.length (Nat.le_refl _)
  have hle:layE c c.length≤layE (encs_ l) n:=by
    rcases Nat.eq_zero_or_pos n with h0|h0
    · rw[hcn,h0]
      have:c=[]:=List.length_eq_zero_iff.1 (by omega)
      subst this
      simp[layE]
    · have a1:=lay_slot c r2 (n - 1) (by omega)
      have a2:=lay_slot (encs_ l) hfit (n - 1) (by omega)
      rw[r3,a2,show n - 1+1=n by omega] at a1
      rw[hcn]
      omega
  have e1:=layE_succ (encs_ l) n hi
  have e2:=layE_le (encs_ l) (n+1) (by omega)
  rw[gD _ n hi,encs_at l n (by omega),cellB_size] at e1
  have hb:=i2 n hi hi 0 (by rw[encs_at l n (by omega),cellB_size];omega)
  obtain⟨o1,o2,o3⟩:=hok l[n] (List.getElem_mem _)
  rw[encs_at l n (by omega),cellB_bytes _ (by omega) (by omega),Nat.add_zero] at hb
  replace hb:(layC (encs_ l) (encs_ l).length)[layE (encs_ l) n]?=some (l[n].f0.size:Int):=hb
  have hz:=k3 (layE (encs_ l) n) (.inl hle) (by omega)
  have b1:=layS_b (encs_ l) _ _ hb
  have b2:=layS_b c _ _ hz
  rw[r3,b1] at b2
  omega
theorem dec_more (l:List S58) (hl:l.length*32≤140737488351232) (h:chk l true=none):decv ((l.length:Int)+1) (layS (encs_ l))=([],some 2):=by
  obtain⟨hok,_,_,hne⟩:=chk_ok h
  have hfit:=chk_fit hl h
  refine (decv_cases _ _).resolve_right ?_
  rintro ⟨m,hm⟩
  obtain⟨c,h1,hp,hck,_⟩:=decv_none _ _ m hm
  obtain⟨r1,r2,r3⟩:=readv_lay _ _ c h1
  have hn:=encs_len l
  have hcn:c.length=l.length+1:=by omega
  have hi:l.length<c.length:=by omega
  obtain⟨_,i2,_⟩:=layC_inv c r2 c.length (Nat.le_refl _)
  obtain⟨_,_,k3⟩:=layC_inv (encs_ l) hfit (encs_ l).length (Nat.le_refl _)
  have a1:=lay_slot c r2 (l.length - 1) (by omega)
  have a2:=lay_slot (encs_ l) hfit (l.length - 1) (by omega)
  rw[r3,a2,show l.length - 1+1=l.length by omega] at a1
  have hx:=hp c[l.length] (List.getElem_mem _)
  have e1:=layE_succ c l.length hi
  have e2:=layE_le c (l.length+1) (by omega)
  rw[gD _ l.length hi] at e1
  have hs:=hx.1
  have hb:=i2 l.length hi hi 0 (by omega)
  have hz:=k3 (layE c l.length) (.inl (by rw[hn,←a1];exact Nat.le_refl _)) (by omega)
  have b2:=layS_b (encs_ l) _ _ hz
  rw[b_get _ 0 (by omega),Nat.add_zero] at hb
  have b1:=layS_b c _ _ hb
  rw[r3,b2] at b1
  obtain⟨hok2,_⟩:=chk_ok hck
  have o:=hok2 (pcut c[l.length]) (List.mem_map_of_mem (List.getElem_mem _))
  have hsz:=(pcut_size _ hx).1
  obtain⟨o1,_⟩:=o
  unfold pk at hsz
  omega
theorem chk_of (l:List S58) (h1 : ∀ p∈l,okp p) (h2:Rises l) (h3:sizeT l≤4072) (h4:l.length≠0):chk l true=none:=by
  have hb:0≤sizeT l:=by
    have : ∀ m:List S58,0≤sizeT m:=by
      intro m
      induction m with
      |nil=>simp[sizeT]
      |cons p m ih=>
        have:sizeT (p::m)=cost p+sizeT m:=by simp[sizeT]
        rw[this]
        unfold cost
        omega
    exact this l
  unfold chk
  rw[if_pos h1,if_pos h2,w64 (by omega) (by omega),if_neg (by omega),if_neg h4,if_pos rfl]
def onep:S58:=⟨(⟨#[97]⟩:ByteArray),(⟨#[49]⟩:ByteArray)⟩
theorem onep_chk:chk [onep] true=none:=chk_of _ (by intro p hp;simp only[List.mem_singleton] at hp;subst hp;unfold okp;decide) (fun i hi=>by simp at hi) (by decide) (by simp)

/-! the first question of the layer's statements -/
theorem begun_ev:Ev (fun k=>copselaw7_begun.f k) true:=by
  have h1:=onep_chk
  have hE:=Encode_ev [onep] (by decide)
  unfold encv at hE
  rw[if_pos h1] at hE
  have hD:=Decode_ev 1 (layS (encs_ [onep]))
  have hde:=dec_enc [onep] (by decide) h1
  rw[show (([onep]:List S58).length:Int)=1 from rfl] at hde
  rw[hde] at hD
  have hfit:=chk_fit (by decide) h1
  have hsz:=layS_size (encs_ [onep]) hfit
  unfold copselaw7_begun.f
  refine Ev.bind hE (Ev.bind hD (Ev.const fun k=>?_))
  rw[if_pos (by rfl),if_pos (by rfl),if_pos (by rw[hsz];rfl),if_pos (by rfl),if_pos (by decide)]
  decide +kernel

/-! pairs that rise, out of any -/
def headv (s:ByteArray) (n:Nat):ByteArray:=if s.size≤n then s else s.extract 0 n
theorem Head_eq (s:ByteArray) (n:Nat) (h:1≤n):copsekit_Head.f s (n:Int)=some (headv s n):=by
  unfold copsekit_Head.f headv
  rw[if_neg (by omega)]
  by_cases c:s.size≤n
  · rw[if_pos c,if_pos (by omega)]
  · rw[if_neg c,if_neg (by omega),if_pos (by omega),if_pos (by omega),Int.toNat_natCast]
theorem headv_size (s:ByteArray) (n:Nat):(headv s n).size≤n:=by
  unfold headv
  by_cases c:s.size≤n
  · rw[if_pos c];exact c
  · rw[if_neg c,←bytesOf_length,bx_bytes,List.length_drop,List.length_take]
    omega
def cutp (p:S58):S58:=⟨headv p.f0 255,headv p.f1 700⟩
def lastp (l:List S58):S58:=rd_T58 l ((l.length - 1:Nat):Int)
def risc (most:Int) (out:List S58) (size:Int) (q:S58):Bool:=!(decide (q.f0.size=0))&&(decide (out.length=0) || Op.bytesLess (lastp out).f0.toList q.f0.toList)&&decide (size+cost q≤most)
def risS (most:Int) (st:List S58×Int) (q:S58):List S58×Int:=if risc most st.1 st.2 q=true then (st.1++[q],st.2+cost q) else st
def risN (l:List S58) (most:Int):Nat→List S58×Int
  |0=>([],0)
  |i+1=>risS most (risN l most i) (cutp (rd_T58 l (i:Int)))
def risv (l:List S58) (most:Int):List S58:=(risN l most l.length).1
structure RisI (most:Int) (i:Nat) (st:List S58×Int):Prop where
  ok : ∀ p∈st.1,okp p
  up:Rises st.1
  sz:st.2=sizeT st.1
  lo:0≤st.2
  hi:st.2≤most
  len:st.1.length≤i
theorem rises_snoc (l:List S58) (q:S58) (h:Rises l) (hl:l.length=0∨Op.bytesLess (lastp l).f0.toList q.f0.toList=true):Rises (l++[q]):=by
  intro i hi
  rw[List.length_append,List.length_singleton] at hi
  have e1 : ∀ j,j<l.length→rd_T58 (l++[q]) (j:Int)=rd_T58 l (j:Int):=fun j hj=>by
    rw[rdp _ j (by rw[List.length_append];omega),rdp l j hj,List.getElem_append_left hj]
  rw[e1 i (by omega)]
  by_cases c:i+1<l.length
  · rw[e1 (i+1) c]
    exact h i c
  · have:i+1=l.length:=by omega
    rw[rdp _ (i+1) (by rw[List.length_append,List.length_singleton];omega),List.getElem_append_right (by omega)]
    have hh:=hl.resolve_left (by omega)
    unfold lastp at hh
    rw[show l.length - 1=i by omega] at hh
    simpa [this] using hh
theorem cost_bd (p:S58):5≤cost (cutp p)∧cost (cutp p)≤960:=by
  have h1:=headv_size p.f0 255
  have h2:=headv_size p.f1 700
  unfold cost cutp
  simp only[]
  omega
theorem risI_step (most:Int) (i:Nat) (st:List S58×Int) (p:S58) (h:RisI most i st):RisI most (i+1) (risS most st (cutp p)):=by
  unfold risS
  by_cases c:risc most st.1 st.2 (cutp p)=true
  · rw[if_pos c]
    unfold risc at c
    simp only[Bool.and_eq_true,Bool.not_eq_true',decide_eq_false_iff_not,Bool.or_eq_true,decide_eq_true_eq] at c
    obtain⟨⟨c1,c2⟩,c3⟩:=c
    have hb:=cost_bd p
    have h1:=headv_size p.f0 255
    have h2:=headv_size p.f1 700
    refine ⟨fun q hq=>?_,rises_snoc _ _ h.up c2,?_,?_,c3,?_⟩
    · rcases List.mem_append.1 hq with hq|hq
      · exact h.ok q hq
      · simp only[List.mem_singleton] at hq
        subst hq
        exact ⟨Nat.one_le_iff_ne_zero.2 c1,h1,h2⟩
    · simp only[sizeT_snoc,h.sz]
    · have:=h.lo
      simp only[]
      omega
    · have:=h.len
      simp only[List.length_append,List.length_singleton]
      omega
  · rw[if_neg c]
    have:=h.len
    exact ⟨h.ok,h.up,h.sz,h.lo,h.hi,by omega⟩
theorem risI (l:List S58) (most:Int) (hm:0≤most) : ∀ i,RisI most i (risN l most i)
  |0=>⟨fun p hp=>by simp[risN] at hp,fun i hi=>by simp[risN] at hi,rfl,Int.le_refl _,hm,Nat.le_refl _⟩
  |i+1=>by
    rw[risN]
    exact risI_step most i _ _ (risI l most hm i)
theorem rising_ev (l:List S58) (most:Int) (hl:l.length*32≤140737488351232) (hm:0≤most) (hm2:most≤4611686018427387904):Ev (fun k=>copselaw7_rising.f k l most) (risv l most):=by
  refine Ev.loop' (σ:=fun i k=>copselaw7_rising.l0 k l most (risN l most i).1 (risN l most i).2 (i:Int)) (n:=l.length) (fun i hi hn=>?_) (Ev.done fun k=>?_) 0 (by omega)
  · have hI:=risI l most hm i
    obtain⟨p,hp⟩ : ∃ p,p=rd_T58 l (i:Int):=⟨_,rfl⟩
    obtain⟨st,hst⟩ : ∃ st,st=risN l most i:=⟨_,rfl⟩
    have hst2:risN l most (i+1)=risS most st (cutp p):=by rw[risN,hst,hp]
    rw[hst2] at hn
    rw[←hst] at hI ⊢
    have hb:=cost_bd p
    have hlo:=hI.lo
    have hhi:=hI.hi
    have hlen:=hI.len
    obtain⟨out,size⟩:=st
    simp only[] at hlo hhi hlen
    have c1:(i:Int)<(l.length:Int):=by omega
    have c2:(0:Int)≤(i:Int):=by omega
    have hcost:wrap64 ((wrap64 (5+((headv p.f0 255).size:Int)))+((headv p.f1 700).size:Int))=cost (cutp p):=by
      have h1:=headv_size p.f0 255
      have h2:=headv_size p.f1 700
      rw[w64 (n:=5+((headv p.f0 255).size:Int)) (by omega) (by omega),w64 (by omega) (by omega)]
      rfl
    have hsum:wrap64 (size+cost (cutp p))=size+cost (cutp p):=w64 (by omega) (by omega)
    have hw1:wrap64 ((i:Int)+1)=((i+1:Nat):Int):=w64 (by omega) (by omega)
    have hlo4:out.length<4398046511104:=by omega
    have hj:Ev (fun k=>copselaw7_rising.j1 k l most out size (i:Int) (cost (cutp p)) (risc most out size (cutp p)) (headv p.f0 255) (headv p.f1 700)) (risv l most):=by
      refine Ev.step (fun k=>?_) hn
      simp only[copselaw7_rising.j1,hw1,hsum]
      unfold risS
      by_cases c:risc most out size (cutp p)=true
      · rw[if_pos c,if_pos c,if_pos hlo4]
        rfl
      · rw[if_neg c,if_neg c]
    refine Ev.step (fun k=>?_) hj
    simp only[copselaw7_rising.l0]
    rw[if_pos c1,if_pos c2,←hp,show (255:Int)=((255:Nat):Int) from rfl,show (700:Int)=((700:Nat):Int) from rfl,Head_eq _ 255 (by decide),Head_eq _ 700 (by decide),Option.bind_some,Option.bind_some,hcost,hsum]
    unfold risc
    by_cases e1:(headv p.f0 255).size=0
    · have e1':(headv p.f0 255).toList=[]:=by
        rw[ByteArray.toList_eq]
        exact List.length_eq_zero_iff.1 ((Array.length_toList).trans e1)
      rw[if_pos e1',show decide ((cutp p).f0.size=0)=true from decide_eq_true e1]
      simp only[Bool.not_true,Bool.false_and]
    · have e1' : ¬ (headv p.f0 255).toList=[]:=fun h=>e1 (by
        rw[ByteArray.toList_eq] at h
        have:=congrArg List.length h
        rw[Array.length_toList] at this
        exact this)
      rw[if_neg e1',show decide ((cutp p).f0.size=0)=false from decide_eq_false e1]
      simp only[Bool.not_false,Bool.true_and]
      by_cases e2:out.length=0
      · rw[if_pos (by omega),decide_eq_true e2,Bool.true_or,Bool.true_and]
      · have hw2:wrap64 ((out.length:Int) - 1)=((out.length - 1:Nat):Int):=by rw[w64 (by omega) (by omega)];omega
        rw[if_neg (by omega),hw2,if_pos (by omega),if_pos (by omega),decide_eq_false e2,Bool.false_or]
        unfold lastp
        by_cases e3:Op.bytesLess (rd_T58 out ((out.length - 1:Nat):Int)).f0.toList (headv p.f0 255).toList=true
        · rw[if_pos e3,show Op.bytesLess (rd_T58 out ((out.length - 1:Nat):Int)).f0.toList (cutp p).f0.toList=true from e3,Bool.true_and]
        · rw[if_neg e3,show Op.bytesLess (rd_T58 out ((out.length - 1:Nat):Int)).f0.toList (cutp p).f0.toList=false from Bool.eq_false_iff.2 e3,Bool.false_and]
  · simp only[copselaw7_rising.l0]
    rw[if_neg (by omega)]
    rfl
theorem risv_props (l:List S58) (most:Int) (hm:0≤most):(∀ p∈risv l most,okp p)∧Rises (risv l most)∧sizeT (risv l most)≤most∧(risv l most).length≤l.length:=by
  have h:=risI l most hm l.length
  exact ⟨h.ok,h.up,by have:=h.hi;rw[h.sz] at this;exact this,h.len⟩

/-! cuts and pivots of sizes -/
def fineS (l:List Int):Prop:=∀ z∈l,1≤z∧z≤4072
instance (l:List Int):Decidable (fineS l):=by unfold fineS;exact inferInstance
/-- The sum of the first i. -/
def S (l:List Int) (i:Nat):Int:=(l.take i).sum
theorem S_zero (l:List Int):S l 0=0:=by simp[S]
theorem S_succ (l:List Int) (i:Nat) (h:i<l.length):S l (i+1)=S l i+l[i]:=by
  unfold S
  rw[←take_snoc l i h,List.sum_append,List.sum_cons,List.sum_nil]
  omega
theorem S_all (l:List Int) (i:Nat) (h:l.length≤i):S l i=l.sum:=by
  unfold S
  rw[List.take_of_length_le h]
theorem S_bd (l:List Int) (hf:fineS l) : ∀ i:Nat,0≤S l i∧S l i≤4072*(i:Int)
  |0=>by rw[S_zero];omega
  |i+1=>by
    have ih:=S_bd l hf i
    by_cases h:i<l.length
    · have:=hf _ (List.getElem_mem h)
      rw[S_succ l i h]
      omega
    · rw[S_all l (i+1) (by omega),←S_all l i (by omega)]
      omega
theorem S_mono (l:List Int) (hf:fineS l) (i:Nat) : ∀ d:Nat,S l i≤S l (i+d)
  |0=>Int.le_refl _
  |d+1=>by
    have ih:=S_mono l hf i d
    by_cases h:i+d<l.length
    · have:=hf _ (List.getElem_mem h)
      rw[show i+(d+1)=i+d+1 by omega,S_succ l (i+d) h]
      omega
    · rw[S_all l (i+(d+1)) (by omega),←S_all l (i+d) (by omega)]
      exact ih
theorem S_le (l:List Int) (hf:fineS l) (i:Nat) (h:i≤l.length):S l i≤l.sum:=by
  have:=S_mono l hf i (l.length - i)
  rwa [show i+(l.length - i)=l.length by omega,S_all l l.length (Nat.le_refl _)] at this
theorem sum_bd (l:List Int) (hf:fineS l):0≤l.sum∧l.sum≤4072*(l.length:Int):=by
  have:=S_bd l hf l.length
  rwa [S_all l l.length (Nat.le_refl _)] at this
/-- How far apart the two sums are, at place i; s: 0 for a cut, 1 for a pivot. -/
def dist (l:List Int) (s i:Nat):Int:=((S l i+S l (i+s) - l.sum).natAbs:Int)
/-- The best place so far, and its distance. -/
def bl (l:List Int) (s:Nat):Nat→Nat×Int
  |0=>(0,0)
  |j+1=>if (bl l s j).1=0∨dist l s (j+1)<(bl l s j).2 then (j+1,dist l s (j+1)) else bl l s j
theorem bl_succ (l:List Int) (s j:Nat):bl l s (j+1)=if (bl l s j).1=0∨dist l s (j+1)<(bl l s j).2 then (j+1,dist l s (j+1)) else bl l s j:=rfl
theorem bl_pos (l:List Int) (s:Nat) : ∀ j,(bl l s (j+1)).1≠0
  |0=>by simp[bl]
  |j+1=>by
    have ih:=bl_pos l s j
    rw[bl]
    split
    · simp
    · exact ih
theorem bl_le (l:List Int) (s:Nat) : ∀ j,(bl l s j).1≤j
  |0=>by simp[bl]
  |j+1=>by
    have ih:=bl_le l s j
    rw[bl]
    split
    · simp
    · omega
theorem dist_bd (l:List Int) (hf:fineS l) (s i:Nat) (h:i+s≤l.length):0≤dist l s i∧dist l s i≤2*(4072*(l.length:Int)):=by
  have h1:=S_bd l hf i
  have h2:=S_bd l hf (i+s)
  have h3:=sum_bd l hf
  have h4:=S_le l hf i (by omega)
  have h5:=S_le l hf (i+s) (by omega)
  unfold dist
  omega
def cutv (l:List Int) (s:Nat):Int×Option Int:=if l.length<2+s then (0,some 4) else if fineS l then (((bl l s (l.length - 1 - s)).1:Int),none) else (0,some 1)
theorem unfine {l:List Int} (h : ¬ fineS l) : ∃ i,∃ hi:i<l.length,¬ (1≤l[i]∧l[i]≤4072):=by
  refine Classical.byContradiction fun hn=>h fun p hp=>Classical.byContradiction fun hb=>hn ?_
  obtain⟨i,hi,rfl⟩:=List.mem_iff_getElem.1 hp
  exact ⟨i,hi,hb⟩
theorem check_ev (l:List Int) (s:Nat) (hs:s≤1) (hl:l.length≤17592186044000):Ev (fun k=>cells_check.f k l ((2+s:Nat):Int)) (if l.length<2+s then (0,some 4) else if fineS l then (l.sum,none) else (0,some 1)):=by
  by_cases h1:l.length<2+s
  · rw[if_pos h1]
    exact Ev.const fun k=>if_pos (by omega)
  · rw[if_neg h1]
    refine Ev.congr (fun k=>if_neg (by omega)) ?_
    have hstep : ∀ i (hi:i<l.length),(1≤l[i]∧l[i]≤4072)→(0≤S l i∧S l i≤4072*(i:Int))→∀ k,cells_check.l0 (k+1) (S l i) l (l.length:Int) (i:Int)=cells_check.l0 k (S l (i+1)) l (l.length:Int) ((i+1:Nat):Int):=fun i hi ho hb k=>by
      simp only[cells_check.l0]
      rw[if_pos (by omega),if_pos (by omega),if_pos (by omega),rd_nat l i hi,if_neg (by omega),if_neg (by omega),S_succ l i hi,w64 (by omega) (by omega),w64 (by omega) (by omega)]
      rfl
    by_cases hf:fineS l
    · rw[if_pos hf]
      have:=Ev.loop (σ:=fun i k=>cells_check.l0 k (S l i) l (l.length:Int) (i:Int)) (r:=(l.sum,none)) (n:=l.length) (fun i hi k=>hstep i hi (hf _ (List.getElem_mem hi)) (S_bd l hf i) k) (Ev.done fun k=>by
        simp only[cells_check.l0]
        rw[if_neg (by omega),S_all l _ (Nat.le_refl _)]) 0 (by omega)
      rwa [S_zero] at this
    · rw[if_neg hf]
      obtain⟨i0,hi0,hb0⟩:=unfine hf
      -- the sum may turn over ahead of the bad one only as long as all were sizes
      have hbad : ∀ i (hi:i<l.length) (x:Int),¬ (1≤l[i]∧l[i]≤4072)→Ev (fun k=>cells_check.l0 k x l (l.length:Int) (i:Int)) (0,some 1):=fun i hi x ho=>Ev.done fun k=>by
        simp only[cells_check.l0]
        rw[if_pos (by omega),if_pos (by omega),if_pos (by omega),rd_nat l i hi]
        by_cases c:l[i]<1
        · rw[if_pos c]
        · rw[if_neg c,if_pos (by omega)]
      have : ∀ d i x,i+d=i0→Ev (fun k=>cells_check.l0 k x l (l.length:Int) (i:Int)) (0,some 1):=by
        intro d
        induction d with
        | zero => intro i x hi; obtain rfl : i = i0 := by omega
                  exact hbad _ hi0 x hb0
        |succ d ih=>
          intro i x hi
          by_cases ho:1≤l[i]'(by omega)∧l[i]'(by omega)≤4072
          · refine Ev.step (fun k=>?_) (ih (i+1) (wrap64 (x+l[i]'(by omega))) (by omega))
            simp only[cells_check.l0]
            rw[if_pos (by omega),if_pos (by omega),if_pos (by omega),rd_nat l i (by omega),if_neg (by omega),if_neg (by omega),w64 (n:=(i:Int)+1) (by omega) (by omega)]
            rfl
          · exact hbad i (by omega) x ho
      exact this i0 0 0 (by omega)
theorem near_ev (l:List Int) (s:Nat) (hs:s≤1) (hl:l.length≤17592186044000) (hf:fineS l) (h2:2+s≤l.length) (g:Int→Int→Int)
    (hg : ∀ i,1≤i→i+s<l.length→cells_nearest.abs (g (S l i) (rd l (i:Int)))=dist l s i) :
    Ev (fun k=>cells_nearest.f g k l ((l.length - 1 - s:Nat):Int)) ((bl l s (l.length - 1 - s)).1:Int):=by
  refine Ev.congr (f:=fun k=>cells_nearest.l g k l ((l.length - 1 - s:Nat):Int) 0 0 (S l 1) 1) (fun k=>?_) ?_
  · unfold cells_nearest.f
    rw[if_pos (by omega)]
    congr 1
    rw[S_succ l 0 (by omega),S_zero,show (0:Int)=((0:Nat):Int) from rfl,rd_nat l 0 (by omega)]
    omega
  · have:=Ev.loop (σ:=fun j k=>cells_nearest.l g k l ((l.length - 1 - s:Nat):Int) ((bl l s j).1:Int) (bl l s j).2 (S l (j+1)) ((j+1:Nat):Int)) (r:=((bl l s (l.length - 1 - s)).1:Int)) (n:=l.length - 1 - s) (fun j hj k=>by
      have hb1:=S_bd l hf (j+1)
      have hb2:=S_bd l hf (j+1+1)
      have hn1:wrap64 (S l (j+1)+rd l ((j+1:Nat):Int))=S l (j+1+1):=by
        rw[rd_nat l (j+1) (by omega),←S_succ l (j+1) (by omega),w64 (by omega) (by omega)]
      have hn2:wrap64 (((j+1:Nat):Int)+1)=((j+1+1:Nat):Int):=w64 (by omega) (by omega)
      simp only[cells_nearest.l]
      rw[if_pos (by omega),if_pos (by omega),hg (j+1) (by omega) (by omega),hn1,hn2]
      rw[bl]
      by_cases c:(bl l s j).1=0∨dist l s (j+1)<(bl l s j).2
      · rw[if_pos c,if_pos (by omega)]
      · rw[if_neg c,if_neg (by omega)]) (Ev.done fun k=>by
      simp only[cells_nearest.l]
      rw[if_neg (by omega)]) 0 (by omega)
    exact this
theorem abs_wrap (x:Int) (h0 : -4611686018427387904≤x) (h1:x<4611686018427387904):cells_nearest.abs x=(x.natAbs:Int):=by
  unfold cells_nearest.abs
  split
  · rw[w64 (by omega) (by omega)]
    omega
  · omega
theorem Cut_ev (l:List Int) (hl:l.length≤17592186044000):Ev (fun k=>cells_Cut.f k l) (cutv l 0):=by
  unfold cutv
  refine Ev.bind (check_ev l 0 (by omega) hl) ?_
  by_cases h1:l.length<2+0
  · rw[if_pos h1,if_pos h1]
    exact Ev.const fun k=>rfl
  · rw[if_neg h1,if_neg h1]
    by_cases hf:fineS l
    · rw[if_pos hf,if_pos hf]
      refine Ev.congr (f:=fun k=>(cells_nearest.f (fun ah ow=>wrap64 (wrap64 (2*ah) - l.sum)) k l ((l.length - 1 - 0:Nat):Int)).bind fun n=>some (n,none)) (fun k=>?_) (Ev.bind (near_ev l 0 (by omega) hl hf (by omega) _ (fun i hi1 hi2=>?_)) (Ev.const fun k=>rfl))
      · simp only[Option.isNone_none,↓reduceIte]
        rw[w64 (by omega) (by omega),show (l.length:Int) - 1=((l.length - 1 - 0:Nat):Int) by omega]
      · have b1:=S_bd l hf i
        have b2:=sum_bd l hf
        rw[w64 (n:=2*S l i) (by omega) (by omega),w64 (by omega) (by omega),abs_wrap _ (by omega) (by omega)]
        unfold dist
        rw[Nat.add_zero]
        congr 1
        congr 1
        omega
    · rw[if_neg hf,if_neg hf]
      exact Ev.const fun k=>rfl

theorem Rfine_ev (l:List Int) (hl:l.length≤17592186044000):Ev (fun k=>copseref6_fine.f k l) (decide (fineS l)):=by
  have hstep : ∀ i (hi:i<l.length),(1≤l[i]∧l[i]≤4072)→∀ k,copseref6_fine.l0 (k+1) l (i:Int)=copseref6_fine.l0 k l ((i+1:Nat):Int):=fun i hi ho k=>by
    simp only[copseref6_fine.l0]
    rw[if_pos (by omega),if_pos (by omega),rd_nat l i hi,if_neg (by omega),if_neg (by omega),w64 (by omega) (by omega)]
    rfl
  by_cases hf:fineS l
  · rw[decide_eq_true hf]
    exact Ev.loop (σ:=fun i k=>copseref6_fine.l0 k l (i:Int)) (r:=true) (n:=l.length) (fun i hi k=>hstep i hi (hf _ (List.getElem_mem hi)) k) (Ev.done fun k=>by
      simp only[copseref6_fine.l0]
      rw[if_neg (by omega)]) 0 (by omega)
  · rw[decide_eq_false hf]
    obtain⟨i0,hi0,hb0⟩:=unfine hf
    have hbad : ∀ i (hi:i<l.length),¬ (1≤l[i]∧l[i]≤4072)→Ev (fun k=>copseref6_fine.l0 k l (i:Int)) false:=fun i hi ho=>Ev.done fun k=>by
      simp only[copseref6_fine.l0]
      rw[if_pos (by omega),if_pos (by omega),rd_nat l i hi]
      by_cases c:l[i]<1
      · rw[if_pos c]
      · rw[if_neg c,if_pos (by omega)]
    refine Ev.loop' (σ:=fun i k=>copseref6_fine.l0 k l (i:Int)) (r:=false) (n:=i0) (fun i hi hn=>?_) (hbad i0 hi0 hb0) 0 (by omega)
    by_cases ho:1≤l[i]∧l[i]≤4072
    · exact Ev.step (fun k=>hstep i (by omega) ho k) hn
    · exact hbad i (by omega) ho
theorem Rsum_ev (l:List Int) (hl:l.length≤17592186044000) (hf:fineS l) (a b:Nat) (hab:a≤b) (hb:b≤l.length):Ev (fun k=>copseref6_sum.f k l (a:Int) (b:Int)) (S l b - S l a):=by
  have:=Ev.loop (σ:=fun i k=>copseref6_sum.l0 k l (b:Int) (S l (a+i) - S l a) ((a+i:Nat):Int)) (r:=S l b - S l a) (n:=b - a) (fun i hi k=>by
    have b0:=S_bd l hf a
    have b1:=S_bd l hf (a+i)
    have b2:=S_bd l hf (a+i+1)
    have e:=S_succ l (a+i) (by omega)
    simp only[copseref6_sum.l0]
    rw[if_pos (by omega),if_pos (by omega),if_pos (by omega),rd_nat l (a+i) (by omega),show S l (a+i) - S l a+l[a+i]'(by omega)=S l (a+i+1) - S l a by omega,w64 (n:=S l (a+i+1) - S l a) (by omega) (by omega),w64 (by omega) (by omega)]
    rfl) (Ev.done fun k=>by
    simp only[copseref6_sum.l0]
    rw[if_neg (by omega),show a+(b - a)=b by omega]) 0 (by omega)
  rw[Nat.add_zero,Int.sub_self] at this
  exact this
theorem Rapart (a b:Int) (h0 : -4611686018427387904≤a - b) (h1:a - b<4611686018427387904):copseref6_apart.f a b=some (((a - b).natAbs:Nat):Int):=by
  unfold copseref6_apart.f
  split
  · rw[w64 (by omega) (by omega)]
    congr 1
    omega
  · rw[w64 (by omega) (by omega)]
    congr 1
    omega
theorem rn_w1 (j:Nat) (h:j≤17592186044000):wrap64 (((j+2:Nat):Int) - 1)=((j+1:Nat):Int):=by rw[w64 (by omega) (by omega)];omega
theorem rn_w2 (j s:Nat) (h:j≤17592186044000) (hs:s≤1):wrap64 (((j+1:Nat):Int)+(s:Int))=((j+1+s:Nat):Int):=by rw[w64 (by omega) (by omega)];omega
theorem rn_w5 (j:Nat) (h:j≤17592186044000):wrap64 (((j+2:Nat):Int)+1)=((j+1+2:Nat):Int):=by rw[w64 (by omega) (by omega)];omega
theorem rn_w3 (l:List Int) (hf:fineS l) (hl:l.length≤17592186044000) (i:Nat) (h:i<l.length):wrap64 (S l i+l[i])=S l (i+1):=by
  have b:=S_bd l hf (i+1)
  rw[←S_succ l i h,w64 (by omega) (by omega)]
theorem rn_w4 (l:List Int) (hf:fineS l) (hl:l.length≤17592186044000) (i:Nat) (h:i<l.length):wrap64 (l.sum - S l i - l[i])=l.sum - S l (i+1):=by
  have b:=S_bd l hf (i+1)
  have b5:=sum_bd l hf
  rw[show l.sum - S l i - l[i]=l.sum - S l (i+1) by rw[S_succ l i h];omega,w64 (by omega) (by omega)]
theorem Rnear_ev (l:List Int) (s:Nat) (hs:s≤1) (hl:l.length≤17592186044000) (hf:fineS l) (h2:2+s≤l.length) :
    Ev (fun k=>copseref6_nearest.f k l ((l.length - 1 - s:Nat):Int) (s:Int)) ((bl l s (l.length - 1 - s)).1:Int):=by
  have hd : ∀ i,i+s≤l.length→copseref6_apart.f (S l i) (l.sum - S l (i+s))=some (dist l s i):=fun i hi=>by
    have b1:=S_bd l hf i
    have b2:=S_bd l hf (i+s)
    have b3:=sum_bd l hf
    rw[Rapart _ _ (by omega) (by omega)]
    unfold dist
    congr 2
    omega
  unfold copseref6_nearest.f
  have s1:=Rsum_ev l hl hf 0 1 (by omega) (by omega)
  have s2:=Rsum_ev l hl hf (1+s) l.length (by omega) (by omega)
  rw[S_zero,Int.sub_zero] at s1
  rw[S_all l l.length (Nat.le_refl _)] at s2
  refine Ev.bind s1 ?_
  refine Ev.congr (f:=fun k=>(copseref6_sum.f k l ((1+s:Nat):Int) (l.length:Int)).bind fun t109=>((copseref6_apart.f (S l 1) t109).bind fun t110=>(copseref6_nearest.l0 k l ((l.length - 1 - s:Nat):Int) (s:Int) 1 (S l 1) t109 t110 2))) (fun k=>?_) (Ev.bind s2 (Ev.bindc (hd 1 (by omega)) ?_))
  · rw[w64 (by omega) (by omega),show (1:Int)+(s:Int)=((1+s:Nat):Int) by omega]
  · have:=Ev.loop (σ:=fun j k=>copseref6_nearest.l0 k l ((l.length - 1 - s:Nat):Int) (s:Int) ((bl l s (j+1)).1:Int) (S l (j+1)) (l.sum - S l (j+1+s)) (bl l s (j+1)).2 ((j+2:Nat):Int)) (r:=((bl l s (l.length - 1 - s)).1:Int)) (n:=l.length - 2 - s) (fun j hj k=>by
      have c0:j≤17592186044000:=by omega
      have c9:j+1+s+1=j+1+1+s:=by omega
      have c1:((j+2:Nat):Int)≤((l.length - 1 - s:Nat):Int):=by omega
      have c2:0≤((j+1:Nat):Int):=by omega
      have c3:((j+1:Nat):Int)<(l.length:Int):=by omega
      have c4:0≤((j+1+s:Nat):Int):=by omega
      have c5:((j+1+s:Nat):Int)<(l.length:Int):=by omega
      have c6:j+1<l.length:=by omega
      have c7:j+1+s<l.length:=by omega
      have c8:j+1+1+s≤l.length:=by omega
      have w1:=rn_w1 j c0
      have w2:=rn_w2 j s c0 hs
      have w3:=rn_w3 l hf hl (j+1) c6
      have w4:=rn_w4 l hf hl (j+1+s) c7
      have w5:=rn_w5 j c0
      rw[c9] at w4
      simp only[copseref6_nearest.l0,w1,w2]
      rw[if_pos c1,if_pos c2,if_pos c3,if_pos c4,if_pos c5,rd_nat l (j+1) c6,rd_nat l (j+1+s) c7,w3,w4,hd (j+1+1) c8,Option.bind_some,w5]
      rw[bl_succ l s (j+1)]
      have hp:=bl_pos l s j
      by_cases c:dist l s (j+1+1)<(bl l s (j+1)).2
      · rw[if_pos c,if_pos (.inr c)]
      · rw[if_neg c,if_neg (fun h=>h.elim hp c)]) (Ev.done fun k=>by
      simp only[copseref6_nearest.l0]
      rw[if_neg (by omega),show l.length - 2 - s+1=l.length - 1 - s by omega]) 0 (by omega)
    have e:bl l s (0+1)=(1,dist l s 1):=by simp[bl]
    rw[e] at this
    rw[show 1+s=0+1+s by omega]
    exact this
def rcutv (l:List Int) (s:Nat):Int×Int:=if l.length<2+s then (0,4) else if fineS l then (((bl l s (l.length - 1 - s)).1:Int),0) else (0,1)
theorem RCut_ev (l:List Int) (hl:l.length≤17592186044000):Ev (fun k=>copseref6_Cut.f k l) (rcutv l 0):=by
  unfold rcutv copseref6_Cut.f
  by_cases h1:l.length<2+0
  · rw[if_pos h1]
    exact Ev.const fun k=>if_pos (by omega)
  · rw[if_neg h1]
    refine Ev.congr (fun k=>if_neg (by omega)) (Ev.bind (Rfine_ev l hl) ?_)
    by_cases hf:fineS l
    · rw[if_pos hf]
      refine Ev.congr (f:=fun k=>(copseref6_nearest.f k l ((l.length - 1 - 0:Nat):Int) ((0:Nat):Int)).bind fun n=>some (n,0)) (fun k=>?_) (Ev.bind (Rnear_ev l 0 (by omega) hl hf (by omega)) (Ev.const fun k=>rfl))
      rw[if_pos (decide_eq_true hf),w64 (by omega) (by omega),show (l.length:Int) - 1=((l.length - 1 - 0:Nat):Int) by omega]
      rfl
    · rw[if_neg hf]
      exact Ev.const fun k=>if_neg (by simp[hf])
theorem cut_num (l:List Int) (s:Nat):copsekit_Num.f (cutv l s).2=some (rcutv l s).2∧(cutv l s).1=(rcutv l s).1:=by
  unfold cutv rcutv
  by_cases h1:l.length<2+s
  · rw[if_pos h1,if_pos h1];simp[copsekit_Num.f,en]
  rw[if_neg h1,if_neg h1]
  by_cases hf:fineS l
  · rw[if_pos hf,if_pos hf];simp[copsekit_Num.f]
  · rw[if_neg hf,if_neg hf];simp[copsekit_Num.f,en]

/-! how pairs are cut -/
def costW (p:S58):Int:=wrap64 (wrap64 (5+(p.f0.size:Int))+(p.f1.size:Int))
def csz (l:List S58):List Int:=l.map costW
theorem csz_len (l:List S58):(csz l).length=l.length:=List.length_map _
theorem csz_snoc (l:List S58) (p:S58):csz (l++[p])=csz l++[costW p]:=by simp[csz]
theorem cutv_bd (l:List Int) (s:Nat):0≤(cutv l s).1∧(cutv l s).1≤(l.length:Int):=by
  have:=bl_le l s (l.length - 1 - s)
  unfold cutv
  split
  · simp
  · split
    · simp only[]
      omega
    · simp
def lcut (l:List S58):List S58×List S58×Option Int:=if (cutv (csz l) 0).2.isNone=true then (l.take (cutv (csz l) 0).1.toNat,l.drop (cutv (csz l) 0).1.toNat,none) else ([],[],(cutv (csz l) 0).2)
theorem LCut_ev (l:List S58) (hl:l.length*32≤140737488351232):Ev (fun k=>leaf_Cut.f k l) (lcut l):=by
  have hc:=Cut_ev (csz l) (by rw[csz_len];omega)
  have hb:=cutv_bd (csz l) 0
  rw[csz_len] at hb
  have h0:=Ev.loop (σ:=fun i k=>leaf_Cut.l0 k l (csz (l.take i)) l (l.length:Int) (i:Int)) (r:=lcut l) (n:=l.length) (fun i hi k=>by
    have hlen:(csz (l.take i)).length=i:=by rw[csz_len,List.length_take];omega
    simp only[leaf_Cut.l0,leaf_cost.f,Option.bind_some]
    rw[if_pos (by omega),if_pos (by omega),if_pos (by omega),if_pos (by omega),rdp l i hi,show wrap64 (wrap64 (5+(l[i].f0.size:Int))+(l[i].f1.size:Int))=costW l[i] from rfl,←csz_snoc,take_snoc l i hi,w64 (by omega) (by omega)]
    rfl) (by
    rw[List.take_of_length_le (Nat.le_refl _)]
    unfold lcut
    generalize hcv:cutv (csz l) 0=c at hc hb
    obtain⟨n,e⟩:=c
    refine Ev.step (f:=fun k=>(cells_Cut.f k (csz l)).bind fun bt140=>(if bt140.2.isNone=true then (if 0≤bt140.1 then (if bt140.1≤(l.length:Int) then ((some (l.take (bt140.1:Int).toNat:List (S58))).bind fun y143=>(if ([]:List (S58)).length+y143.length<4398046511104 then ((some (l.drop (bt140.1:Int).toNat:List (S58))).bind fun y150=>(if ([]:List (S58)).length+y150.length<4398046511104 then (some ((([]:List (S58))++y143),(([]:List (S58))++y150),none)) else (none))) else (none))) else (none)) else (none)) else (some (([]:List (S58)),([]:List (S58)),some (bt140.2.getD 0))))) (fun k=>?_) (Ev.bind hc (Ev.const fun k=>?_))
    · simp only[leaf_Cut.l0]
      rw[if_neg (by omega)]
    · simp only[] at hb
      have l1:(l.take n.toNat).length<4398046511104:=by rw[List.length_take];omega
      have l2:(l.drop n.toNat).length<4398046511104:=by rw[List.length_drop];omega
      rcases e with _|q
      · simp only[Option.isNone_none,↓reduceIte,Option.bind_some,List.length_nil,Nat.zero_add,List.nil_append]
        rw[if_pos hb.1,if_pos hb.2,if_pos l1,if_pos l2]
      · simp) 0 (by omega)
  exact h0

def rlcut (l:List S58):List S58×List S58×Int:=if (rcutv (csz l) 0).2=0 then (l.take (rcutv (csz l) 0).1.toNat,l.drop (rcutv (csz l) 0).1.toNat,0) else ([],[],(rcutv (csz l) 0).2)
theorem RLCut_ev (l:List S58) (hl:l.length*32≤140737488351232):Ev (fun k=>copseref7_Cut.f k l) (rlcut l):=by
  have hc:=RCut_ev (csz l) (by rw[csz_len];omega)
  have hb:=cutv_bd (csz l) 0
  rw[csz_len,(cut_num (csz l) 0).2] at hb
  have h1:Ev (fun k=>copseref7_Cut.l1 k l (rcutv (csz l) 0).1 ([]:List (S58)) ([]:List (S58)) 0) (l.take (rcutv (csz l) 0).1.toNat,l.drop (rcutv (csz l) 0).1.toNat,0):=by
    obtain⟨N,hN⟩ : ∃ N:Nat,(rcutv (csz l) 0).1=(N:Int):=⟨(rcutv (csz l) 0).1.toNat,by omega⟩
    rw[hN] at hb ⊢
    rw[Int.toNat_natCast]
    have:=Ev.loop (σ:=fun i k=>copseref7_Cut.l1 k l (N:Int) ((l.take N).take i) ((l.drop N).take (i - N)) (i:Int)) (r:=(l.take N,l.drop N,0)) (n:=l.length) (fun i hi k=>by
      have e1:((l.take N).take i).length≤i:=by rw[List.length_take];omega
      have e2:((l.drop N).take (i - N)).length≤i:=by rw[List.length_take];omega
      simp only[copseref7_Cut.l1]
      rw[if_pos (by omega)]
      by_cases c:i<N
      · have hlt:i<(l.take N).length:=by rw[List.length_take];omega
        have e3:(l.take N).take i++[l[i]]=(l.take N).take (i+1):=by rw[←take_snoc (l.take N) i hlt,List.getElem_take]
        rw[if_pos (by omega),if_pos (by omega),if_pos (by omega),rdp l i hi,w64 (by omega) (by omega),e3,show i+1 - N=i - N by omega]
        rfl
      · have hlt:i - N<(l.drop N).length:=by rw[List.length_drop];omega
        have e3:(l.drop N).take (i - N)++[l[i]]=(l.drop N).take (i+1 - N):=by
          rw[show i+1 - N=i - N+1 by omega,←take_snoc (l.drop N) (i - N) hlt,List.getElem_drop]
          congr 3
          omega
        rw[if_neg (by omega),if_pos (by omega),if_pos (by omega),rdp l i hi,w64 (by omega) (by omega),e3,List.take_of_length_le (l:=l.take N) (by rw[List.length_take];omega),List.take_of_length_le (l:=l.take N) (by rw[List.length_take];omega)]
        rfl) (Ev.done fun k=>by
      simp only[copseref7_Cut.l1]
      rw[if_neg (by omega),List.take_of_length_le (l:=l.take N) (by rw[List.length_take];omega),List.take_of_length_le (l:=l.drop N) (by rw[List.length_drop];omega)]) 0 (by omega)
    simpa using this
  have h0:=Ev.loop (σ:=fun i k=>copseref7_Cut.l0 k l (csz (l.take i)) (i:Int)) (r:=rlcut l) (n:=l.length) (fun i hi k=>by
    have hlen:(csz (l.take i)).length=i:=by rw[csz_len,List.length_take];omega
    simp only[copseref7_Cut.l0]
    rw[if_pos (by omega),if_pos (by omega),if_pos (by omega),rdp l i hi,show wrap64 (wrap64 (5+(l[i].f0.size:Int))+(l[i].f1.size:Int))=costW l[i] from rfl,←csz_snoc,take_snoc l i hi,w64 (by omega) (by omega)]
    rfl) (by
    rw[List.take_of_length_le (Nat.le_refl _)]
    unfold rlcut
    refine Ev.step (f:=fun k=>(copseref6_Cut.f k (csz l)).bind fun bt173=>(if bt173.2=0 then (copseref7_Cut.l1 k l bt173.1 ([]:List (S58)) ([]:List (S58)) 0) else (some (([]:List (S58)),([]:List (S58)),bt173.2)))) (fun k=>?_) (Ev.bind hc ?_)
    · simp only[copseref7_Cut.l0]
      rw[if_neg (by omega)]
    · by_cases c:(rcutv (csz l) 0).2=0
      · rw[if_pos c]
        exact Ev.congr (fun k=>if_pos c) h1
      · rw[if_neg c]
        exact Ev.const fun k=>if_neg c) 0 (by omega)
  exact h0
theorem lcut_num (l:List S58):copsekit_Num.f (lcut l).2.2=some (rlcut l).2.2∧(lcut l).1=(rlcut l).1∧(lcut l).2.1=(rlcut l).2.1:=by
  unfold lcut rlcut cutv rcutv
  by_cases h1:(csz l).length<2+0
  · rw[if_pos h1,if_pos h1];simp[copsekit_Num.f,en]
  rw[if_neg h1,if_neg h1]
  by_cases hf:fineS (csz l)
  · rw[if_pos hf,if_pos hf];simp[copsekit_Num.f]
  · rw[if_neg hf,if_neg hf];simp[copsekit_Num.f,en]

/-! where a key stands -/
def fidx (l:List S58) (key:ByteArray):Nat:=leaf_Find.idx l key
def fthere (l:List S58) (key:ByteArray):Bool:=decide (fidx l key<l.length)&&((rd_T58 l (fidx l key:Int)).f0.toList==key.toList)
def fnext (l:List S58) (key:ByteArray):Nat:=if fthere l key=true then fidx l key+1 else fidx l key
def setv (l:List S58) (key val:ByteArray):List S58:=l.take (fidx l key)++[(⟨key,val⟩:S58)]++l.drop (fnext l key)
def dropv (l:List S58) (key:ByteArray):List S58:=l.take (fidx l key)++l.drop (fnext l key)
theorem fidx_le (l:List S58) (key:ByteArray):fidx l key≤l.length:=List.findIdx_le_length
theorem fidx_before (l:List S58) (key:ByteArray) (i:Nat) (h:i<fidx l key):Op.bytesLess (l[i]'(Nat.lt_of_lt_of_le h (fidx_le l key))).f0.toList key.toList=true:=by
  have:=List.not_of_lt_findIdx (p:=leaf_Find.ge key) (xs:=l) (i:=i) h
  simpa [leaf_Find.ge] using this
theorem fidx_at (l:List S58) (key:ByteArray) (h:fidx l key<l.length):Op.bytesLess (l[fidx l key]).f0.toList key.toList=false:=by
  have h1:leaf_Find.ge key (l[fidx l key])=true:=List.findIdx_getElem (p:=leaf_Find.ge key) (xs:=l) (w:=h)
  simpa [leaf_Find.ge] using h1
theorem fthere_lt (l:List S58) (key:ByteArray) (h:fthere l key=true):fidx l key<l.length:=by
  unfold fthere at h
  simp only[Bool.and_eq_true,decide_eq_true_eq] at h
  exact h.1
theorem fnext_le (l:List S58) (key:ByteArray):fnext l key≤l.length:=by
  unfold fnext
  split
  · have:=fthere_lt l key (by assumption)
    omega
  · exact fidx_le l key
theorem Find_eq (l:List S58) (key:ByteArray) (hl:l.length<4611686018427387904):leaf_Find.f l key=some ((fidx l key:Int),fthere l key):=by
  unfold leaf_Find.f
  rw[if_pos hl]
  have hle:=fidx_le l key
  by_cases h:leaf_Find.idx l key<l.length
  · rw[if_pos h]
    unfold fthere
    rw[show fidx l key=leaf_Find.idx l key from rfl,decide_eq_true h,Bool.true_and]
  · rw[if_neg h]
    unfold fthere
    rw[show fidx l key=leaf_Find.idx l key from rfl,decide_eq_false h,Bool.false_and]
    congr 2
    have:fidx l key=leaf_Find.idx l key:=rfl
    omega
theorem Set_eq (l:List S58) (key val:ByteArray) (hl:l.length*32≤140737488351232):leaf_Set.f l key val=some (setv l key val):=by
  have hle:=fidx_le l key
  have hne:=fnext_le l key
  have t1:(l.take (fidx l key)).length≤l.length:=by rw[List.length_take];omega
  have t2:(l.take (fidx l key)++[(⟨key,val⟩:S58)]).length+(l.drop (fnext l key)).length<4398046511104:=by
    rw[List.length_append,List.length_take,List.length_drop,List.length_singleton]
    unfold fnext
    split <;> omega
  unfold leaf_Set.f setv
  rw[Find_eq l key (by omega)]
  simp only[Option.bind_some,Int.toNat_natCast,List.nil_append,List.length_nil,Nat.zero_add]
  rw[if_pos (by omega),if_pos (by omega),if_pos (by omega),if_pos (by omega)]
  by_cases h:fthere l key=true
  · have hn:fnext l key=fidx l key+1:=if_pos h
    rw[hn] at t2 hne ⊢
    rw[if_pos h,w64 (by omega) (by omega),if_pos (by omega),if_pos (by omega),show ((fidx l key:Int)+1).toNat=fidx l key+1 by omega,if_pos t2]
  · have hn:fnext l key=fidx l key:=if_neg h
    rw[hn] at t2 ⊢
    rw[if_neg h,if_pos t2]
theorem Drop_eq (l:List S58) (key:ByteArray) (hl:l.length*32≤140737488351232):leaf_Drop.f l key=some (dropv l key,fthere l key):=by
  have hle:=fidx_le l key
  have hne:=fnext_le l key
  have t1:(l.take (fidx l key)).length≤l.length:=by rw[List.length_take];omega
  have t2:(l.take (fidx l key)).length+(l.drop (fnext l key)).length<4398046511104:=by
    rw[List.length_take,List.length_drop]
    unfold fnext
    split <;> omega
  unfold leaf_Drop.f dropv
  rw[Find_eq l key (by omega)]
  simp only[Option.bind_some,Int.toNat_natCast,List.nil_append,List.length_nil,Nat.zero_add]
  rw[if_pos (by omega),if_pos (by omega),if_pos (by omega)]
  by_cases h:fthere l key=true
  · have hn:fnext l key=fidx l key+1:=if_pos h
    rw[hn] at t2 hne ⊢
    rw[if_pos h,w64 (by omega) (by omega),if_pos (by omega),if_pos (by omega),show ((fidx l key:Int)+1).toNat=fidx l key+1 by omega,if_pos t2]
  · have hn:fnext l key=fidx l key:=if_neg h
    rw[hn] at t2 ⊢
    rw[if_neg h,if_pos t2]

theorem RFind_ev (l:List S58) (key:ByteArray) (hl:l.length*32≤140737488351232):Ev (fun k=>copseref7_Find.f k l key) ((fidx l key:Int),fthere l key):=by
  have hle:=fidx_le l key
  exact Ev.loop (σ:=fun i k=>copseref7_Find.l0 k l key (i:Int)) (r:=((fidx l key:Int),fthere l key)) (n:=fidx l key) (fun i hi k=>by
    have hb:=fidx_before l key i hi
    simp only[copseref7_Find.l0]
    rw[if_pos (by omega),if_pos (by omega),rdp l i (by omega),if_pos hb,w64 (by omega) (by omega)]
    rfl) (Ev.done fun k=>by
    simp only[copseref7_Find.l0]
    by_cases h:fidx l key<l.length
    · have hb:=fidx_at l key h
      unfold fthere
      rw[if_pos (by omega),if_pos (by omega),rdp l _ h,if_neg (by simp[hb]),decide_eq_true h,Bool.true_and]
    · unfold fthere
      rw[if_neg (by omega),decide_eq_false h,Bool.false_and,show l.length=fidx l key by omega]) 0 (by omega)
theorem RSet_ev (l:List S58) (key val:ByteArray) (hl:l.length*32≤140737488351232):Ev (fun k=>copseref7_Set.f k l key val) (setv l key val):=by
  have hle:=fidx_le l key
  have hne:=fnext_le l key
  unfold copseref7_Set.f
  refine Ev.bind (RFind_ev l key hl) ?_
  have h1:Ev (fun k=>copseref7_Set.l1 k l (l.take (fidx l key)++[(⟨key,val⟩:S58)]) (fnext l key:Int)) (setv l key val):=by
    have:=Ev.loop (σ:=fun i k=>copseref7_Set.l1 k l (l.take (fidx l key)++[(⟨key,val⟩:S58)]++(l.drop (fnext l key)).take i) ((fnext l key+i:Nat):Int)) (r:=setv l key val) (n:=l.length - fnext l key) (fun i hi k=>by
      have hlt:i<(l.drop (fnext l key)).length:=by rw[List.length_drop];omega
      have hlen:(l.take (fidx l key)++[(⟨key,val⟩:S58)]++(l.drop (fnext l key)).take i).length<4398046511104:=by
        rw[List.length_append,List.length_append,List.length_take,List.length_take,List.length_drop,List.length_singleton]
        have:fidx l key≤fnext l key:=by unfold fnext;split <;> omega
        omega
      simp only[copseref7_Set.l1]
      rw[if_pos (by omega),if_pos (by omega),if_pos hlen,rdp l _ (by omega),w64 (by omega) (by omega),←take_snoc _ i hlt,List.getElem_drop,List.append_assoc _ _ [_]]
      rfl) (Ev.done fun k=>by
      simp only[copseref7_Set.l1]
      rw[if_neg (by omega),List.take_of_length_le (l:=l.drop _) (by rw[List.length_drop];omega)]
      rfl) 0 (by omega)
    simpa using this
  have:=Ev.loop (σ:=fun i k=>copseref7_Set.l0 k l key val (fidx l key:Int) (fthere l key) (l.take i) (i:Int)) (r:=setv l key val) (n:=fidx l key) (fun i hi k=>by
    have hlen:(l.take i).length<4398046511104:=by rw[List.length_take];omega
    simp only[copseref7_Set.l0]
    rw[if_pos (by omega),if_pos (by omega),if_pos (by omega),if_pos hlen,rdp l i (by omega),w64 (by omega) (by omega)]
    rw[show ([(⟨l[i].f0,l[i].f1⟩:S58)])=[l[i]] from rfl,take_snoc l i (by omega)]
    rfl) (by
    have hlen:(l.take (fidx l key)).length<4398046511104:=by rw[List.length_take];omega
    refine Ev.step (f:=fun k=>copseref7_Set.j1 k l (fnext l key:Int) (l.take (fidx l key)++[(⟨key,val⟩:S58)])) (fun k=>?_) (Ev.step (fun k=>by simp only[copseref7_Set.j1]) h1)
    simp only[copseref7_Set.l0]
    rw[if_neg (by omega),if_pos hlen,Option.bind_some]
    by_cases h:fthere l key=true
    · have hn:fnext l key=fidx l key+1:=if_pos h
      rw[if_pos h,hn,w64 (by omega) (by omega)]
      rfl
    · have hn:fnext l key=fidx l key:=if_neg h
      rw[if_neg h,hn]) 0 (by omega)
  exact this
theorem RDrop_ev (l:List S58) (key:ByteArray) (hl:l.length*32≤140737488351232):Ev (fun k=>copseref7_Drop.f k l key) (dropv l key,fthere l key):=by
  have hle:=fidx_le l key
  unfold copseref7_Drop.f
  refine Ev.bind (RFind_ev l key hl) ?_
  by_cases h:fthere l key=true
  · have hlt:=fthere_lt l key h
    have hn:fnext l key=fidx l key+1:=if_pos h
    simp only[h]
    have:=Ev.loop (σ:=fun i k=>copseref7_Drop.l0 k l (fidx l key:Int) true ((l.take (fidx l key)).take i++(l.drop (fidx l key+1)).take (i - (fidx l key+1))) (i:Int)) (r:=(dropv l key,true)) (n:=l.length) (fun i hi k=>by
      have hlen:((l.take (fidx l key)).take i++(l.drop (fidx l key+1)).take (i - (fidx l key+1))).length<4398046511104:=by
        rw[List.length_append,List.length_take,List.length_take,List.length_take,List.length_drop]
        omega
      simp only[copseref7_Drop.l0]
      rw[if_pos (by omega),if_pos trivial]
      by_cases e:i=fidx l key
      · rw[if_pos (by omega),w64 (by omega) (by omega),List.take_of_length_le (l:=l.take _) (by rw[List.length_take];omega),List.take_of_length_le (l:=l.take _) (i:=i+1) (by rw[List.length_take];omega),show i - (fidx l key+1)=i+1 - (fidx l key+1) by omega]
        rfl
      · rw[if_neg (by omega),if_pos (by omega),if_pos hlen,rdp l i hi,w64 (by omega) (by omega),show ([(⟨l[i].f0,l[i].f1⟩:S58)])=[l[i]] from rfl]
        by_cases c:i<fidx l key
        · have h0:i<(l.take (fidx l key)).length:=by rw[List.length_take];omega
          rw[show i - (fidx l key+1)=0 by omega,show i+1 - (fidx l key+1)=0 by omega,List.take_zero,List.append_nil,List.append_nil,←take_snoc (l.take (fidx l key)) i h0,List.getElem_take]
          rfl
        · have h0:i - (fidx l key+1)<(l.drop (fidx l key+1)).length:=by rw[List.length_drop];omega
          have h3:(l.drop (fidx l key+1))[i - (fidx l key+1)]=l[i]:=by
            rw[List.getElem_drop]
            congr 1
            omega
          rw[List.take_of_length_le (l:=l.take _) (by rw[List.length_take];omega),List.take_of_length_le (l:=l.take _) (i:=i+1) (by rw[List.length_take];omega),show i+1 - (fidx l key+1)=i - (fidx l key+1)+1 by omega,←take_snoc _ _ h0,h3,List.append_assoc]
          rfl) (Ev.done fun k=>by
      simp only[copseref7_Drop.l0]
      unfold dropv
      rw[if_neg (by omega),hn,List.take_of_length_le (l:=l.take _) (by rw[List.length_take];omega),List.take_of_length_le (l:=l.drop _) (by rw[List.length_drop];omega)]) 0 (by omega)
    simpa using this
  · have hn:fnext l key=fidx l key:=if_neg h
    rw[Bool.not_eq_true] at h
    have hd:dropv l key=l:=by unfold dropv;rw[hn,List.take_append_drop]
    rw[hd]
    simp only[h]
    have:=Ev.loop (σ:=fun i k=>copseref7_Drop.l0 k l (fidx l key:Int) false (l.take i) (i:Int)) (r:=(l,false)) (n:=l.length) (fun i hi k=>by
      have hlen:(l.take i).length<4398046511104:=by rw[List.length_take];omega
      simp only[copseref7_Drop.l0]
      rw[if_pos (by omega),if_neg (by simp),if_pos (by omega),if_pos hlen,rdp l i hi,w64 (by omega) (by omega),show ([(⟨l[i].f0,l[i].f1⟩:S58)])=[l[i]] from rfl,take_snoc l i hi]
      rfl) (Ev.done fun k=>by
      simp only[copseref7_Drop.l0]
      rw[if_neg (by omega),List.take_of_length_le (Nat.le_refl _)]) 0 (by omega)
    exact this

/-! every call is asked again, when the list is written over -/
def swp (p:S58):S58:=⟨p.f1,p.f0⟩
theorem enc_num (l:List S58):(encv l).1=(rencv l).1∧copsekit_Num.f (encv l).2=some (rencv l).2:=by
  unfold encv rencv
  by_cases hc:chk l true=none
  · rw[if_pos hc,if_pos hc]
    exact ⟨rfl,by simp[copsekit_Num.f]⟩
  · rw[if_neg hc,if_neg hc]
    exact ⟨rfl,chk_num l true⟩
theorem set_swap {α:Type} (a b:List α) (i:Nat) (x:α) (hi:i<b.length) (ha:a.length=i):(a++b.drop i).set i x=(a++[x])++b.drop (i+1):=by
  rw[List.drop_eq_getElem_cons hi,List.set_append_right _ _ (by omega),ha,Nat.sub_self,List.set_cons_zero,List.append_assoc]
  rfl
theorem stale_end (s:List S58) (l:List S58) (key val:ByteArray) (root:Bool) (hs:s.length*32≤140737488351232) (j:Int) (hj : ¬ j<(s.length:Int)):Ev (fun k=>copselaw7_stale.l0 k s s j l key val root) true:=by
  obtain⟨n1,n2,n3⟩:=lcut_num s
  obtain⟨e1,e2⟩:=enc_num s
  have hle:=fidx_le s key
  have hne:=fnext_le s key
  have b0:(setv s key val).length≤140737488351232:=by unfold setv;rw[List.length_append,List.length_append,List.length_take,List.length_drop,List.length_singleton];omega
  have b3:(dropv s key).length≤140737488351232:=by unfold dropv;rw[List.length_append,List.length_take,List.length_drop];omega
  have b1:(rlcut s).1.length≤140737488351232:=by unfold rlcut;split <;> simp <;> omega
  have b2:(rlcut s).2.1.length≤140737488351232:=by unfold rlcut;split <;> simp <;> omega
  refine Ev.step (fun k=>by simp only[copselaw7_stale.l0];rw[if_neg hj]) (Ev.bind (Encode_ev s hs) (Ev.bind (REncode_ev s hs) (Ev.bindc (Find_eq s key (by omega)) (Ev.bind (RFind_ev s key hs) (Ev.bindc (Drop_eq s key hs) (Ev.bind (RDrop_ev s key hs) (Ev.bind (LCut_ev s hs) (Ev.bind (RLCut_ev s hs) (Ev.bindc (Set_eq s key val hs) (Ev.bind (RSet_ev s key val hs) (Ev.bind (SamePairs_ev _ b0) (Ev.bind (SamePairs_ev _ b3) ?_))))))))))))
  rw[n2,n3]
  refine Ev.bind (SamePairs_ev _ b1) (Ev.bind (SamePairs_ev _ b2) (Ev.bind (Size_ev s hs) (Ev.bind (RSize_ev s hs) (Ev.congr (fun k=>if_pos rfl) (Ev.bind (Check_ev s root hs) (Ev.bindc (chk_num s root) (Ev.bind (RCheck_ev s root hs) (Ev.const fun k=>?_))))))))
  rw[e1,if_pos rfl,e2,Option.bind_some,if_pos rfl,if_pos rfl,if_pos (by simp),if_pos (by simp),n1,Option.bind_some,if_pos rfl,if_pos rfl,if_pos rfl,if_pos rfl,if_pos rfl]
  simp
theorem stale_ev (l:List S58) (key val:ByteArray) (root:Bool) (hl:l.length*32≤140737488351232):Ev (fun k=>copselaw7_stale.f k l key val root) true:=by
  have ht:(l++marksP).take l.length=l:=by rw[List.take_append_of_le_length (by omega),List.take_of_length_le (by omega)]
  obtain⟨sw,hsw⟩ : ∃ sw,sw=l.map swp:=⟨_,rfl⟩
  have hwl:sw.length=l.length:=by rw[hsw,List.length_map]
  have h0:=Ev.loop (σ:=fun i k=>copselaw7_stale.l0 k (sw.take i++l.drop i) (sw.take i) (i:Int) l key val root) (r:=true) (n:=l.length) (fun i hi k=>by
    have h1:(sw.take i).length=i:=by rw[List.length_take];omega
    have h2:(sw.take i++l.drop i).length=l.length:=by rw[List.length_append,h1,List.length_drop];omega
    have h3:(⟨(rd_T58 l (i:Int)).f1,(rd_T58 l (i:Int)).f0⟩:S58)=sw[i]'(by omega):=by
      rw[rdp l i hi]
      simp[hsw,swp]
    simp only[copselaw7_stale.l0]
    rw[if_pos (by omega),if_pos (by omega),if_pos (by omega),if_pos (by omega),h3,Int.toNat_natCast,set_swap _ _ _ _ hi h1,take_snoc sw i (by omega),w64 (by omega) (by omega)]
    rfl) (by
    rw[List.take_of_length_le (by omega),List.drop_of_length_le (by omega),List.append_nil]
    exact stale_end sw l key val root (by omega) _ (by omega)) 0 (by omega)
  rw[List.take_zero,List.drop_zero,List.nil_append] at h0
  unfold copselaw7_stale.f
  refine Ev.bind (pairs_ev l hl) ?_
  rw[ht]
  exact Ev.bind (Size_ev l hl) (Ev.bind (Check_ev l root hl) (Ev.bind (Encode_ev l hl) (Ev.bindc (Find_eq l key (by omega)) (Ev.bindc (Set_eq l key val hl) (Ev.bindc (Drop_eq l key hl) (Ev.bind (LCut_ev l hl) h0))))))
/-! the marks -/
theorem ev_all {α:Type} (g:Nat→Nat→Option α) (r:Nat→α) : ∀ n,(∀ i,i<n→Ev (fun k=>g k i) (r i))→∃ K,∀ k,K≤k→∀ i,i<n→g k i=some (r i)
  |0,_=>⟨0,fun _ _ _ h=>absurd h (Nat.not_lt_zero _)⟩
  |n+1,h=>by
    obtain⟨K1,h1⟩:=ev_all g r n (fun i hi=>h i (by omega))
    obtain⟨K2,h2⟩:=h n (by omega)
    refine ⟨max K1 K2,fun k hk i hi=>?_⟩
    by_cases e:i=n
    · subst e;exact h2 k (by omega)
    · exact h1 k (by omega) i (by omega)
def ownV (j:Nat):ByteArray×ByteArray:=((⟨#[111,119,110]⟩:ByteArray),strOfNums [97+(j:Int)])
theorem own_cut : ∀ d:Nat,d<11→(([97,98,99,100,101,102,103,104,105,106,107,108,109,110]:List Int).take (d+1)).drop d=[97+(d:Int)]:=by decide
theorem own_ev (j:Nat) (h:j<11):Ev (fun k=>copselaw7_own.f k (j:Int)) (ownV j):=by
  have hb:=Bytes_ev (⟨#[97,98,99,100,101,102,103,104,105,106,107,108,109,110]⟩:ByteArray) (by decide)
  refine Ev.bind hb (Ev.const fun k=>?_)
  have e:bytesOf (⟨#[97,98,99,100,101,102,103,104,105,106,107,108,109,110]⟩:ByteArray)=[97,98,99,100,101,102,103,104,105,106,107,108,109,110]:=by decide
  rw[e,w64 (by omega) (by omega),if_pos (by omega),if_pos (by omega),if_pos (by simp;omega),show ((j:Int)+1).toNat=j+1 by omega,Int.toNat_natCast,own_cut _ (by omega)]
  rfl
theorem lens_ev (l:List S58) (ts:List (List S58)) (hl:l.length*32≤140737488351232) (ht : ∀ s∈ts,s.length+64≤4398046511104):copselaw7_LeafNew.lensE l (l++marksP) ts:=by
  obtain⟨K1,h1⟩:=ev_all (fun k i=>copselaw7_own.f k (i:Int)) ownV 11 own_ev
  obtain⟨K2,h2⟩:=ev_all (fun k i=>copselaw7_mark.f k (i:Int)) (fun j=>((mk j).f0,(mk j).f1)) 64 mark_ev
  refine ⟨max K1 K2,fun i hi=>?_,by rw[List.length_append];omega,by rw[List.length_append,marksP_len];omega,fun q h3 h4=>?_,ht⟩
  · have h:=h1 (max K1 K2) (by omega) i hi
    unfold ownP
    rw[h]
  · rw[List.length_append,marksP_len] at h4
    obtain⟨j,rfl⟩ : ∃ j,q=l.length+j:=⟨q - l.length,by omega⟩
    have h:=h2 (max K1 K2) (by omega) j (by omega)
    have e:(((l.length+j:Nat):Int) - ((l.length:Nat):Int))=(j:Int):=by omega
    rw[e]
    unfold markP
    rw[h]
    refine ⟨rfl,?_⟩
    rw[List.getElem?_append_right (by omega),show l.length+j - l.length=j by omega,List.getElem?_eq_getElem (by rw[marksP_len];omega),marksP_at j (by omega)]
theorem pure_side : ∀ (l0_0:List S58) (a0_1:ByteArray) (a0_2:ByteArray) (a0_3:Bool),(l0_0.length*32≤140737488351232∧∀ z∈l0_0,(z.f0.size≤140737488351232∧z.f1.size≤140737488351232))→a0_1.size≤140737488351232→a0_2.size≤140737488351232→∃ k,copselaw7_LeafNew.f k l0_0 a0_1 a0_2 a0_3=some true:=by
  intro l key val root hl _ _
  refine Ev.rounds (g:=fun k=>copselaw7_LeafNew.f k l key val root) ?_
  have hl:=hl.1
  have hlen:(l++marksP).length=l.length+64:=by rw[List.length_append,marksP_len]
  have ht:(l++marksP).take ((l.length:Int):Int).toNat=l:=by rw[Int.toNat_natCast,List.take_append_of_le_length (by omega),List.take_of_length_le (by omega)]
  obtain⟨p1,p2,p3,p4⟩:=risv_props l 4072 (by decide)
  have hr:=rising_ev l 4072 hl (by decide) (by decide)
  obtain⟨r,hrd⟩ : ∃ r,r=risv l 4072:=⟨_,rfl⟩
  rw[←hrd] at p1 p2 p3 p4 hr
  clear hrd
  have hrl:r.length*32≤140737488351232:=by omega
  have hE:=Encode_ev r hrl
  have hle:=fidx_le l key
  have hne:=fnext_le l key
  have b0:(setv l key val).length≤l.length+1:=by unfold setv fnext;rw[List.length_append,List.length_append,List.length_take,List.length_drop,List.length_singleton];split <;> omega
  have b3:(dropv l key).length≤l.length:=by unfold dropv fnext;rw[List.length_append,List.length_take,List.length_drop];split <;> omega
  have b1:(lcut l).1.length≤l.length:=by unfold lcut;split <;> simp <;> omega
  have b2:(lcut l).2.1.length≤l.length:=by unfold lcut;split <;> simp <;> omega
  have hend : ∀ c d:List S58,c.length≤2036→d.length≤2036→Ev (fun k=>copselaw7_LeafNew.j1 k (l++marksP) (setv l key val) (dropv l key) (lcut l).1 (lcut l).2.1 (setv l key val) (dropv l key) (lcut l).1 (lcut l).2.1 c d l key val root) true:=fun c d hc hd=>by
    refine Ev.done fun k=>?_
    simp only[copselaw7_LeafNew.j1]
    rw[if_pos]
    refine lens_ev l _ hl fun s hs=>?_
    simp only[List.mem_cons,List.not_mem_nil,or_false] at hs
    rcases hs with rfl|rfl|rfl|rfl|rfl|rfl|rfl|rfl|rfl|rfl <;> omega
  have hdec : ∀ (n:Int) (B:ByteArray),(decv n B).1.length≤2036:=fun n B=>by
    rcases decv_cases n B with h|⟨m,h⟩
    · rw[h];simp
    · obtain⟨_,_,_,d4⟩:=decv_good n B m h
      rw[h];exact d4
  have h0:setv ([]:List S58) (⟨#[97]⟩:ByteArray) (⟨#[49]⟩:ByteArray)=[⟨(⟨#[97]⟩:ByteArray),(⟨#[49]⟩:ByteArray)⟩]:=rfl
  unfold copselaw7_LeafNew.f
  refine Ev.bind begun_ev (Ev.bindc (Set_eq ([]:List S58) (⟨#[97]⟩:ByteArray) (⟨#[49]⟩:ByteArray) (by simp)) ?_)
  rw[h0]
  refine Ev.congr (f:=fun k=>copselaw7_LeafNew.j0 k false l key val root) (fun k=>?_) ?_
  · have hA:(⟨#[97]⟩:ByteArray).toList=([97]:List UInt8):=by rw[ByteArray.toList_eq]
    have hB:((⟨#[49]⟩:ByteArray).toList != ([49]:List UInt8))=false:=by rw[ByteArray.toList_eq];rfl
    rw[if_pos rfl,if_pos (by rfl),if_pos (by decide),if_pos (show (rd_T58 [(⟨(⟨#[97]⟩:ByteArray),(⟨#[49]⟩:ByteArray)⟩:S58)] 0).f0.toList=([97]:List UInt8) from hA),show ((rd_T58 [(⟨(⟨#[97]⟩:ByteArray),(⟨#[49]⟩:ByteArray)⟩:S58)] 0).f1.toList != ([49]:List UInt8))=false from hB]
  refine Ev.step (fun k=>by simp only[copselaw7_LeafNew.j0];rw[if_neg (by simp)]) (Ev.bind (stale_ev l key val root hl) (Ev.congr (fun k=>if_pos rfl) (Ev.bind hr (Ev.bind hE (Ev.bind (pairs_ev l hl) (Ev.congr (fun k=>if_pos (Int.natCast_nonneg l.length)) (Ev.congr (fun k=>if_pos (show (l.length:Int)≤((l++marksP).length:Int) by omega)) ?_)))))))
  rw[ht]
  refine Ev.bindc (Set_eq l key val hl) (Ev.bindc (Drop_eq l key hl) (Ev.bind (LCut_ev l hl) (Ev.bindc (Set_eq l key val hl) (Ev.bindc (Drop_eq l key hl) (Ev.bind (LCut_ev l hl) ?_)))))
  by_cases c:(encv r).2.isNone=true
  · exact Ev.congr (fun k=>if_pos c) (Ev.bind hr (Ev.bind (Decode_ev _ _) (Ev.bind hr (Ev.bind (Decode_ev _ _) (hend _ _ (hdec _ _) (hdec _ _))))))
  · exact Ev.congr (fun k=>if_neg c) (hend _ _ (by simp) (by simp))
end Go.Proofs.YtdailhlghlledaaDoor.XLeafNew
