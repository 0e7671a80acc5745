/-
  Plain: what each answer says of the truths.
-/
import Derived.Test.YtcemgempgbjbeaaGreatU18
import Derived.Test.YtcemgempgbjbeaaGreatU11
set_option linter.unusedSimpArgs false
set_option linter.unusedVariables false
namespace Go.AM
namespace F4
theorem xpA_desk {L:Lom} {t:List Brk}:XpA L t ↔ trD L (allI L) allF t∧orB L (deskA L).1 t=2 ^ (deskA L).1.length-1:=by
 have:=xp_desk (L:=L) (o:=allI L) (f:=allF) (t:=t) allI_ok
 unfold XpA deskA
 rw [this]
 simp [allF]
theorem expA_none {L:Lom} {f:Brk→Nat→Bool} (hc:chkM L=0):(expA L f).1=0 ↔ ∀ t,XpA L t→∃ b ∈ t,f b (bits L (deskA L).1 b)=false:=exp_none hc allI_ok
theorem expA_some {L:Lom} {f:Brk→Nat→Bool} (hc:chkM L=0) (h:(expA L f).1 ≠ 0):(XpA L (expA L f).2∧∀ b ∈ (expA L f).2,f b (bits L (deskA L).1 b)=true)∧∀ t,XpA L t→(∀ b ∈ t,f b (bits L (deskA L).1 b)=true)→(expA L f).2.length≤t.length:=by
 obtain ⟨ts,_,b,_,d⟩:=exp_truths (f:=f) hc (allI_ok (L:=L))
 obtain ⟨d1,d2⟩:=d h
 exact ⟨(b _).1 d1,fun t h1 h2=>d2 t ((b t).2 ⟨h1,h2⟩)⟩
theorem expA_all {L:Lom} (hc:chkM L=0):(expA L allF).1=0 ↔ ¬ ∃ t,XpA L t:=by
 rw [expA_none hc]
 constructor
 ·rintro h ⟨t,ht⟩;obtain ⟨b,_,q⟩:=h t ht;simp [allF] at q
 ·intro h t ht;exact absurd ⟨t,ht⟩ h
theorem tolE_val {L:Lom} (hc:chkM L=0) {t:List Brk} (ht:XpA L t) {b:Bool}:tolE L b=if b=true then 1 else 0:=by
 unfold tolE
 rw [if_neg (by simp [hc])]
 split
 ·rfl
 ·rw [if_neg fun h=>(expA_all hc).1 h ⟨t,ht⟩]
theorem tolE_no {L:Lom} (hc:chkM L=0) (hn:¬ ∃ t,XpA L t) {b:Bool}:tolE L b=if b=true then 1 else 7:=by
 unfold tolE
 rw [if_neg (by simp [hc])]
 split
 ·rfl
 ·rw [if_pos ((expA_all hc).2 hn)]
theorem fewM_truth {L:Lom} (hc:chkM L=0) {t:List Brk} (ht:XpA L t):(fewM L).2=0∧XpA L (fewM L).1∧∀ u,XpA L u→(fewM L).1.length≤u.length:=by
 have h0:(expA L allF).1 ≠ 0:=fun h=>(expA_all hc).1 h ⟨t,ht⟩
 obtain ⟨⟨a,_⟩,b⟩:=expA_some hc h0
 unfold fewM
 rw [tolE_val hc ht]
 exact ⟨rfl,a,fun u hu=>b u hu (fun _ _=>rfl)⟩
theorem mstM_mem {L:Lom} (hc:chkM L=0) {t:List Brk} (ht:XpA L t):(mstM L).2=0∧∀ k,k ∈ (mstM L).1 ↔ (0≤k∧k<(L.ps.length:Int))∧∀ t,XpA L t→∃ b ∈ t,b.1=k:=by
 unfold mstM
 rw [tolE_val hc ht]
 refine ⟨rfl,fun k=>?_⟩
 show k ∈ selN _ _ _ ↔ _
 rw [selN_mem]
 have key:∀ i:Nat,(decide ((expA L (mstF i)).1=0)=true ↔ ∀ t,XpA L t→∃ b ∈ t,b.1=(i:Int)):=fun i=>by
  rw [decide_eq_true_eq,expA_none hc]
  simp only [mstF,decide_eq_false_iff_not,Decidable.not_not]
 constructor
 ·rintro ⟨i,h1,h2,rfl⟩;exact ⟨by omega,(key i).1 h2⟩
 ·rintro ⟨h1,h2⟩;exact ⟨k.toNat,by omega,(key _).2 (by rw [show ((k.toNat:Nat):Int)=k by omega];exact h2),by omega⟩
def lst4 (t:List Brk) (k x:Int):Prop:=∃ b ∈ t,b.1=k∧b.2.1≤x∧x≤b.2.2
theorem prtB_iff {L:Lom} {k:Int}:prtB L k=false ↔ 0≤k∧k<(L.ps.length:Int):=by
 unfold prtB
 rw [Bool.not_eq_false',decide_eq_true_eq]
 constructor<;>rintro ⟨a,b⟩<;>exact ⟨a,by omega⟩
theorem sryM_mem {L:Lom} (hc:chkM L=0) {t:List Brk} (ht:XpA L t) {k:Int} (hk:0≤k∧k<(L.ps.length:Int)):(sryM L k).2=0∧∀ x,x ∈ (sryM L k).1 ↔ (0≤x∧x<L.T)∧∀ t,XpA L t→lst4 t k x:=by
 unfold sryM
 rw [prtB_iff.2 hk,tolE_val hc ht]
 refine ⟨rfl,fun x=>?_⟩
 show x ∈ selN _ _ _ ↔ _
 rw [selN_mem]
 have key:∀ y:Int,(decide ((expA L (sryF k y)).1=0)=true ↔ ∀ t,XpA L t→lst4 t k y):=fun y=>by
  rw [decide_eq_true_eq,expA_none hc]
  refine forall_congr' fun t=>imp_congr_right fun _=>?_
  unfold lst4
  refine exists_congr fun b=>and_congr_right fun _=>?_
  simp [sryF]
 have hT:=(chkM_ok hc).2.1
 constructor
 ·rintro ⟨i,h1,h2,rfl⟩;exact ⟨by omega,(key _).1 h2⟩
 ·rintro ⟨h1,h2⟩;exact ⟨x.toNat,by omega,(key _).2 (by rw [show ((x.toNat:Nat):Int)=x by omega];exact h2),by omega⟩
theorem or_ext {L:Lom} {bad:List Int} {t u:List Brk} {b:Brk} (h:∀ c,c ∈ t ↔ c=b ∨ c ∈ u):orB L bad t=orB L bad u ||| bits L bad b:=by
 refine Nat.eq_of_testBit_eq fun j=>?_
 rw [Nat.testBit_or,orB_test,orB_test,bits_test]
 cases decide (j<bad.length) with
 | false=>rfl
 | true =>
  rw [Bool.true_and,Bool.true_and,Bool.true_and,Bool.eq_iff_iff,Bool.or_eq_true,List.any_eq_true,List.any_eq_true]
  constructor
  ·rintro ⟨c,hc,q⟩
   rcases (h c).1 hc with rfl|hc
   ·exact .inr q
   ·exact .inl ⟨c,hc,q⟩
  ·rintro (⟨c,hc,q⟩|q)
   ·exact ⟨c,(h c).2 (.inr hc),q⟩
   ·exact ⟨b,(h b).2 (.inl rfl),q⟩
theorem one_part {t:List Brk} (h:t.Pairwise (fun a b=>a.1<b.1)) {a b:Brk} (ha:a ∈ t) (hb:b ∈ t) (e:a.1=b.1):a=b:=by
 obtain ⟨i,hi,rfl⟩:=List.getElem_of_mem ha
 obtain ⟨j,hj,rfl⟩:=List.getElem_of_mem hb
 rcases Nat.lt_trichotomy i j with q|q|q
 ·have:=List.pairwise_iff_getElem.1 h i j hi hj q;omega
 ·subst q;rfl
 ·have:=List.pairwise_iff_getElem.1 h j i hj hi q;omega
def layB (t:List Brk) (b:Brk):List Brk:=t.filter (fun c=>decide (c.1<b.1))++b :: t.filter (fun c=>decide (b.1<c.1))
theorem layB_mem {t:List Brk} {b:Brk} (h:∀ c ∈ t,c.1 ≠ b.1) {c:Brk}:c ∈ layB t b ↔ c=b ∨ c ∈ t:=by
 unfold layB
 rw [List.mem_append,List.mem_cons,List.mem_filter,List.mem_filter,decide_eq_true_eq,decide_eq_true_eq]
 constructor
 ·rintro (q|q|q)
  ·exact .inr q.1
  ·exact .inl q
  ·exact .inr q.1
 ·rintro (q|q)
  ·exact .inr (.inl q)
  ·have:=h c q
   by_cases e:c.1<b.1
   ·exact .inl ⟨q,e⟩
   ·exact .inr (.inr ⟨q,by omega⟩)
theorem layB_ok {L:Lom} {t:List Brk} {b:Brk} (ht:truOk L t) (hb:brkOk L b) (h:∀ c ∈ t,c.1 ≠ b.1):truOk L (layB t b):=by
 refine ⟨?_,fun c hc=>?_⟩
 ·unfold layB
  rw [List.pairwise_append,List.pairwise_cons]
  refine ⟨ht.1.filter _,⟨fun c hc=>by simpa using (List.mem_filter.1 hc).2,ht.1.filter _⟩,fun a ha c hc=>?_⟩
  have h1:=(List.mem_filter.1 ha).2
  rw [decide_eq_true_eq] at h1
  rcases List.mem_cons.1 hc with rfl|hc
  ·exact h1
  ·have h2:=(List.mem_filter.1 hc).2
   rw [decide_eq_true_eq] at h2
   omega
 ·rcases (layB_mem h).1 hc with rfl|hc
  ·exact hb
  ·exact ht.2 c hc
theorem markC_get {m:List Bool} {a j:Nat}:∀ {n:Nat},a+n≤m.length→((markC m a n).getD j false=true ↔ m.getD j false=true ∨ (a≤j∧j<a+n))
 | 0,_=>by simp only [markC];constructor;exact .inl;rintro (h|h);exact h;omega
 | n+1,h=>by
  have ih:=markC_get (m:=m) (a:=a) (j:=j) (n:=n) (by omega)
  rw [markC,getD_set' (by rw [markC_len];omega)]
  by_cases e:a+n=j
  ·rw [if_pos e];exact ⟨fun _=>.inr ⟨by omega,by omega⟩,fun _=>rfl⟩
  ·rw [if_neg e,ih]
   constructor
   ·rintro (q|q);exact .inl q;exact .inr ⟨q.1,by omega⟩
   ·rintro (q|q);exact .inl q;exact .inr ⟨q.1,by omega⟩
theorem setC_get {l:List Way} {b:Brk} {x:Nat} {m:List Bool} {j:Nat} (h:b.2.1.toNat+(b.2.2+1-b.2.1).toNat≤m.length):∀ {s:Nat},(setC l b x m s).getD j false=true ↔ m.getD j false=true ∨ ((∃ i,i<s∧0<(l.getD i wy0).1∧i ||| x=l.length-1)∧b.2.1.toNat≤j∧j<b.2.1.toNat+(b.2.2+1-b.2.1).toNat)
 | 0=>by simp [setC]
 | s+1=>by
  have ih:=setC_get (l:=l) (b:=b) (x:=x) (m:=m) (j:=j) h (s:=s)
  rw [setC]
  by_cases c:0<(l.getD s wy0).1∧s ||| x=l.length-1
  ·rw [if_pos c,markC_get (by rw [setC_len];exact h),ih]
   constructor
   ·rintro ((q|⟨⟨i,a,d⟩,q⟩)|q)
    ·exact .inl q
    ·exact .inr ⟨⟨i,by omega,d⟩,q⟩
    ·exact .inr ⟨⟨s,by omega,c⟩,q⟩
   ·rintro (q|⟨_,q⟩)
    ·exact .inl (.inl q)
    ·exact .inr q
  ·rw [if_neg c,ih]
   constructor
   ·rintro (q|⟨⟨i,a,d⟩,q⟩)
    ·exact .inl q
    ·exact .inr ⟨⟨i,by omega,d⟩,q⟩
   ·rintro (q|⟨⟨i,a,d⟩,q⟩)
    ·exact .inl q
    ·refine .inr ⟨⟨i,?_,d⟩,q⟩
     by_cases e:i=s
     ·subst e;exact absurd d c
     ·omega
theorem canJ_get {l:List Way} {mds:List (Brk × Nat)} {t:Nat} (h:∀ q ∈ mds,q.1.2.1.toNat+(q.1.2.2+1-q.1.2.1).toNat≤12):∀ {j:Nat},j≤mds.length→((canJ l mds j).getD t false=true ↔ ∃ q ∈ mds.take j,(∃ i,i<l.length∧0<(l.getD i wy0).1∧i ||| q.2=l.length-1)∧q.1.2.1.toNat≤t∧t<q.1.2.1.toNat+(q.1.2.2+1-q.1.2.1).toNat)
 | 0,_=>by
  rw [canJ]
  have e:(List.replicate 12 false).getD t false=false:=by rw [List.getD_eq_getElem?_getD,List.getElem?_replicate];split<;>rfl
  rw [e];simp
 | j+1,hj=>by
  have hg:=getD_some (d:=(brk0,0)) (show j<mds.length by omega)
  have hq:=h _ (List.mem_of_getElem? hg)
  rw [canJ,setC_get (by rw [canJ_len];exact hq),canJ_get h (j:=j) (by omega),List.take_add_one,hg]
  constructor
  ·rintro (⟨q,a,b⟩|b)
   ·exact ⟨q,List.mem_append_left _ a,b⟩
   ·exact ⟨_,List.mem_append_right _ (by simp),b⟩
  ·rintro ⟨q,a,b⟩
   rcases List.mem_append.1 a with a|a
   ·exact .inl ⟨q,a,b⟩
   ·simp only [Option.toList,List.mem_singleton] at a;subst a;exact .inr b
theorem numsN_mem {l:List Bool} {n:Nat} {x:Int}:x ∈ numsN l n ↔ (0≤x∧x<(n:Int))∧l.getD x.toNat false=true:=by
 unfold numsN;rw [List.mem_filter,upto_mem]
theorem way_pos {L:Lom} {f:Brk→Nat→Bool} (hc:chkM L=0) {S:Nat} (hS:S<2 ^ (deskA L).1.length):0<((wayA L (deskA L).1 (deskA L).2 f).getD S wy0).1 ↔ ∃ t,trD L (allI L) f t∧orB L (deskA L).1 t=S:=by
 obtain ⟨ts,_,b,c,_⟩:=way_truths (f:=f) hc (allI_ok (L:=L)) hS
 show 0<((wayA L (deskN L (allI L)).1 (deskN L (allI L)).2 f).getD S wy0).1 ↔ _
 rw [c,List.length_pos_iff_exists_mem]
 exact exists_congr fun t=>b t
theorem canA_get {L:Lom} (hc:chkM L=0) {k t:Nat} (hk:k<L.ps.length):(canA L k).getD t false=true ↔ ∃ u,XpA L u∧lst4 u (k:Int) (t:Int):=by
 have hT:=(chkM_ok hc).2.1
 have hb:∀ q ∈ made L (deskA L).1 (deskA L).2 k,q.1.1=(k:Int)∧brkOk L q.1∧clean L (allI L) q.1∧q.2=bits L (deskA L).1 q.1:=fun q hq=>by
  obtain ⟨b,hb,rfl⟩:=List.mem_map.1 hq
  have:=(brkL_clean hc (allI_ok (L:=L)) hk).1 hb
  exact ⟨this.1,this.2.1,this.2.2,rfl⟩
 have hl:(wayA L (deskA L).1 (deskA L).2 (mstF k)).length=2 ^ (deskA L).1.length:=wayN_len _
 unfold canA
 rw [canJ_get (fun q hq=>by obtain ⟨_,⟨_,_,c,d,e⟩,_⟩:=hb q hq;omega) (Nat.le_refl _),List.take_length,hl]
 constructor
 ·rintro ⟨q,hq,⟨S,hS,hp,hor⟩,h1,h2⟩
  obtain ⟨q1,q2,q3,q4⟩:=hb q hq
  obtain ⟨u,hu,rfl⟩:=(way_pos hc hS).1 hp
  have hne:∀ c ∈ u,c.1 ≠ q.1.1:=fun c hcu=>by
   have:=(hu.2 c hcu).2
   simp only [mstF,decide_eq_true_eq] at this
   rw [q1];exact this
  refine ⟨layB u q.1,xpA_desk.2 ⟨⟨layB_ok hu.1 q2 hne,fun c hcc=>?_⟩,?_⟩,q.1,(layB_mem hne).2 (.inl rfl),q1,?_,?_⟩
  ·rcases (layB_mem hne).1 hcc with rfl|hcc
   ·exact ⟨q3,rfl⟩
   ·exact ⟨(hu.2 c hcc).1,rfl⟩
  ·rw [or_ext (fun c=>layB_mem hne),← q4];exact hor
  ·obtain ⟨_,_,c,d,e⟩:=q2;omega
  ·obtain ⟨_,_,c,d,e⟩:=q2;omega
 ·rintro ⟨u,hu,b,hbu,b1,b2,b3⟩
  obtain ⟨⟨hu1,hu2⟩,hu3⟩:=xpA_desk.1 hu
  have hbo:=hu1.2 b hbu
  have hbl:b ∈ brkL k ((deskA L).2.getD k []) L.T.toNat:=(brkL_clean hc (allI_ok (L:=L)) hk).2 ⟨b1,hbo,(hu2 b hbu).1⟩
  refine ⟨(b,bits L (deskA L).1 b),List.mem_map.2 ⟨b,hbl,rfl⟩,⟨orB L (deskA L).1 (u.filter fun c=>decide (c.1 ≠ (k:Int))),orB_lt _,(way_pos hc (orB_lt _)).2 ⟨_,⟨⟨hu1.1.filter _,fun c hcc=>hu1.2 c (List.mem_filter.1 hcc).1⟩,fun c hcc=>?_⟩,rfl⟩,?_⟩,?_,?_⟩
  ·have:=List.mem_filter.1 hcc
   exact ⟨(hu2 c this.1).1,this.2⟩
  ·rw [← hu3]
   symm
   refine or_ext fun c=>?_
   rw [List.mem_filter,decide_eq_true_eq]
   constructor
   ·intro hcc
    by_cases e:c.1=(k:Int)
    ·exact .inl (one_part hu1.1 hcc hbu (by omega))
    ·exact .inr ⟨hcc,e⟩
   ·rintro (rfl|q)
    ·exact hbu
    ·exact q.1
  ·obtain ⟨_,_,c,d,e⟩:=hbo;simp only;omega
  ·obtain ⟨_,_,c,d,e⟩:=hbo;simp only;omega
theorem canM_mem {L:Lom} (hc:chkM L=0) {t:List Brk} (ht:XpA L t) {k:Int} (hk:0≤k∧k<(L.ps.length:Int)):(canM L k).2=0∧∀ x,x ∈ (canM L k).1 ↔ (0≤x∧x<L.T)∧∃ t,XpA L t∧lst4 t k x:=by
 have hT:=(chkM_ok hc).2.1
 unfold canM
 rw [prtB_iff.2 hk,tolE_val hc ht]
 refine ⟨rfl,fun x=>?_⟩
 show x ∈ numsN _ _ ↔ _
 rw [numsN_mem,show ((L.T.toNat:Nat):Int)=L.T by omega]
 refine and_congr_right fun hx=>?_
 rw [canA_get hc (by omega),show ((k.toNat:Nat):Int)=k by omega,show ((x.toNat:Nat):Int)=x by omega]
def wvT (L:Lom) (t:List Brk) (s:Sgt):Prop:=∃ b ∈ t,(prtOf L b).wv=true∧tch L b s
theorem ixB_get {L:Lom} {i:Int} (h:i ∈ (deskA L).1):ixB L i<(deskA L).1.length∧(deskA L).1.getD (ixB L i) 0=i:=by
 have h1:=List.idxOf_lt_length_of_mem h
 refine ⟨h1,?_⟩
 unfold ixB
 rw [getD_at h1]
 exact List.getElem_idxOf h1
def aprT (L:Lom) (a b:Int):Prop:=∀ x,brkOk L x→clean L (allI L) x→¬ (tch L x (sgtI L a)∧tch L x (sgtI L b))
theorem aprM_iff {L:Lom} (hc:chkM L=0) {i k:Nat} (hi:i<(deskA L).1.length) (hk:k<(deskA L).1.length):aprM L (deskA L).1 (deskA L).2 (2 ^ i ||| 2 ^ k)=true ↔ aprT L ((deskA L).1.getD i 0) ((deskA L).1.getD k 0):=by
 have hit2:∀ x,brkOk L x→(bits L (deskA L).1 x &&& (2 ^ i ||| 2 ^ k)=(2 ^ i ||| 2 ^ k) ↔ tch L x (sgtI L ((deskA L).1.getD i 0))∧tch L x (sgtI L ((deskA L).1.getD k 0))):=fun x hx=>by
  obtain ⟨_,_,h3,h4,_⟩:=hx
  rw [← hit_iff h3 (by omega),← hit_iff h3 (by omega)]
  have b1:=bits_test (L:=L) (bad:=(deskA L).1) (b:=x) (j:=i)
  have b2:=bits_test (L:=L) (bad:=(deskA L).1) (b:=x) (j:=k)
  rw [decide_eq_true hi,Bool.true_and] at b1
  rw [decide_eq_true hk,Bool.true_and] at b2
  rw [← b1,← b2]
  constructor
  ·intro h
   constructor
   ·have:=congrArg (fun n=>n.testBit i) h
    simp only [Nat.testBit_and,Nat.testBit_or,Nat.testBit_two_pow_self,Bool.true_or,Bool.and_true] at this
    exact this
   ·have:=congrArg (fun n=>n.testBit k) h
    simp only [Nat.testBit_and,Nat.testBit_or,Nat.testBit_two_pow_self,Bool.or_true,Bool.and_true] at this
    exact this
  ·rintro ⟨h1,h2⟩
   refine Nat.eq_of_testBit_eq fun j=>?_
   rw [Nat.testBit_and,Nat.testBit_or,Nat.testBit_two_pow,Nat.testBit_two_pow]
   by_cases e1:i=j
   ·subst e1;simp [h1]
   ·by_cases e2:k=j
    ·subst e2;simp [h2]
    ·simp [e1,e2]
 unfold aprM
 rw [List.all_eq_true]
 constructor
 ·intro h x hx hcl
  obtain ⟨k1,k2,k3,k4,k5⟩:=hx
  have hp:x.1.toNat<L.ps.length:=by omega
  have h1:=List.all_eq_true.1 (h x.1.toNat (List.mem_range.2 hp)) (x,bits L (deskA L).1 x) (List.mem_map.2 ⟨x,(brkL_clean hc (allI_ok (L:=L)) hp).2 ⟨by omega,⟨k1,k2,k3,k4,k5⟩,hcl⟩,rfl⟩)
  simp only [Bool.not_eq_true',decide_eq_false_iff_not] at h1
  exact fun q=>h1 ((hit2 x ⟨k1,k2,k3,k4,k5⟩).2 q)
 ·intro h p hp
  rw [List.all_eq_true]
  intro q hq
  obtain ⟨b,hb,rfl⟩:=List.mem_map.1 hq
  have h1:=(brkL_clean hc (allI_ok (L:=L)) (List.mem_range.1 hp)).1 hb
  simp only [Bool.not_eq_true',decide_eq_false_iff_not]
  exact fun q=>h b h1.2.1 h1.2.2 ((hit2 b h1.2.1).1 q)
theorem excM_mem {L:Lom} (hc:chkM L=0) {k:Int} (hk:0≤k∧k<(L.ps.length:Int)):(excM L k).2=0∧∀ x,x ∈ (excM L k).1 ↔ (0≤x∧x<L.T)∧∃ i ∈ allI L,exclI L k.toNat x.toNat i:=by
 obtain ⟨k1,k2,k3,k4,k5,k6⟩:=chkM_ok hc
 unfold excM
 rw [if_neg (by simp [hc]),if_neg (by omega)]
 refine ⟨rfl,fun x=>?_⟩
 rw [numsN_mem,show ((L.T.toNat:Nat):Int)=L.T by omega]
 refine and_congr_right fun hx=>?_
 exact deskN_get allI_ok (fun s hs=>by have:=k6 s hs;omega) (by omega)
theorem xplM_iff {L:Lom} (hc:chkM L=0) {t:List Brk}:xplM L t=true ↔ XpA L t:=by
 unfold xplM lftM
 rw [decide_eq_true_eq,if_neg (by simp [hc])]
 by_cases c:truM L t=0
 ·rw [if_neg (by simp [c])]
  exact ⟨fun h=>(xp_left (truM_iff.1 c)).1 h.2,fun h=>⟨rfl,(xp_left (truM_iff.1 c)).2 h⟩⟩
 ·rw [if_pos c]
  exact ⟨fun h=>absurd h.1 c,fun h=>absurd (truM_iff.2 h.1) c⟩
end F4
end Go.AM
namespace Go.AM
end Go.AM
namespace Go.AM
namespace F4
open Go.Proofs.Tryz
attribute [-go_sem] put_ne put_same
attribute [local go_sem ↓] put_if
def lexC (of:List Int):Nat→List Int→Nat→List (List Int)
 | 0,l,_=>[l]
 | d+1,l,a=>(List.range (of.length-a)).flatMap fun q=>lexC of d (l++[of.getD (a+q) 0]) (a+q+1)
def lexP (of:List Int) (d:Nat) (l:List Int) (a j:Nat):List (List Int):=(List.range j).flatMap fun q=>lexC of d (l++[of.getD (a+q) 0]) (a+q+1)
theorem lexP_succ {of l:List Int} {d a j:Nat}:lexP of d l a (j+1)=lexP of d l a j++lexC of d (l++[of.getD (a+j) 0]) (a+j+1):=by simp [lexP,List.range_succ]
theorem lexP_pre {of l:List Int} {d a j:Nat}:∀ k,∃ s,lexP of d l a (j+k)=lexP of d l a j++s
 | 0=>⟨[],by simp⟩
 | k+1=>by
  obtain ⟨s,e⟩:=lexP_pre (of:=of) (l:=l) (d:=d) (a:=a) (j:=j) k
  exact ⟨s++lexC of d (l++[of.getD (a+(j+k)) 0]) (a+(j+k)+1),by rw [show j+(k+1)=(j+k)+1 by omega,lexP_succ,e,List.append_assoc]⟩
def visF (p:List Int→Bool):List (List Int)→Option (List Int)→Bool × Option (List Int)
 | [],o=>(false,o)
 | x :: xs,_=>if p x=true then (true,some x) else visF p xs (some x)
theorem visF_app {p:List Int→Bool} {b:List (List Int)}:∀ {a:List (List Int)} {o:Option (List Int)},visF p (a++b) o=if (visF p a o).1=true then visF p a o else visF p b (visF p a o).2
 | [],o=>by simp [visF]
 | x :: a,o=>by
  simp only [List.cons_append,visF]
  split
  ·simp
  ·exact visF_app
section
variable {ob:Nat} {H H' H2:Heap}
end
def Back (base ob:Nat) (g:AVal) (of:List Int) (many:Nat) (p:List Int→Bool) (I:Option (List Int)→Heap→Prop):Prop :=
 ∀ H o sv l,base≤H.length→ob<H.length→I o H→Own encI 3 0 H sv l→Off [ob] sv→l.length=many→(∀ x ∈ l,x ∈ of)→∃ H',callL prog raw base g [sv] H=some (.bool (p l),H')∧KeepX ob H H'∧I (some l) H'
def moreV (M S O R:Nat):AVal:=.fn 181 [] [.ptr (some ⟨M,0,0⟩),.ptr (some ⟨S,0,0⟩),.ptr (some ⟨O,0,0⟩),.ptr (some ⟨R,0,0⟩)]
def MoreAt (H:Heap) (ob M S O R many:Nat) (g ofv:AVal):Prop:=(M ≠ ob∧S ≠ ob∧O ≠ ob∧R ≠ ob)∧H[M]?=some ⟨.cells [.int .i64 (many:Int)] 3 false false,0⟩∧H[S]?=some ⟨.cells [g] 210 false false,0⟩∧H[O]?=some ⟨.cells [ofv] 35 false false,0⟩∧H[R]?=some ⟨.cells [moreV M S O R] 111 false false,0⟩
theorem MoreAt.keep {H H':Heap} {ob M S O R many:Nat} {g ofv:AVal} (x:MoreAt H ob M S O R many g ofv) (k:KeepX ob H H'):MoreAt H' ob M S O R many g ofv:=by
 obtain ⟨⟨a,b,c,d⟩,x1,x2,x3,x4⟩:=x
 exact ⟨⟨a,b,c,d⟩,k.2 _ _ a x1,k.2 _ _ b x2,k.2 _ _ c x3,k.2 _ _ d x4⟩
theorem lt_of_slice {H:Heap} {r:ARef} {n k:Nat} {l:List Int} (x:Ints H (.slice (some r) n k) l):r.id<H.length:=by
 rcases x.2 with ⟨q,_⟩|⟨q,_⟩|⟨r',k',c,e,row,ro,q,h2,_⟩
 ·cases q
 ·cases q
 ·cases q;exact lt_of_get h2
theorem stE27 {base:Nat} {l:List Oper} {s:St} {Q:AExit→St→Prop}:WP prog raw base (.region 6 l.toArray true) s Q=WPS prog raw base (.region 6 l.toArray true) s Q:=WP_stop
attribute [local go_sem ↓ 3000] stE27
set_option maxHeartbeats 2000000 in
theorem run_more {base ob M S O R many:Nat} {g ofv:AVal} {of:List Int} {p:List Int→Bool} {I:Option (List Int)→Heap→Prop} (hg:One g) (hcb:Back base ob g of many p I) (hI:∀ o H H',Ext H H'→I o H→I o H') (hofl:of.length≤1000) (hofo:Off [ob] ofv) (hmany:many≤1000) :
  ∀ (d:Nat) {l:List Int} {a:Nat} {lv:AVal} {H:Heap} {o:Option (List Int)},l.length+d=many→base≤H.length→ob<H.length→Own encI 3 0 H lv l→Off [ob] lv→(∀ x ∈ l,x ∈ of)→a≤of.length→Ints H ofv of→I o H→MoreAt H ob M S O R many g ofv →
  Ret prog raw base (moreV M S O R) [lv,.int .i64 (a:Int)] H (fun v H'=>v=.bool (visF p (lexC of d l a) o).1∧KeepX ob H H'∧I (visF p (lexC of d l a) o).2 H'):=by
 intro d
 induction d with
 | zero =>
  intro l a lv H o hl hb hob hO hof hsub ha hOI hio hM
  obtain ⟨⟨n1,n2,n3,n4⟩,m1,m2,m3,m4⟩:=hM
  have hll:=own_len hO Fc.el35 (by omega)
  have t1:((l.length:Int)=(many:Int))=True:=eq_true (by omega)
  obtain ⟨H',e1,k1,i1⟩:=hcb H o lv l hb hob hio hO hof (by omega) hsub
  have r:visF p (lexC of 0 l a) o=(p l,some l):=by
   simp only [lexC,visF]
   cases p l<;>rfl
  rw [r]
  refine ret_raw func181 rfl (by kernel_rfl) ?_
  have hsp:=@Nat.succ_ne_zero;repeat' (first|simp (disch:=first|exact dq|fail) only [go_sem,↓reduceIte,hsp,hll,m1,t1,m2,e1]|refine WP_drw ?_|refine cnd_intro (fun hsp=>?_) fun hsp=>?_)
  exact ⟨k1,i1⟩
 | succ d ih =>
  intro l a lv H o hl hb hob hO hof hsub ha hOI hio hM
  have hM0:=hM
  obtain ⟨⟨n1,n2,n3,n4⟩,m1,m2,m3,m4⟩:=hM
  have hll:=own_len hO Fc.el35 (by omega)
  have t1:((l.length:Int)=(many:Int))=False:=eq_false (by omega)
  refine ret_raw func181 rfl (by kernel_rfl) ?_
  have hsp:=@Nat.succ_ne_zero;repeat' (first|simp (disch:=first|exact dq|fail) only [go_sem,↓reduceIte,hsp,hll,m1,t1]|refine WP_drw ?_|refine cnd_intro (fun hsp=>?_) fun hsp=>?_)
  refine WP_count [(8,35)] 0 (of.length-a) (Nat.zero_le _) (fun _ j fr h'=>fr 9=.int .i64 ((a+j:Nat):Int)∧KeepX ob H h'∧(visF p (lexP of d l a j) o).1=false∧I (visF p (lexP of d l a j) o).2 h') ?_ ?_ ?_
  ·exact ⟨by (simp (disch:=first|exact dq|fail) only [go_sem,↓reduceIte,Int.natCast_zero];first|done|rfl),.refl,rfl,hio⟩
  ·rintro j fr H1 hj0 hj hA ⟨r9,xK,hv,hi1⟩
   have p0:=hA 0 rfl
   have p4:=hA 4 rfl
   have p5:=hA 5 rfl
   try simp (disch:=first|exact dq|fail) only [go_sem,↓reduceIte] at p0 p4 p5
   have hM1:=hM0.keep xK
   obtain ⟨_,q1,q2,q3,q4⟩:=hM1
   have hlk:=xK.1
   have hOI1:=xK.ints hOI hofo
   have hO1:=xK.own hO hof
   have hlt:(((a+j:Nat):Int)<(of.length:Int))=True:=eq_true (by omega)
   have hsp:=@Nat.succ_ne_zero;repeat' (first|simp (disch:=first|exact dq|fail) only [go_sem,↓reduceIte,hsp,r9,p0,p4,p5,q3,hlt]|refine WP_drw ?_|refine cnd_intro (fun hsp=>?_) fun hsp=>?_)
   refine WPS_go ?_
   obtain ⟨x,ex⟩:∃ x,x=of.getD (a+j) 0:=⟨_,rfl⟩
   have hxm:x ∈ of:=by rw [ex];exact getD_mem (by omega)
   have hxb:=hOI.1.2 x hxm
   obtain ⟨r,rk,eofv⟩:∃ (r:ARef) (k:Nat),ofv=.slice (some r) of.length k:=by
    rcases hOI.2 with ⟨_,q⟩|⟨_,q⟩|⟨r,k,_,_,_,_,q,_⟩
    ·rw [q] at hj;simp at hj
    ·rw [q] at hj;simp at hj
    ·exact ⟨r,k,q⟩
   have hld:∀ {H':Heap},Ints H' ofv of→ldB (some (false,1)) H'[r.id]? r.ver (r.off+(a+j))=some (.int .i64 x):=fun {H'} y=>by
    have q:=loadI y (show a+j<of.length by omega)
    rw [eofv] at q
    simp only [elAddr,ARef.add] at q
    rw [load_eq,Fc.ty3] at q
    rw [q,ex]
   have had:indexAddrA prog 35 ofv (.int .i64 ((a+j:Nat):Int))=some (.ptr (some ⟨r.id,r.ver,r.off+(a+j)⟩)):=by
    have q:=adrI (i:=((a+j:Nat):Int)) (by omega) hOI1 (by omega)
    rw [q,eofv,Int.toNat_natCast]
    rfl
   have hsmall:Small l:=⟨by omega,fun y hy=>hOI.1.2 y (hsub y hy)⟩
   obtain ⟨cv,H2,e2,x2,o2⟩:=run_cloneI (base:=base) hO1 hsmall
   have hl2:=x2.len
   obtain ⟨v',H3,ea,oV,hle,hE,hV1⟩:=o2.append1 (y:=x) (base:=base) (t:=35) rfl rfl Fc.el35 encI_sc (by omega) hl2 (by omega)
   have x3:Ext H1 H3:=hE H1 (Nat.le_refl _) x2
   have hl3:=x3.len
   have k3:KeepX ob H1 H3:=.ofExt x3
   have hs2:∀ y ∈ l++[x],y ∈ of:=fun y hy=>by
    rcases List.mem_append.1 hy with q|q
    ·exact hsub y q
    ·simp at q;rw [q];exact hxm
   obtain ⟨rv,H4,e4,rfl,k4,i4⟩:=ih (l:=l++[x]) (a:=a+j+1) (lv:=v') (H:=H3) (o:=(visF p (lexP of d l a j) o).2) (by simp;omega) (by omega) (by omega) (oV.low (Nat.zero_le _)) (oV.off (fun i hi=>by simp at hi;omega)) hs2 (by omega) (hOI1.ext x3) (hI _ _ _ x3 hi1) ((hM0.keep xK).keep k3)
   have hjj:(((a+j:Nat):Int)+1)=((a+j+1:Nat):Int):=by omega
   have g42:=x2.get q4
   have g43:=x3.get q4
   have g32:=x2.get q3
   have hd1:=hld hOI1
   have hd2:=hld (hOI1.ext x2)
   have hlow1:refsLow H1.length (moreV M S O R):=by
    have a1:=lt_of_get q1
    have a2:=lt_of_get q2
    have a3:=lt_of_get q3
    have a4:=lt_of_get q4
    simp [refsLow,moreV,AVal.refs,refsL,a1,a2,a3,a4]
   have hlow2:refsLow H1.length ofv:=by rw [eofv];exact refsLow_slice (by have:=hOI1;rw [eofv] at this;exact lt_of_slice this)
   have hsp:=visF_app (p:=p) (a:=lexP of d l a j) (b:=lexC of d (l++[x]) (a+j+1)) (o:=o)
   rw [ex,← lexP_succ,← ex,if_neg (by simp [hv])] at hsp
   rw [← hsp] at e4 i4
   obtain ⟨res,eres⟩:∃ res,res=visF p (lexP of d l a (j+1)) o:=⟨_,rfl⟩
   rw [← eres] at e4 i4 ⊢
   refine WP_wild [⟨0,111,5,⟨R,0,0⟩,moreV M S O R,11⟩,⟨3,35,4,⟨O,0,0⟩,ofv,8⟩,⟨6,3,29,⟨r.id,r.ver,r.off+(a+j)⟩,.int .i64 x,8⟩] (by kernel_rfl) (by kernel_rfl) (by kernel_rfl) ⟨hlow1,hlow2,refsLow_int,trivial⟩ fun K hK=>?_
   iterate 12
    rw [TRS_cons]
    refine ⟨by first|(simp (disch:=first|exact dq|fail) only [go_sem,↓reduceIte,r9,p0,p4,p5,q4,q3,g42,g43,g32,hd1,hd2,had,e2,ea,hjj,e4,ldsQ_cons,ldsQ_nil,grdQ_cons,grdQ_nil,if_true,Nat.reduceLeDiff];done)|exact trivial,?_⟩
    simp (disch:=first|exact dq|fail) only [go_sem,↓reduceIte,r9,p0,p4,p5,q4,q3,g42,g43,g32,hd1,hd2,had,e2,ea,hjj,e4]
   rw [TRS_nil]
   refine ⟨by first|(simp (disch:=first|exact dq|fail) only [go_sem,↓reduceIte,r9,p0,p4,p5,q4,q3,g42,g43,g32,hd1,hd2,had,e2,ea,hjj,e4,ldsQ_cons,ldsQ_nil,grdQ_cons,grdQ_nil,if_true,Nat.reduceLeDiff];done)|exact trivial,?_⟩
   subst hK
   have hkf:KeepX ob H H4:=(xK.trans k3).trans k4
   cases hres:res.1 with
   | true =>
    have hwh:visF p (lexC of (d+1) l a) o=res:=by
     obtain ⟨s,e⟩:=lexP_pre (of:=of) (l:=l) (d:=d) (a:=a) (j:=j+1) (of.length-a-(j+1))
     rw [show j+1+(of.length-a-(j+1))=of.length-a by omega] at e
     show visF p (lexP of d l a (of.length-a)) o=res
     rw [e,visF_app,if_pos (by rw [← eres];exact hres),eres]
    have hsp:=@Nat.succ_ne_zero;repeat' (first|simp (disch:=first|exact dq|fail) only [go_sem,↓reduceIte,hsp,p0,p4,p5,hres]|refine WP_drw ?_|refine cnd_intro (fun hsp=>?_) fun hsp=>?_)
    rw [hwh]
    exact ⟨by rw [hres],hkf,i4⟩
   | false =>
    have hsp:=@Nat.succ_ne_zero;repeat' (first|simp (disch:=first|exact dq|fail) only [go_sem,↓reduceIte,hsp,r9,p0,p4,p5,hres]|refine WP_drw ?_|refine cnd_intro (fun hsp=>?_) fun hsp=>?_)
    exact ⟨agq,by first|rfl|omega,hkf,i4⟩
  ·rintro fr H1 hA ⟨r9,xK,hv,hi1⟩
   have p0:=hA 0 rfl
   have p4:=hA 4 rfl
   have p5:=hA 5 rfl
   try simp (disch:=first|exact dq|fail) only [go_sem,↓reduceIte] at p0 p4 p5
   have hM1:=hM0.keep xK
   obtain ⟨_,q1,q2,q3,q4⟩:=hM1
   have hOI1:=xK.ints hOI hofo
   have hlt:(((a+(of.length-a):Nat):Int)<(of.length:Int))=False:=eq_false (by omega)
   have hsp:=@Nat.succ_ne_zero;repeat' (first|simp (disch:=first|exact dq|fail) only [go_sem,↓reduceIte,hsp,r9,p0,p4,p5,q3,hlt]|refine WP_drw ?_|refine cnd_intro (fun hsp=>?_) fun hsp=>?_)
   refine ⟨?_,xK,hi1⟩
   show _=AVal.bool (visF p (lexP of d l a (of.length-a)) o).1
   rw [hv]
theorem run_lists {base ob many:Nat} {h:Heap} {g ofv:AVal} {of:List Int} {p:List Int→Bool} {I:Option (List Int)→Heap→Prop} {o:Option (List Int)} (hb:base≤h.length) (hob:ob<h.length) (hg:One g) (hcb:Back base ob g of many p I) (hI:∀ o H H',Ext H H'→I o H→I o H') (hofl:of.length≤1000) (hofo:Off [ob] ofv) (hmany:many≤1000) (hOI:Ints h ofv of) (hio:I o h) :
  Ret prog raw base (.fn 99 [] []) [ofv,.int .i64 (many:Int),g] h (fun v H'=>v=.bool (visF p (lexC of many [] 0) o).1∧KeepX ob h H'∧I (visF p (lexC of many [] 0) o).2 H'):=by
 obtain ⟨h2,eh2⟩:∃ h2:Heap,h2=h++[⟨.cells [ofv] 35 false false,0⟩]++[⟨.cells [.int .i64 (many:Int)] 3 false false,0⟩]++[⟨.cells [g] 210 false false,0⟩]++[⟨.cells [moreV (h.length+1) (h.length+1+1) h.length (h.length+1+1+1)] 111 false false,0⟩]:=⟨_,rfl⟩
 have xh:Ext h h2:=by rw [eh2];exact .app (.app (.app (.app .refl)))
 have hl2:=xh.len
 have hM:MoreAt h2 ob (h.length+1) (h.length+1+1) h.length (h.length+1+1+1) many g ofv:=by
  rw [eh2]
  exact ⟨⟨by omega,by omega,by omega,by omega⟩,get_app (get_app (get_eq (by simp))),get_app (get_eq (by simp)),get_app (get_app (get_app (get_eq rfl))),get_eq (by simp)⟩
 obtain ⟨v1,H1,e1,rfl,k1,i1⟩:=run_more hg hcb hI hofl hofo hmany many (l:=[]) (a:=0) (lv:=.slice none 0 0) (H:=h2) (o:=o) (by simp) (by omega) (by omega) Own.nil (fun r n c q=>by cases q) (fun x hx=>by cases hx) (Nat.zero_le _) (hOI.ext xh) (hI _ _ _ xh hio) hM
 rw [eh2,Int.natCast_zero] at e1
 unfold moreV at e1
 have hov:=hOI.one
 have hz:∀ {H:Heap},True:=fun {_}=>trivial
 refine ret_raw func99 rfl (by kernel_rfl) ?_
 have hsp:=@Nat.succ_ne_zero;repeat' (first|simp (disch:=first|exact dq|fail) only [go_sem,↓reduceIte,hsp,e1]|refine WP_drw ?_|refine cnd_intro (fun hsp=>?_) fun hsp=>?_)
 exact ⟨(KeepX.ofExt xh).trans k1,i1⟩
end F4
end Go.AM
namespace Go.AM
namespace F4
open Go.Proofs.Tryz
attribute [-go_sem] put_ne put_same
attribute [local go_sem ↓] put_if
def lomB (L:Lom) (pv sv:AVal):ABlk:=⟨.cells [.int .i64 L.R,.int .i64 L.T,pv,sv] 62 false false,0⟩
def outB (v:AVal):ABlk:=⟨.cells [v] 35 false false,0⟩
theorem chkM_le {L:Lom}:0≤chkM L∧chkM L≤4:=by
 unfold chkM
 repeat' split
 all_goals omega
def clsP (L:Lom) (l:List Int):Bool:=decide ((expM L (deskN L l).1 (deskN L l).2 allF).1=0)
def clsF (L:Lom):Nat→Nat→Option (List Int)→Option (List Int)
 | 0,_,o=>o
 | k+1,m,o=>if (visF (clsP L) (lexC (upto L.ss.length) (m+1) [] 0) o).1=true then (visF (clsP L) (lexC (upto L.ss.length) (m+1) [] 0) o).2 else clsF L k (m+1) (visF (clsP L) (lexC (upto L.ss.length) (m+1) [] 0) o).2
def clsM (L:Lom):List Int × Int:=if tolE L false=0 then ([],6) else if tolE L false=7 then ((clsF L L.ss.length 0 none).getD [],0) else ([],tolE L false)
def OutI (h0:Heap) (ob:Nat) (o:Option (List Int)) (H:Heap):Prop:=h0.length≤ob∧Ext h0 H∧∃ sv,H[ob]?=some (outB sv)∧Own encI 3 0 H sv (o.getD [])∧Off [ob] sv
theorem OutI.ext {h0 H H':Heap} {ob:Nat} {o:Option (List Int)} (x:OutI h0 ob o H) (e:Ext H H'):OutI h0 ob o H':=by
 obtain ⟨a,b,sv,c,d,f⟩:=x
 exact ⟨a,b.trans e,sv,e.get c,d.ext e,f⟩
theorem back_clash {base ob lb many:Nat} {h0:Heap} {L:Lom} {pv sv:AVal} (hlb:lb<h0.length) (hb:base≤h0.length) (hg:h0[lb]?=some (lomB L pv sv)) (hP:Parts h0 pv L.ps) (hS:Rows encS h0 sv L.ss) (hc:chkM L=0) (hok:LomOk L) (hm:many≤10) :
  Back base ob (.fn 106 [] [.ptr (some ⟨ob,0,0⟩),.ptr (some ⟨lb,0,0⟩)]) (upto L.ss.length) many (clsP L) (OutI h0 ob):=by
 rintro H o sl l hbH hobH ⟨hh,xh,sv0,go,_,_⟩ hO hof hlen hsub
 have hin:∀ i ∈ l,0≤i∧i<(L.ss.length:Int):=fun i hi=>upto_mem.1 (hsub i hi)
 have gl:=xh.get hg
 rw [lomB] at gl
 rw [outB] at go
 have hone:=hO.one
 have hne:lb ≠ ob:=by omega
 have xh2:Ext h0 (H.set ob (outB sl)):=xh.set hh
 have gl2:(H.set ob (outB sl))[lb]?=some (lomB L pv sv):=by rw [get_set_ne (fun e=>hne e.symm)];exact gl
 have hO2:Own encI 3 0 (H.set ob (outB sl)) sl l:=hO.setOff hof (by simp)
 have k4:=(chkM_ok hc).2.2.2.1
 have hsl:=hok.2.2.1
 obtain ⟨w1,H1,e1,x1,hD⟩:=run_worked' (base:=base) (h:=H.set ob (outB sl)) (ov:=sl) (o:=l) (by rw [List.length_set];exact hbH) (hP.ext xh2) (hS.ext xh2) ((hO2.rows (by omega)).ints (fun x hx=>by have:=hin x hx;omega)) hc (by omega) hin
 have hDL:=deskL_of hc hok (by omega) hin
 have hl1:=x1.len
 rw [List.length_set] at hl1
 have ha:=run_allF (base:=base) (h:=H1) (by omega)
 obtain ⟨w2,H2,e2,x2,z,rfl,hz,_⟩:=run_explained (base:=base) (h:=H1++[⟨.cells [.fn 176 [] []] 221 false false,0⟩]) (by simp;omega) (hD.ext (.app .refl)) hDL lets_all
 have xf:Ext (H.set ob (outB sl)) H2:=x1.trans ((Ext.app .refl).trans x2)
 have hend:KeepX ob H H2∧OutI h0 ob (some l) H2:=by
  refine ⟨((KeepX.refl (H:=H)).set).trans (.ofExt xf),hh,xh2.trans xf,sl,xf.get (by rw [List.getElem?_set_self hobH]),hO2.ext xf,hof⟩
 rw [outB] at e1
 have hob2:base≤ob:=by omega
 by_cases c2:(expM L (deskN L l).1 (deskN L l).2 allF).1=0
 ·have t2:(((expM L (deskN L l).1 (deskN L l).2 allF).1:Int)=0)=True:=eq_true (by omega)
  have r:clsP L l=true:=decide_eq_true c2
  rw [r]
  refine ⟨H2,callL_raw func106 rfl (by kernel_rfl) ?_,hend⟩
  rw [outB] at gl2
  rw [lomB] at gl2
  have hsp:=@Nat.succ_ne_zero;repeat' (first|simp (disch:=first|exact dq|fail) only [go_sem,↓reduceIte,hsp,go,gl2,e1,ha,e2,t2]|refine WP_drw ?_|refine cnd_intro (fun hsp=>?_) fun hsp=>?_)
 ·have t2:(((expM L (deskN L l).1 (deskN L l).2 allF).1:Int)=0)=False:=eq_false (by omega)
  have r:clsP L l=false:=decide_eq_false c2
  rw [r]
  refine ⟨H2,callL_raw func106 rfl (by kernel_rfl) ?_,hend⟩
  rw [outB] at gl2
  rw [lomB] at gl2
  have hsp:=@Nat.succ_ne_zero;repeat' (first|simp (disch:=first|exact dq|fail) only [go_sem,↓reduceIte,hsp,go,gl2,e1,ha,e2,t2]|refine WP_drw ?_|refine cnd_intro (fun hsp=>?_) fun hsp=>?_)
set_option maxHeartbeats 2000000 in
theorem run_clash {base:Nat} {h:Heap} {v:AVal} {L:Lom} (hb:base≤h.length) (hL:LomAt h v L) (hok:LomOk L) :
  Ret prog raw base (.fn 38 [] []) [v] h (fun w H=>Ext h H∧∃ x,w=.tuple [x,.int .i64 (clsM L).2]∧Own encI 3 0 H x (clsM L).1):=by
 obtain ⟨pv,sv,rfl,hP,hS⟩:=id hL
 have hp1:=hP.one
 have hs1:=hS.one
 obtain ⟨w1,H1,e1,x1,y,rfl,ho,hd⟩:=run_told (base:=base) (h:=h++[⟨.cells [.int .i64 L.R,.int .i64 L.T,pv,sv] 62 false false,0⟩]) (b:=false) (by simp;omega) (hL.ext (.app .refl)) hok
 have xh:=(Ext.app (t:=[⟨.cells [.int .i64 L.R,.int .i64 L.T,pv,sv] 62 false false,0⟩]) (Ext.refl (h:=h))).trans x1
 have g0:H1[h.length]?=some ⟨.cells [.int .i64 L.R,.int .i64 L.T,pv,sv] 62 false false,0⟩:=x1.get (by simp)
 have hH1l:=xh.len
 have lg0:=lt_of_get g0
 by_cases c1:tolE L false=0
 ·have t1:(tolE L false=0)=True:=eq_true c1
  have r:clsM L=([],6):=by unfold clsM;rw [if_pos c1]
  rw [r]
  refine ret_raw func38 rfl (by kernel_rfl) ?_
  have hsp:=@Nat.succ_ne_zero;repeat' (first|simp (disch:=first|exact dq|fail) only [go_sem,↓reduceIte,hsp,e1,t1]|refine WP_drw ?_|refine cnd_intro (fun hsp=>?_) fun hsp=>?_)
  exact ⟨xh,_,rfl,Own.nil⟩
 ·have t1:(tolE L false=0)=False:=eq_false c1
  by_cases c2:tolE L false=7
  ·rw [c2] at e1
   have hc:chkM L=0:=by
    unfold tolE at c2
    split at c2
    ·have:=chkM_le (L:=L);omega
    ·rename_i q;exact Classical.not_not.1 q
   have k4:=(chkM_ok hc).2.2.2.1
   have r:clsM L=((clsF L L.ss.length 0 none).getD [],0):=by unfold clsM;rw [if_neg c1,if_pos c2]
   rw [r]
   have hlS:∀ {a:ABlk},lenOpA prog (H1++[a]) 60 sv=some (.int .i64 (L.ss.length:Int)):=fun {a}=>(hS.ext (xh.trans (.app .refl))).len Fc.el60
   have t7:((7:Int)=0)=False:=eq_false (by omega)
   refine ret_raw func38 rfl (by kernel_rfl) ?_
   have hsp:=@Nat.succ_ne_zero;repeat' (first|simp (disch:=first|exact dq|fail) only [go_sem,↓reduceIte,hsp,e1,t7,eq_self,g0,hlS]|refine WP_drw ?_|refine cnd_intro (fun hsp=>?_) fun hsp=>?_)
   refine WP_count [(7,7),(22,31)] 0 L.ss.length (Nat.zero_le _) (fun _ i fr h'=>fr 22=.int .i64 (i:Int)∧∃ o,OutI H1 H1.length o h'∧clsF L L.ss.length 0 none=clsF L (L.ss.length-i) i o) ?_ ?_ ?_
   ·exact ⟨by (simp (disch:=first|exact dq|fail) only [go_sem,↓reduceIte,Int.natCast_zero];first|done|rfl),none,⟨Nat.le_refl _,.app .refl,.slice none 0 0,by simp [outB],Own.nil,fun r n c q=>by cases q⟩,rfl⟩
   ·rintro i fr H hi0 hi hA ⟨r22,o,hOI,hcf⟩
    have p1:=hA 1 rfl
    have p2:=hA 2 rfl
    have p3:=hA 3 rfl
    have p6:=hA 6 rfl
    have p21:=hA 21 rfl
    try simp (disch:=first|exact dq|fail) only [go_sem,↓reduceIte] at p1 p2 p3 p6 p21
    have hlt:((i:Int)<(L.ss.length:Int))=True:=eq_true (by omega)
    have xH:=hOI.2.1
    have hHl:=xH.len
    have hobl:H1.length<H.length:=by obtain ⟨_,_,s',q,_⟩:=hOI;exact lt_of_get q
    have g1:=xH.get g0
    obtain ⟨w2,H2,e2,x2,o2⟩:=run_whole (base:=base) (h:=H) (R:=L.R) (T:=L.T) (pv:=pv) (by omega) hp1 (hS.ext (xh.trans xH)) (by omega)
    have hul:=upto_len (n:=L.ss.length)
    have hl2:=x2.len
    have hbk:=back_clash (base:=base) (ob:=H1.length) (lb:=h.length) (many:=i+1) (h0:=H1) (by omega) (by omega) g0 (hP.ext xh) (hS.ext xh) hc hok (by omega)
    obtain ⟨v3,H3,e3,rfl,k3,i3⟩:=run_lists (base:=base) (h:=H2) (ofv:=w2) (o:=o) (by omega) (by omega) (⟨rfl,rfl,rfl⟩) hbk (fun o H H' e x=>x.ext e) (by omega) (o2.off (fun j hj=>by simp at hj;omega)) (by omega) ((o2.rows (by omega)).ints (fun x hx=>by have:=upto_mem.1 hx;omega)) (hOI.ext x2)
    have hii:((i:Int)+1)=((i+1:Nat):Int):=by omega
    have hst:clsF L (L.ss.length-i) i o=if (visF (clsP L) (lexC (upto L.ss.length) (i+1) [] 0) o).1=true then (visF (clsP L) (lexC (upto L.ss.length) (i+1) [] 0) o).2 else clsF L (L.ss.length-(i+1)) (i+1) (visF (clsP L) (lexC (upto L.ss.length) (i+1) [] 0) o).2:=by
     rw [show L.ss.length-i=(L.ss.length-(i+1))+1 by omega,clsF]
    obtain ⟨res,eres⟩:∃ res,res=visF (clsP L) (lexC (upto L.ss.length) (i+1) [] 0) o:=⟨_,rfl⟩
    rw [← eres] at e3 i3 hst
    cases hr:res.1 with
    | true =>
     rw [hr,if_pos rfl] at hst
     rw [hr] at e3
     obtain ⟨q1,q2,s',q3,q4,q5⟩:=i3
     rw [outB] at q3
     have hsp:=@Nat.succ_ne_zero;repeat' (first|simp (disch:=first|exact dq|fail) only [go_sem,↓reduceIte,hsp,r22,p1,p2,p3,p6,p21,hlt,g1,e2,hii,e3,q3]|refine WP_drw ?_|refine cnd_intro (fun hsp=>?_) fun hsp=>?_)
     refine ⟨xh.trans q2,s',rfl,?_⟩
     rw [hcf,hst]
     exact q4
    | false =>
     rw [hr,if_neg (by simp)] at hst
     rw [hr] at e3
     have hsp:=@Nat.succ_ne_zero;repeat' (first|simp (disch:=first|exact dq|fail) only [go_sem,↓reduceIte,hsp,r22,p1,p2,p3,p6,p21,hlt,g1,e2,hii,e3]|refine WP_drw ?_|refine cnd_intro (fun hsp=>?_) fun hsp=>?_)
     exact ⟨agq,res.2,i3,by rw [hcf,hst]⟩
   ·rintro fr H hA ⟨r22,o,hOI,hcf⟩
    have p1:=hA 1 rfl
    have p2:=hA 2 rfl
    have p3:=hA 3 rfl
    have p6:=hA 6 rfl
    have p21:=hA 21 rfl
    try simp (disch:=first|exact dq|fail) only [go_sem,↓reduceIte] at p1 p2 p3 p6 p21
    have hlt:((L.ss.length:Int)<(L.ss.length:Int))=False:=eq_false (by omega)
    obtain ⟨q1,q2,s',q3,q4,q5⟩:=hOI
    rw [outB] at q3
    have hsp:=@Nat.succ_ne_zero;repeat' (first|simp (disch:=first|exact dq|fail) only [go_sem,↓reduceIte,hsp,r22,p1,p2,p3,p6,p21,hlt,q3]|refine WP_drw ?_|refine cnd_intro (fun hsp=>?_) fun hsp=>?_)
    refine ⟨xh.trans q2,s',rfl,?_⟩
    rw [hcf,Nat.sub_self]
    exact q4
  ·have t2:(tolE L false=7)=False:=eq_false c2
   have r:clsM L=([],tolE L false):=by unfold clsM;rw [if_neg c1,if_neg c2]
   rw [r]
   refine ret_raw func38 rfl (by kernel_rfl) ?_
   have hsp:=@Nat.succ_ne_zero;repeat' (first|simp (disch:=first|exact dq|fail) only [go_sem,↓reduceIte,hsp,e1,t1,t2]|refine WP_drw ?_|refine cnd_intro (fun hsp=>?_) fun hsp=>?_)
   exact ⟨xh,_,rfl,Own.nil⟩
end F4
end Go.AM
namespace Go.AM
namespace F4
open Go.Proofs.Tryz
attribute [-go_sem] put_ne put_same
attribute [local go_sem ↓] put_if
theorem run_least {base:Nat} {h:Heap} {v:AVal} {l:List Int} {n:Int} (hI:Ints h v l):callL prog raw base (.fn 98 [] []) [.int .i64 n,v] h=some (.int .i64 (l.foldl min n),h):=by
 have hl:=hI.1.1
 refine callL_run func98 rfl rfl ?_
 have hsp:=@Nat.succ_ne_zero;repeat' (first|simp (disch:=first|exact dq|fail) only [go_sem,↓reduceIte,hsp]|refine WP_drw ?_|refine cnd_intro (fun hsp=>?_) fun hsp=>?_)
 refine WP_count [(0,0),(6,6),(9,16)] 0 l.length (Nat.zero_le _) (fun _ i fr h'=>fr 9=.int .i64 (i:Int)∧fr 0=.int .i64 ((l.take i).foldl min n)∧h'=h) ?_ ?_ ?_
 ·exact ⟨by (simp (disch:=first|exact dq|fail) only [go_sem,↓reduceIte,Int.natCast_zero];first|done|rfl),by simp (disch:=first|exact dq|fail) only [go_sem,↓reduceIte];rfl,rfl⟩
 ·rintro i fr H hi0 hi hA ⟨r9,r0,rfl⟩
  have p4:=hA 4 rfl
  have p7:=hA 7 rfl
  have p8:=hA 8 rfl
  try simp (disch:=first|exact dq|fail) only [go_sem,↓reduceIte] at p4 p7 p8
  have hlt:((i:Int)<(l.length:Int))=True:=eq_true (by omega)
  have hl0:=loadI hI hi
  have ha0:=adrI (i:=(i:Int)) (by omega) hI (by omega)
  rw [Int.toNat_natCast] at ha0
  have hsp:=@Nat.succ_ne_zero;repeat' (first|simp (disch:=first|exact dq|fail) only [go_sem,↓reduceIte,hsp,r9,r0,p4,p7,p8,hlt,ha0,hl0]|refine WP_drw ?_|refine cnd_intro (fun hsp=>?_) fun hsp=>?_)
  refine ⟨agq,by omega,?_⟩
  rw [List.take_add_one,getD_some (d:=0) hi,List.foldl_append]
  rfl
 ·rintro fr H hA ⟨r9,r0,rfl⟩
  have p4:=hA 4 rfl
  have p7:=hA 7 rfl
  have p8:=hA 8 rfl
  try simp (disch:=first|exact dq|fail) only [go_sem,↓reduceIte] at p4 p7 p8
  have hlt:((l.length:Int)<(l.length:Int))=False:=eq_false (by omega)
  rw [List.take_length] at r0
  have hsp:=@Nat.succ_ne_zero;repeat' (first|simp (disch:=first|exact dq|fail) only [go_sem,↓reduceIte,hsp,r9,r0,p4,p7,p8,hlt]|refine WP_drw ?_|refine cnd_intro (fun hsp=>?_) fun hsp=>?_)
  exact fI rfl
def matB (m:List Bool):ABlk:=⟨.cells (m.map .bool) 229 false false,0⟩
theorem matA {id:Nat} {a b:Int} (ha:0≤a∧a<10) (hb:0≤b∧b<10):indexAddrA prog 229 (.ptr (some ⟨id,0,0⟩)) (.int .i64 a)=some (.ptr (some ⟨id,0,a.toNat * 10⟩)) ∧
  indexAddrA prog 228 (.ptr (some ⟨id,0,a.toNat * 10⟩)) (.int .i64 b)=some (.ptr (some ⟨id,0,a.toNat * 10+b.toNat⟩)):=by
 constructor
 ·rw [adr_arr Fc.ar229 ha.1 (by omega),Nat.zero_add]
 ·rw [adr_arr Fc.ar228 hb.1 (by omega),Nat.mul_one]
theorem matL {m:List Bool} {i:Nat} (hm:m.length=100) (hi:i<100):ldB (some (false,1)) (some (matB m)) 0 i=some (.bool (m.getD i false)):=by
 unfold matB
 rw [ldB_cell,List.getElem?_map,getD_some (d:=false) (by omega)]
 rfl
theorem matS {m:List Bool} {base id i:Nat} {b:Bool} {K:ABlk→Heap} (hb:base≤id) (hm:m.length=100) (hi:i<100):stQ base id (some (matB m)) 0 i [.bool b] K=some (K (matB (m.set i b))):=by
 unfold matB
 rw [stQ_own hb (by simp only [List.length_map,List.length_cons,List.length_nil];omega) (by simp [AVal.scalar])]
 simp only [splice,List.map_set]
def mtB (m:List Bool) (a b:Int):Bool:=decide (a=b) || m.getD (a.toNat * 10+b.toNat) false
theorem run_pk3 {base aid mid:Nat} {H:Heap} {m:List Bool} {a b:Int} (ga:H[aid]?=some (intB a)) (gm:H[mid]?=some (matB m)) (hm:m.length=100) (ha:0≤a∧a<10) (hb:0≤b∧b<10) :
  callL prog raw base (.fn 103 [] [.ptr (some ⟨aid,0,0⟩),.ptr (some ⟨mid,0,0⟩)]) [.int .i64 b] H=some (.bool (mtB m a b),H):=by
 rw [intB] at ga
 have l1:=lt_of_get ga
 have l2:=lt_of_get gm
 obtain ⟨m1,m2⟩:=matA (id:=mid) ha hb
 have m3:=matL (i:=a.toNat * 10+b.toNat) hm (by omega)
 rw [← gm] at m3
 refine callL_run func103 rfl rfl ?_
 by_cases c:a=b
 ·have t1:(a=b)=True:=eq_true c
  have hsp:=@Nat.succ_ne_zero;repeat' (first|simp (disch:=first|exact dq|fail) only [go_sem,↓reduceIte,hsp,ga,t1]|refine WP_drw ?_|refine cnd_intro (fun hsp=>?_) fun hsp=>?_)
  refine fB ?_
  unfold mtB
  rw [decide_eq_true c];rfl
 ·have t1:(a=b)=False:=eq_false c
  have hsp:=@Nat.succ_ne_zero;repeat' (first|simp (disch:=first|exact dq|fail) only [go_sem,↓reduceIte,hsp,ga,t1,m1,m2,m3]|refine WP_drw ?_|refine cnd_intro (fun hsp=>?_) fun hsp=>?_)
  refine fB ?_
  unfold mtB
  rw [decide_eq_false c];rfl
theorem run_pk2 {base sid mid:Nat} {H:Heap} {sv:AVal} {m:List Bool} {l:List Int} {a:Int} (gs:H[sid]?=some (outB sv)) (hI:Ints H sv l) (gm:H[mid]?=some (matB m)) (hm:m.length=100) (ha:0≤a∧a<10) (hl:∀ b ∈ l,0≤b∧b<10) :
  callL prog raw base (.fn 102 [] [.ptr (some ⟨sid,0,0⟩),.ptr (some ⟨mid,0,0⟩)]) [.int .i64 a] H=some (.bool (l.all fun b=>mtB m a b),H):=by
 rw [outB] at gs
 have l1:=lt_of_get gs
 have hone:=hI.one
 have he:∀ {base:Nat},callL prog raw base (.fn 101 [] []) [sv,.fn 103 [] [.ptr (some ⟨H.length,0,0⟩),.ptr (some ⟨mid,0,0⟩)]] (H++[intB a])=some (.bool (l.all fun b=>mtB m a b),H++[intB a]):=fun {base}=>every_I _ hI.app (fun base T x hx=>run_pk3 (get_app (get_eq rfl)) (get_app (get_app gm)) hm ha (hl x hx)) ⟨rfl,rfl,rfl⟩
 rw [intB] at he
 refine callL_run func102 rfl rfl ?_
 have hsp:=@Nat.succ_ne_zero;repeat' (first|simp (disch:=first|exact dq|fail) only [go_sem,↓reduceIte,hsp,gs,he]|refine WP_drw ?_|refine cnd_intro (fun hsp=>?_) fun hsp=>?_)
 exact fB rfl
def mtP (m:List Bool) (l:List Int):Bool:=l.all fun a=>l.all fun b=>mtB m a b
theorem back_packed {base ob mid many:Nat} {h0:Heap} {m:List Bool} {of:List Int} (hmid:mid<h0.length) (hb:base≤h0.length) (hg:h0[mid]?=some (matB m)) (hm:m.length=100) (hof:∀ x ∈ of,0≤x∧x<10) (hmy:many≤10) :
  Back base ob (.fn 100 [] [.ptr (some ⟨ob,0,0⟩),.ptr (some ⟨mid,0,0⟩)]) of many (mtP m) (OutI h0 ob):=by
 rintro H o sl l hbH hobH ⟨hh,xh,sv0,go,_,_⟩ hO hoff hlen hsub
 have hin:∀ i ∈ l,0≤i∧i<10:=fun i hi=>hof i (hsub i hi)
 have gm:=xh.get hg
 rw [outB] at go
 have hone:=hO.one
 have hne:mid ≠ ob:=by omega
 obtain ⟨H2,eH2⟩:∃ H2:Heap,H2=H.set ob (outB sl)++[outB sl]:=⟨_,rfl⟩
 have hO2:Own encI 3 0 H2 sl l:=by rw [eH2];exact (hO.setOff hoff (by simp)).app
 have hI2:=(hO2.rows (by omega)).ints (fun x hx=>by have:=hin x hx;omega)
 have gm2:H2[mid]?=some (matB m):=by rw [eH2];exact get_app (by rw [get_set_ne (fun e=>hne e.symm)];exact gm)
 have gs2:H2[H.length]?=some (outB sl):=by rw [eH2];exact get_eq (by simp)
 have he:∀ {base:Nat},callL prog raw base (.fn 101 [] []) [sl,.fn 102 [] [.ptr (some ⟨H.length,0,0⟩),.ptr (some ⟨mid,0,0⟩)]] H2=some (.bool (mtP m l),H2):=fun {base}=>every_I _ hI2 (fun base T x hx=>run_pk2 (get_app gs2) hI2.app (get_app gm2) hm (hin x hx) hin) ⟨rfl,rfl,rfl⟩
 have hob2:base≤ob:=by omega
 have hend:KeepX ob H H2∧OutI h0 ob (some l) H2:=by
  refine ⟨by rw [eH2];exact ((KeepX.refl (H:=H)).set).trans (.ofExt (.app .refl)),hh,by rw [eH2];exact (xh.set hh).trans (.app .refl),sl,by rw [eH2];exact get_app (by rw [List.getElem?_set_self hobH]),hO2,hoff⟩
 refine ⟨H2,callL_raw func100 rfl (by kernel_rfl) ?_,hend⟩
 rw [eH2,outB] at he
 have hsp:=@Nat.succ_ne_zero;repeat' (first|simp (disch:=first|exact dq|fail) only [go_sem,↓reduceIte,hsp,go,he]|refine WP_drw ?_|refine cnd_intro (fun hsp=>?_) fun hsp=>?_)
 rw [eH2,outB]
theorem all_congr' {α:Type} {p q:α→Bool}:∀ {l:List α},(∀ x ∈ l,p x=q x)→l.all p=l.all q
 | [],_=>rfl
 | x :: l,h=>by rw [List.all_cons,List.all_cons,h x (by simp),all_congr' fun y hy=>h y (List.mem_cons_of_mem _ hy)]
def valP (L:Lom) (bad:List Int) (ms:List (List Bool)) (i k:Nat):Bool:=decide (i ≠ k) && aprM L bad ms (2 ^ i ||| 2 ^ k)
def pckP (L:Lom) (l:List Int):Bool:=l.all fun a=>l.all fun b=>decide (a=b) || aprM L (deskA L).1 (deskA L).2 (2 ^ ixB L a ||| 2 ^ ixB L b)
def pckF (p:List Int→Bool) (of:List Int):Nat→Option (List Int)→List Int
 | 0,_=>[]
 | m+1,o=>if (visF p (lexC of (m+1) [] 0) o).1=true then (visF p (lexC of (m+1) [] 0) o).2.getD [] else pckF p of m (visF p (lexC of (m+1) [] 0) o).2
def pckM (L:Lom):List Int × Int:=if tolE L false ≠ 0 then ([],tolE L false) else (pckF (pckP L) (deskA L).1 (min (deskA L).1.length L.ps.length) none,0)
theorem lexC_sub {of:List Int}:∀ {d:Nat} {l:List Int} {a:Nat} {x:List Int},x ∈ lexC of d l a→∀ y ∈ x,y ∈ l ∨ y ∈ of
 | 0,l,a,x,h,y,hy=>by simp [lexC] at h;subst h;exact .inl hy
 | d+1,l,a,x,h,y,hy=>by
  simp only [lexC,List.mem_flatMap,List.mem_range] at h
  obtain ⟨q,hq,hx⟩:=h
  rcases lexC_sub hx y hy with e|e
  ·rcases List.mem_append.1 e with e|e
   ·exact .inl e
   ·simp only [List.mem_singleton] at e;rw [e];exact .inr (getD_mem (by omega))
  ·exact .inr e
theorem visF_congr {p q:List Int→Bool}:∀ {a:List (List Int)} {o:Option (List Int)},(∀ x ∈ a,p x=q x)→visF p a o=visF q a o
 | [],o,_=>rfl
 | x :: a,o,h=>by
  simp only [visF]
  rw [h x (by simp),visF_congr (fun y hy=>h y (List.mem_cons_of_mem _ hy))]
theorem upto_nodup (n:Nat):(upto n).Nodup:=by
 unfold upto lst
 rw [List.Nodup,List.pairwise_map]
 exact List.nodup_range.imp fun h e=>h (Int.ofNat.inj e)
theorem deskA_nodup {L:Lom}:(deskA L).1.Nodup:=by rw [deskA_bad];exact (upto_nodup _).filter _
def MatOk (L:Lom) (bad:List Int) (ms:List (List Bool)) (i k:Nat) (m:List Bool):Prop:=m.length=100∧∀ i' k',i'<bad.length→k'<bad.length→(i'<i ∨ (i'=i∧k'<k))→m.getD ((bad.getD i' 0).toNat * 10+(bad.getD k' 0).toNat) false=valP L bad ms i' k'
theorem MatOk.next {L:Lom} {bad:List Int} {ms:List (List Bool)} {i k:Nat} {m:List Bool} (x:MatOk L bad ms i k m) (hn:bad.Nodup) (hb:∀ x ∈ bad,0≤x∧x<10) (hi:i<bad.length) (hk:k<bad.length) :
  MatOk L bad ms i (k+1) (m.set ((bad.getD i 0).toNat * 10+(bad.getD k 0).toNat) (valP L bad ms i k)):=by
 refine ⟨by rw [List.length_set];exact x.1,fun i' k' hi' hk' h=>?_⟩
 have b1:=hb _ (getD_mem hi)
 have b2:=hb _ (getD_mem hk)
 have b3:=hb _ (getD_mem hi')
 have b4:=hb _ (getD_mem hk')
 have inj:∀ u v,u<bad.length→v<bad.length→bad.getD u 0=bad.getD v 0→u=v:=fun u v hu hv e=>by
  rw [List.getD_eq_getElem?_getD,List.getD_eq_getElem?_getD,List.getElem?_eq_getElem hu,List.getElem?_eq_getElem hv] at e
  exact (List.getElem_inj hn).1 e
 rw [List.getD_eq_getElem?_getD,List.getElem?_set]
 by_cases e:(bad.getD i 0).toNat * 10+(bad.getD k 0).toNat=(bad.getD i' 0).toNat * 10+(bad.getD k' 0).toNat
 ·have e1:i=i':=inj _ _ hi hi' (by omega)
  have e2:k=k':=inj _ _ hk hk' (by omega)
  subst e1 e2
  rw [if_pos rfl,if_pos (by have:=x.1;omega)]
  rfl
 ·rw [if_neg e,← List.getD_eq_getElem?_getD]
  refine x.2 i' k' hi' hk' ?_
  rcases h with h|⟨h1,h2⟩
  ·exact .inl h
  ·refine .inr ⟨h1,?_⟩
   by_cases e2:k'=k
   ·subst h1 e2;exact absurd rfl e
   ·omega
theorem mtP_eq {L:Lom} {m:List Bool} (hm:MatOk L (deskA L).1 (deskA L).2 (deskA L).1.length 0 m) {l:List Int} (hl:∀ x ∈ l,x ∈ (deskA L).1):mtP m l=pckP L l:=by
 have key:∀ a ∈ l,∀ b ∈ l,mtB m a b=(decide (a=b) || aprM L (deskA L).1 (deskA L).2 (2 ^ ixB L a ||| 2 ^ ixB L b)):=by
  intro a ha b hb
  have h1:=List.idxOf_lt_length_of_mem (hl a ha)
  have h2:=List.idxOf_lt_length_of_mem (hl b hb)
  have g1:(deskA L).1.getD (ixB L a) 0=a:=by unfold ixB;rw [List.getD_eq_getElem?_getD,List.getElem?_eq_getElem h1];exact List.getElem_idxOf h1
  have g2:(deskA L).1.getD (ixB L b) 0=b:=by unfold ixB;rw [List.getD_eq_getElem?_getD,List.getElem?_eq_getElem h2];exact List.getElem_idxOf h2
  have q:=hm.2 (ixB L a) (ixB L b) h1 h2 (.inl h1)
  rw [g1,g2] at q
  unfold mtB
  rw [q]
  by_cases e:a=b
  ·rw [decide_eq_true e];rfl
  ·have hne:ixB L a ≠ ixB L b:=fun q=>e (by rw [← g1,← g2,q])
   rw [decide_eq_false e]
   unfold valP
   rw [decide_eq_true hne]
   rfl
 unfold mtP pckP
 exact all_congr' fun a ha=>all_congr' fun b hb=>key a ha b hb
end F4
end Go.AM
