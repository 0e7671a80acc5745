/-
  Plain theory: packed sights, clashes.
-/
import Derived.Test.YtlhmeoeamcgcmaaGreatWJ
set_option linter.unusedSimpArgs false
set_option linter.unusedVariables false
namespace Go.AM
theorem cons_sub {y:Int} {s:List Int}:∀ {m:List Int},(y :: s).Sublist m ↔ ∃ q,q<m.length∧m.getD q 0=y∧s.Sublist (m.drop (q+1))
 | []=>by simp
 | z :: m=>by
  have ih:=cons_sub (y:=y) (s:=s) (m:=m)
  rw [List.sublist_cons_iff,ih]
  constructor
  ·rintro (⟨q,h1,h2,h3⟩|⟨r,h1,h2⟩)
   ·exact ⟨q+1,by simpa using h1,by simpa using h2,by simpa using h3⟩
   ·simp only [List.cons.injEq] at h1
    obtain ⟨rfl,rfl⟩:=h1
    exact ⟨0,by simp,by simp,by simpa using h2⟩
  ·rintro ⟨q,h1,h2,h3⟩
   cases q with
   | zero=>exact .inr ⟨s,by simp at h2;rw [h2],by simpa using h3⟩
   | succ q=>exact .inl ⟨q,by simpa using h1,by simpa using h2,by simpa using h3⟩
theorem lexC_mem {of:List Int}:∀ {d:Nat} {l:List Int} {a:Nat} {x:List Int},x ∈ lexC of d l a ↔ ∃ s,s.Sublist (of.drop a)∧s.length=d∧x=l++s
 | 0,l,a,x=>by
  rw [lexC,List.mem_singleton]
  constructor
  ·rintro rfl;exact ⟨[],List.nil_sublist _,rfl,by simp⟩
  ·rintro ⟨s,_,h,rfl⟩;rw [List.eq_nil_of_length_eq_zero h];simp
 | d+1,l,a,x=>by
  rw [lexC,List.mem_flatMap]
  constructor
  ·rintro ⟨q,hq,h⟩
   obtain ⟨s,h1,h2,h3⟩:=lexC_mem.1 h
   rw [List.mem_range] at hq
   refine ⟨of.getD (a+q) 0 :: s,cons_sub.2 ⟨q,by rw [List.length_drop];exact hq,?_,?_⟩,by simp [h2],by simp [h3]⟩
   ·rw [List.getD_eq_getElem?_getD,List.getElem?_drop,List.getD_eq_getElem?_getD]
   ·rw [List.drop_drop];rwa [show a+(q+1)=a+q+1 by omega]
  ·rintro ⟨s,h1,h2,rfl⟩
   cases s with
   | nil=>simp at h2
   | cons y s =>
    obtain ⟨q,q1,q2,q3⟩:=cons_sub.1 h1
    rw [List.length_drop] at q1
    rw [List.getD_eq_getElem?_getD,List.getElem?_drop,← List.getD_eq_getElem?_getD] at q2
    rw [List.drop_drop,show a+(q+1)=a+q+1 by omega] at q3
    refine ⟨q,List.mem_range.2 q1,lexC_mem.2 ⟨s,q3,by simpa using h2,by rw [q2];simp⟩⟩
theorem lexC_all {of x:List Int} {d:Nat}:x ∈ lexC of d [] 0 ↔ x.Sublist of∧x.length=d:=by
 rw [lexC_mem]
 simp only [List.drop_zero,List.nil_append]
 constructor
 ·rintro ⟨s,h1,h2,rfl⟩;exact ⟨h1,h2⟩
 ·rintro ⟨h1,h2⟩;exact ⟨x,h1,h2,rfl⟩
theorem visF_some {p:List Int→Bool}:∀ {xs:List (List Int)} {o:Option (List Int)},(visF p xs o).1=true→∃ x,(visF p xs o).2=some x∧x ∈ xs∧p x=true
 | [],o,h=>by simp [visF] at h
 | x :: xs,o,h=>by
  simp only [visF] at h ⊢
  by_cases c:p x=true
  ·rw [if_pos c];exact ⟨x,rfl,by simp,c⟩
  ·rw [if_neg c] at h ⊢
   obtain ⟨y,h1,h2,h3⟩:=visF_some h
   exact ⟨y,h1,List.mem_cons_of_mem _ h2,h3⟩
theorem visF_none {p:List Int→Bool}:∀ {xs:List (List Int)} {o:Option (List Int)},¬ (visF p xs o).1=true→∀ x ∈ xs,p x=false
 | [],o,h,x,hx=>by cases hx
 | y :: xs,o,h,x,hx=>by
  simp only [visF] at h
  by_cases c:p y=true
  ·rw [if_pos c] at h;exact absurd rfl h
  ·rw [if_neg c] at h
   rcases List.mem_cons.1 hx with rfl|hx
   ·simpa using c
   ·exact visF_none h x hx
theorem pckF_best {p:List Int→Bool} {of:List Int}:∀ {n:Nat} {o:Option (List Int)},(pckF p of n o=[] ∨ ((pckF p of n o).Sublist of∧p (pckF p of n o)=true))∧∀ s,s.Sublist of→p s=true→s.length≤n→s.length≤(pckF p of n o).length
 | 0,o=>⟨.inl rfl,fun s _ _ h=>by omega⟩
 | n+1,o=>by
  simp only [pckF]
  by_cases c:(visF p (lexC of (n+1) [] 0) o).1=true
  ·rw [if_pos c]
   obtain ⟨x,h1,h2,h3⟩:=visF_some c
   obtain ⟨h4,h5⟩:=lexC_all.1 h2
   rw [h1]
   exact ⟨.inr ⟨h4,h3⟩,fun s _ _ h=>by simp only [Option.getD_some];omega⟩
  ·rw [if_neg c]
   obtain ⟨a,b⟩:=pckF_best (p:=p) (of:=of) (n:=n) (o:=(visF p (lexC of (n+1) [] 0) o).2)
   refine ⟨a,fun s h1 h2 h3=>?_⟩
   by_cases e:s.length=n+1
   ·have:=visF_none c s (lexC_all.2 ⟨h1,e⟩)
    rw [h2] at this
    cases this
   ·exact b s h1 h2 (by omega)
theorem clsF_best {L:Lom}:∀ {k m:Nat} {o:Option (List Int)},(∃ s,s.Sublist (allI L)∧clsP L s=true∧m<s.length∧s.length≤m+k)→∃ x,clsF L k m o=some x∧x.Sublist (allI L)∧clsP L x=true∧∀ s,s.Sublist (allI L)→clsP L s=true→m<s.length→x.length≤s.length
 | 0,m,o,⟨s,_,_,h1,h2⟩=>by omega
 | k+1,m,o,⟨s,h1,h2,h3,h4⟩=>by
  simp only [clsF]
  by_cases c:(visF (clsP L) (lexC (upto L.ss.length) (m+1) [] 0) o).1=true
  ·rw [if_pos c]
   obtain ⟨x,q1,q2,q3⟩:=visF_some c
   obtain ⟨q4,q5⟩:=lexC_all.1 q2
   exact ⟨x,q1,q4,q3,fun s _ _ h=>by omega⟩
  ·rw [if_neg c]
   have hno:∀ s,s.Sublist (allI L)→clsP L s=true→s.length ≠ m+1:=fun s a b e=>by
    have:=visF_none c s (lexC_all.2 ⟨a,e⟩)
    rw [b] at this
    cases this
   obtain ⟨x,q1,q2,q3,q4⟩:=clsF_best (L:=L) (k:=k) (m:=m+1) (o:=(visF (clsP L) (lexC (upto L.ss.length) (m+1) [] 0) o).2) ⟨s,h1,h2,by have:=hno s h1 h2;omega,by omega⟩
   exact ⟨x,q1,q2,q3,fun s a b e=>q4 s a b (by have:=hno s a b;omega)⟩
theorem apart_len {L:Lom} {t:List Brk} (ht:XpA L t) {l:List Int} (hn:l.Nodup) (hl:∀ i ∈ l,i ∈ (deskA L).1) (hp:∀ a ∈ l,∀ b ∈ l,a=b ∨ aprT L a b):l.length≤t.length:=by
 refine pigeon (R:=fun i b=>tch L b (sgtI L i)) hn (fun i hi=>?_) fun a ha c hc b hb h1 h2=>?_
 ·have:=deskA_mem.1 (hl i hi)
  exact (ht.2 i (upto_mem.2 this.1)).2 this.2
 ·rcases hp a ha c hc with q|q
  ·exact q
  ·refine absurd ⟨h1,h2⟩ (q b (ht.1.2 b hb) fun i hi hbi htc=>?_)
   have:=(ht.2 i hi).1 ⟨b,hb,htc⟩
   rw [hbi] at this
   cases this
theorem pckP_iff {L:Lom} (hc:chkM L=0) {l:List Int} (hl:∀ i ∈ l,i ∈ (deskA L).1):pckP L l=true ↔ ∀ a ∈ l,∀ b ∈ l,a=b ∨ aprT L a b:=by
 unfold pckP
 rw [List.all_eq_true]
 refine forall_congr' fun a=>imp_congr_right fun ha=>?_
 rw [List.all_eq_true]
 refine forall_congr' fun b=>imp_congr_right fun hb=>?_
 obtain ⟨a1,a2⟩:=ixB_get (hl a ha)
 obtain ⟨b1,b2⟩:=ixB_get (hl b hb)
 rw [Bool.or_eq_true,decide_eq_true_eq,aprM_iff hc a1 b1,a2,b2]
theorem pckM_best {L:Lom} (hc:chkM L=0) {t:List Brk} (ht:XpA L t):(pckM L).2=0∧(pckM L).1.Sublist (deskA L).1∧(∀ a ∈ (pckM L).1,∀ b ∈ (pckM L).1,a=b ∨ aprT L a b) ∧
  ∀ s:List Int,s.Sublist (deskA L).1→(∀ a ∈ s,∀ b ∈ s,a=b ∨ aprT L a b)→s.length≤L.ps.length→s.length≤(pckM L).1.length:=by
 unfold pckM
 rw [tolE_val hc ht]
 obtain ⟨a,b⟩:=pckF_best (p:=pckP L) (of:=(deskA L).1) (n:=min (deskA L).1.length L.ps.length) (o:=none)
 refine ⟨rfl,?_,?_,?_⟩
 ·show (pckF _ _ _ _).Sublist _
  rcases a with a|a
  ·rw [a];exact List.nil_sublist _
  ·exact a.1
 ·show ∀ a ∈ pckF _ _ _ _,∀ b ∈ pckF _ _ _ _,_
  rcases a with a|a
  ·rw [a];intro x hx;cases hx
  ·exact (pckP_iff hc (fun i hi=>a.1.subset hi)).1 a.2
 ·intro s h1 h2 h3
  refine b s h1 ((pckP_iff hc (fun i hi=>h1.subset hi)).2 h2) ?_
  have:=h1.length_le
  omega
theorem clsP_iff {L:Lom} (hc:chkM L=0) {l:List Int} (hl:l.Sublist (allI L)):clsP L l=true ↔ ¬ ∃ t,Xp L l t:=by
 unfold clsP
 rw [decide_eq_true_eq,exp_none hc (fun i hi=>allI_ok i (hl.subset hi))]
 constructor
 ·rintro h ⟨t,ht⟩;obtain ⟨b,_,q⟩:=h t ht;simp [allF] at q
 ·intro h t ht;exact absurd ⟨t,ht⟩ h
theorem clsM_least {L:Lom} (hc:chkM L=0) (hn:¬ ∃ t,XpA L t):(clsM L).2=0∧(clsM L).1.Sublist (allI L)∧(¬ ∃ t,Xp L (clsM L).1 t)∧∀ s:List Int,s.Sublist (allI L)→s.length<(clsM L).1.length→∃ t,Xp L s t:=by
 have e0:=tolE_no hc hn (b:=false)
 have hnil:∃ t,Xp L [] t:=⟨[],⟨.nil,fun b hb=>by cases hb⟩,fun i hi=>by cases hi⟩
 have hne:L.ss.length ≠ 0:=fun h=>hn (by
  obtain ⟨t,ht⟩:=hnil
  have:allI L=[]:=List.eq_nil_of_length_eq_zero (by rw [upto_len,h])
  exact ⟨t,by unfold XpA;rw [this];exact ht⟩)
 obtain ⟨x,h1,h2,h3,h4⟩:=clsF_best (L:=L) (k:=L.ss.length) (m:=0) (o:=none) ⟨allI L,List.Sublist.refl _,(clsP_iff hc (List.Sublist.refl _)).2 hn,by rw [upto_len];omega,by rw [upto_len];omega⟩
 have e1:clsM L=(x,0):=by
  unfold clsM
  rw [if_neg (by rw [e0];simp),if_pos (by rw [e0];simp),h1]
  rfl
 rw [e1]
 refine ⟨rfl,h2,(clsP_iff hc h2).1 h3,fun s hs hl=>?_⟩
 refine Classical.byContradiction fun q=>?_
 by_cases e:s.length=0
 ·rw [List.eq_nil_of_length_eq_zero e] at q
  exact q hnil
 ·have:=h4 s hs ((clsP_iff hc hs).2 q) (by omega)
  have hl:s.length<x.length:=hl
  omega
theorem clsM_none {L:Lom} (hc:chkM L=0) {t:List Brk} (ht:XpA L t):clsM L=([],6):=by
 unfold clsM
 rw [if_pos]
 rw [tolE_val hc ht];rfl
end Go.AM
