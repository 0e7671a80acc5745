/-
  Plain: how many truths there are, the fewest breaks, sights that are apart, and the most of them: the program's answers are the reference's.
-/
import Derived.Test.YtlhmeoeamcgcmaaGreatE75
import Derived.Test.YtlhmeoeamcgcmaaGreatE72
set_option linter.unusedSimpArgs false
set_option linter.unusedVariables false
namespace Go.AM
open Go.Proofs.Tryz
theorem addB_nodup {k f t:Int} {rest:List (List Brk)} (h:rest.Nodup):(addB k f t rest).Nodup:=by
 unfold addB
 exact List.Pairwise.map _ (fun a b hab e=>hab (by simpa using e)) h
theorem toN_nodup {k:Int} {f:Nat} {rest:List (List Brk)} (h:rest.Nodup):∀ n,(toN k f rest n).Nodup
 | 0=>by simp [toN]
 | n+1=>by
  rw [toN,List.nodup_append]
  refine ⟨toN_nodup h n,addB_nodup h,fun a ha b hb e=>?_⟩
  subst e
  obtain ⟨j,hj,y,_,rfl⟩:=(toN_mem n).1 ha
  obtain ⟨z,_,e⟩:=List.mem_map.1 hb
  simp only [List.cons.injEq,Prod.mk.injEq] at e
  omega
theorem frN_nodup {k:Int} {T:Nat} {rest:List (List Brk)} (h:rest.Nodup):∀ n,(frN k T rest n).Nodup
 | 0=>by simp [frN]
 | n+1=>by
  rw [frN,List.nodup_append]
  refine ⟨frN_nodup h n,toN_nodup h _,fun a ha b hb e=>?_⟩
  subst e
  obtain ⟨f,j,hf,hj,y,_,rfl⟩:=(frN_mem n).1 ha
  obtain ⟨i,_,z,_,e⟩:=(toN_mem _).1 hb
  simp only [List.cons.injEq,Prod.mk.injEq] at e
  omega
theorem allR_nodup {T:Nat}:∀ (m k:Nat),(allR T k m).Nodup
 | 0,k=>by simp [allR]
 | m+1,k=>by
  rw [allR,List.nodup_append]
  refine ⟨allR_nodup m (k+1),frN_nodup (allR_nodup m (k+1)) T,fun a ha b hb e=>?_⟩
  subst e
  obtain ⟨f,j,_,_,y,_,rfl⟩:=(frN_mem T).1 hb
  have:=(((allR_mem m (k+1)).1 ha).2 _ (List.mem_cons_self ..)).1.1
  simp only at this
  omega
theorem nodup_len2 {α:Type} [DecidableEq α]:∀ {l m:List α},l.Nodup→(∀ x ∈ l,x ∈ m)→l.length≤m.length
 | [],m,_,_=>by simp
 | x :: l,m,h,hm=>by
  have h1:=List.nodup_cons.1 h
  have hx:=hm x (by simp)
  have:=nodup_len2 (m:=m.erase x) h1.2 fun y hy=>(List.mem_erase_of_ne (fun e=>h1.1 (by rw [← e];exact hy))).2 (hm y (by simp [hy]))
  rw [List.length_erase_of_mem hx] at this
  have:=List.length_pos_of_mem hx
  rw [List.length_cons];omega
theorem cntM_eq {L:Lom} (hc:chkM L=0):cntM L=(((trsR L).length:Int),0):=by
 obtain ⟨ts,h1,h2,h3⟩:=cntM_truths hc
 have hn:(trsR L).Nodup:=(allR_nodup _ _).filter _
 have a:=nodup_len2 hn fun x hx=>(h2 x).2 ((trsR_mem hc).1 hx)
 have b:=nodup_len2 h1 fun x hx=>(trsR_mem hc).2 ((h2 x).1 hx)
 rw [h3,show ts.length=(trsR L).length by omega]
theorem fewR_eq {L:Lom} (hc:chkM L=0) {t:List Brk} (ht:XpA L t):fewR (trsR L)=(fewM L).1.length:=by
 obtain ⟨_,h1,h2⟩:=fewM_truth hc ht
 have hm:=(trsR_mem hc).2 h1
 have hne:0<(trsR L).length:=List.length_pos_of_mem hm
 obtain ⟨a,b,c⟩:=foldl_min (ts:=trsR L) (n:=((trsR L).getD 0 []).length)
 have e1:fewR (trsR L)≤(fewM L).1.length:=a _ hm
 have e2:(fewM L).1.length≤fewR (trsR L):=by
  rcases c with c|⟨u,hu,c⟩
  ·rw [show fewR (trsR L)=_ from c];exact h2 _ ((trsR_mem hc).1 (getD_in hne))
  ·rw [show fewR (trsR L)=_ from c];exact h2 u ((trsR_mem hc).1 hu)
 omega
theorem sgtI_nat2 {L:Lom} {i:Nat}:sgtI L (i:Int)=L.ss.getD i sgt0:=by unfold sgtI;rw [Int.toNat_natCast]
theorem badI_nat2 {L:Lom} {i:Nat}:badI L (i:Int)=(L.ss.getD i sgt0).bad:=by unfold badI;rw [Int.toNat_natCast]
theorem cleB_iff {L:Lom} {x:Brk} (hx:brkOk L x):cleB L x=false ↔ clean L (allI L) x:=by
 unfold cleB clean
 rw [List.any_eq_false]
 constructor
 ·intro h i hi hb ht
  have hin:=upto_mem.1 hi
  have hs:sgtI L i ∈ L.ss:=getD_in (by omega)
  have:=h _ hs
  rw [show (sgtI L i).bad=false from hb,(splB_iff hx).2 ht] at this
  exact absurd rfl this
 ·intro h s hs
  obtain ⟨i,hi,rfl⟩:=List.getElem_of_mem hs
  have e:sgtI L (i:Int)=L.ss[i]:=by rw [sgtI_nat2,getD_at hi]
  intro q
  simp only [Bool.and_eq_true,Bool.not_eq_true'] at q
  refine h (i:Int) (upto_mem.2 ⟨by omega,by omega⟩) ?_ ?_
  ·rw [badI_nat2,getD_at hi];exact q.1
  ·rw [e];exact (splB_iff hx).1 q.2
theorem aprB_iff {L:Lom} {a b:Nat}:aprB L a b=true ↔ aprT L (a:Int) (b:Int):=by
 have key:∀ x,brkOk L x→(qB L a b x=false ↔ (clean L (allI L) x→¬ (tch L x (sgtI L (a:Int))∧tch L x (sgtI L (b:Int))))):=fun x hx=>by
  rw [← cleB_iff hx,← splB_iff hx,← splB_iff hx,sgtI_nat2,sgtI_nat2]
  unfold qB
  cases cleB L x<;>cases splB L x (L.ss.getD a sgt0)<;>cases splB L x (L.ss.getD b sgt0)<;>simp
 unfold aprT
 constructor
 ·intro h x hx
  refine (key x hx).1 ?_
  cases q:qB L a b x with
  | false=>rfl
  | true=>rw [aprB_false hx q] at h;cases h
 ·exact fun h=>aprB_true fun x hx=>(key x hx).2 (h x hx)
theorem apR_iff {L:Lom} {a b:Int} (ha:0≤a∧a<(L.ss.length:Int)) (hb:0≤b∧b<(L.ss.length:Int)):apR L a.toNat b.toNat=true ↔ (a ∈ (deskA L).1∧b ∈ (deskA L).1)∧(a=b ∨ aprT L a b):=by
 unfold apR
 rw [Bool.and_eq_true,Bool.and_eq_true,Bool.or_eq_true,decide_eq_true_eq,aprB_iff,deskA_mem,deskA_mem,Int.toNat_of_nonneg ha.1,Int.toNat_of_nonneg hb.1]
 refine and_congr ?_ ?_
 ·exact ⟨fun h=>⟨⟨ha,h.1⟩,⟨hb,h.2⟩⟩,fun h=>⟨h.1.2,h.2.2⟩⟩
 ·exact or_congr (by omega) Iff.rfl
theorem sub_filter {p:Int→Bool}:∀ {l m:List Int},l.Sublist m→(∀ x ∈ l,p x=true)→l.Sublist (m.filter p)
 | l,m,h,hp=>by
  have:=h.filter p
  rwa [List.filter_eq_self.2 hp] at this
theorem pkB_iff {L:Lom} {x:List Int} (hx:x.Sublist (upto L.ss.length)):pkB L x=true ↔ x.Sublist (deskA L).1∧∀ a ∈ x,∀ b ∈ x,a=b ∨ aprT L a b:=by
 have hin:∀ a ∈ x,0≤a∧a<(L.ss.length:Int):=fun a ha=>upto_mem.1 (hx.subset ha)
 unfold pkB
 rw [List.all_eq_true]
 constructor
 ·intro h
  have h2:∀ a ∈ x,∀ b ∈ x,(a ∈ (deskA L).1∧b ∈ (deskA L).1)∧(a=b ∨ aprT L a b):=fun a ha b hb=>(apR_iff (hin a ha) (hin b hb)).1 (List.all_eq_true.1 (h a ha) b hb)
  refine ⟨?_,fun a ha b hb=>(h2 a ha b hb).2⟩
  rw [deskA_bad]
  exact sub_filter hx fun a ha=>(deskA_mem.1 (h2 a ha a ha).1.1).2
 ·rintro ⟨h1,h2⟩ a ha
  rw [List.all_eq_true]
  exact fun b hb=>(apR_iff (hin a ha) (hin b hb)).2 ⟨⟨h1.subset ha,h1.subset hb⟩,h2 a ha b hb⟩
theorem pckR_eq {L:Lom} (hc:chkM L=0) {t:List Brk} (ht:XpA L t):pckR L (2 ^ L.ss.length-1)=(pckM L).1:=by
 obtain ⟨a1,a2,a3,a4⟩:=pckM_best hc ht
 have hdu:(deskA L).1.Sublist (upto L.ss.length):=by rw [deskA_bad];exact List.filter_sublist
 have htl:t.length≤L.ps.length:=by
  have:=rise_len (f:=fun b:Brk=>b.1) t (a:=0) (c:=(L.ps.length:Int)) ht.1.1 (fun b hb=>⟨(ht.1.2 b hb).1,(ht.1.2 b hb).2.1⟩) (by omega)
  omega
 have hple:∀ y:List Int,y.Sublist (deskA L).1→(∀ a ∈ y,∀ b ∈ y,a=b ∨ aprT L a b)→y.length≤L.ps.length:=fun y h1 h2=>by
  have:=apart_len ht ((deskA_sorted.sublist h1).imp (fun h=>by omega)) (fun i hi=>h1.subset hi) h2
  omega
 obtain ⟨h1,h2,h3⟩:=pickO_fold (better:=btG) btG_irr btG_trans (p:=pkB L) (xs:=setsR L.ss.length (2 ^ L.ss.length-1)) (b0:=some [])
 obtain ⟨y,e1,e2⟩:=h3 [] rfl
 have er:pckR L (2 ^ L.ss.length-1)=y:=by unfold pckR;rw [e1];rfl
 rw [er]
 have hy:y=[] ∨ (y ≠ []∧y.Sublist (deskA L).1∧∀ a ∈ y,∀ b ∈ y,a=b ∨ aprT L a b):=by
  rcases h2 y e1 with q|⟨q1,q2⟩
  ·exact .inl (Option.some.inj q).symm
  ·obtain ⟨s1,s2⟩:=setsR_all.1 q1
   exact .inr ⟨s2,(pkB_iff s1).1 q2⟩
 by_cases hM:(pckM L).1=[]
 ·rcases hy with hy|⟨hy0,hy1,hy2⟩
  ·rw [hy,hM]
  ·have:=a4 y hy1 hy2 (hple y hy1 hy2)
   rw [hM] at this
   exact absurd (List.eq_nil_of_length_eq_zero (by simpa using this)) hy0
 ·have hMs:=a2.trans hdu
  obtain ⟨z,e3,e4⟩:=h1 _ (setsR_all.2 ⟨hMs,hM⟩) ((pkB_iff hMs).2 ⟨a2,a3⟩)
  rw [e1] at e3
  cases e3
  have hpos:=List.length_pos_iff.2 hM
  unfold btG at e4
  simp only [Bool.or_eq_false_iff,decide_eq_false_iff_not,Bool.and_eq_false_iff] at e4
  rcases hy with rfl|⟨hy0,hy1,hy2⟩
  ·exact absurd hpos e4.1
  ·have hle:=a4 y hy1 hy2 (hple y hy1 hy2)
   have hl:y.length=(pckM L).1.length:=by omega
   have hM1:(pckM L).1=pckF (pckP L) (deskA L).1 (min (deskA L).1.length L.ps.length) none:=by
    unfold pckM;rw [tolE_val hc ht];rfl
   rcases pckF_lex (p:=pckP L) deskA_sorted (o:=none) hy1 ((pckP_iff hc (fun i hi=>hy1.subset hi)).2 hy2) (n:=min (deskA L).1.length L.ps.length) (by have:=hy1.length_le;have:=hple y hy1 hy2;omega) (by rw [hl,hM1]) with q|q
   ·rw [q,hM1]
   ·rw [← hM1] at q
    rcases e4.2 with q3|q3
    ·exact absurd hl.symm q3
    ·rw [q3] at q;cases q
theorem few_bad {L:Lom} (hc:chkM L ≠ 0) (a b:Int):fewM L=([],chkM L)∧pckM L=([],chkM L)∧cntM L=(0,chkM L)∧aptM L a b=(false,chkM L):=by
 refine ⟨?_,?_,?_,?_⟩
 ·unfold fewM;rw [tol_bad hc,if_pos hc]
 ·unfold pckM;rw [tol_bad hc,if_pos hc]
 ·unfold cntM;rw [if_pos hc]
 ·unfold aptM;rw [if_pos hc]
theorem few_none {L:Lom} (hc:chkM L=0) (hn:trsR L=[]):fewM L=([],7)∧pckM L=([],7):=by
 have e:=none_of hc hn
 constructor
 ·unfold fewM;rw [e];rfl
 ·unfold pckM;rw [e];rfl
theorem few_pck {L:Lom}:(pckM L).2=(fewM L).2:=by
 unfold pckM fewM
 split<;>rfl
theorem apt_out {L:Lom} (hc:chkM L=0) {a b:Int} (h:¬ ((0≤a∧a<(L.ss.length:Int))∧(0≤b∧b<(L.ss.length:Int)))):aptM L a b=(false,1):=by
 unfold aptM
 rw [if_neg (by simp [hc]),if_pos]
 rw [sgtB_iff,sgtB_iff];exact h
theorem apt_false {L:Lom} (hc:chkM L=0) {a b:Int} (h:(0≤a∧a<(L.ss.length:Int))∧(0≤b∧b<(L.ss.length:Int))) (h2:¬ (badI L a=true∧badI L b=true∧a ≠ b)):aptM L a b=(false,8):=by
 unfold aptM
 rw [if_neg (by simp [hc]),if_neg (by rw [sgtB_iff,sgtB_iff];exact fun q=>q h),if_pos h2]
theorem apt_is {L:Lom} (hc:chkM L=0) {a b:Nat} (h:a<L.ss.length∧b<L.ss.length) (h2:badI L (a:Int)=true∧badI L (b:Int)=true∧a ≠ b):aptM L (a:Int) (b:Int)=(aprB L a b,0):=by
 obtain ⟨e1,e2⟩:=aptM_iff hc (a:=(a:Int)) (b:=(b:Int)) ⟨by omega,h2.1⟩ ⟨by omega,h2.2.1⟩ (by omega)
 refine Prod.ext ?_ e1
 rw [Bool.eq_iff_iff,e2,aprB_iff]
end Go.AM
