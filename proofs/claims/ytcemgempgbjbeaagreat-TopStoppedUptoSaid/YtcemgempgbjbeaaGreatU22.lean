/-
  Plain law: the belts that surely slipped are the parts that must break; the proof with most weavers is the list of most sights that are apart; what is cleared is excluded.
-/
import Derived.Test.YtcemgempgbjbeaaGreatU21
set_option linter.unusedSimpArgs false
set_option linter.unusedVariables false
namespace Go.AM
namespace F4
def cmpF (l:List Int):List Int:=selN (fun i=>decide (i=0 ∨ l.getD i 0 ≠ l.getD (i-1) 0)) (fun i=>l.getD i 0) l.length
theorem cmpF_up {l:List Int} (hl:l.Pairwise (·≤·)):∀ n,n≤l.length→(selN (fun i=>decide (i=0 ∨ l.getD i 0 ≠ l.getD (i-1) 0)) (fun i=>l.getD i 0) n).Pairwise (·<·)
 | 0,_=>.nil
 | n+1,h=>by
  rw [selN,List.pairwise_append]
  refine ⟨cmpF_up hl n (by omega),by split<;>simp,fun a ha b hb=>?_⟩
  obtain ⟨i,h1,rfl⟩:=selN_at ha
  split at hb
  ·rename_i hp
   rw [List.mem_singleton.1 hb]
   have hp:=of_decide_eq_true hp
   have e1:l.getD n 0 ≠ l.getD (n-1) 0:=by omega
   have e2:l.getD i 0≤l.getD (n-1) 0:=by
    by_cases e:i=n-1
    ·rw [e];exact Int.le_refl _
    ·have:=List.pairwise_iff_getElem.1 hl i (n-1) (by omega) (by omega) (by omega)
     rwa [getD_at (by omega),getD_at (by omega)]
   have e3:l.getD (n-1) 0≤l.getD n 0:=by
    have:=List.pairwise_iff_getElem.1 hl (n-1) n (by omega) (by omega) (by omega)
    rwa [getD_at (by omega),getD_at (by omega)]
   omega
  ·cases hb
theorem cmpF_sorted {l:List Int} (hl:l.Pairwise (·≤·)):(cmpF l).Pairwise (·<·):=cmpF_up hl _ (Nat.le_refl _)
theorem cmpF_mem {l:List Int} {x:Int}:x ∈ cmpF l ↔ x ∈ l:=by
 unfold cmpF
 constructor
 ·intro h
  obtain ⟨i,hi,rfl⟩:=selN_at h
  exact getD_mem hi
 ·intro h
  obtain ⟨i,hi,rfl⟩:=mem_getD h
  have key:∀ i,i<l.length→l.getD i 0 ∈ selN (fun i=>decide (i=0 ∨ l.getD i 0 ≠ l.getD (i-1) 0)) (fun i=>l.getD i 0) l.length:=by
   intro i
   induction i with
   | zero=>intro hi;exact selN_mem.2 ⟨0,hi,by simp,rfl⟩
   | succ i ih =>
    intro hi
    by_cases e:l.getD (i+1) 0=l.getD i 0
    ·rw [e];exact ih (by omega)
    ·exact selN_mem.2 ⟨i+1,hi,by simp only [Nat.add_sub_cancel];exact decide_eq_true (.inr e),rfl⟩
  exact key i hi
theorem sub_sort {l m:List Int} (hl:l.Pairwise (·<·)) (hm:m.Pairwise (·<·)) (h:∀ x ∈ l,x ∈ m):l.Sublist m:=by
 have e:l=m.filter fun x=>decide (x ∈ l):=ext_rise hl (hm.filter _) fun x=>by
  rw [List.mem_filter,decide_eq_true_eq]
  exact ⟨fun q=>⟨h x q,q⟩,fun q=>q.2⟩
 rw [e]
 exact List.filter_sublist
theorem rise_len' {α:Type} {f:α→Int}:∀ (l:List α) {a c:Int},l.Pairwise (fun x y=>f x<f y)→(∀ x ∈ l,a≤f x∧f x<c)→a≤c→(l.length:Int)≤c-a
 | [],a,c,_,_,h=>by simp;omega
 | x :: l,a,c,hp,hm,h=>by
  have hx:=hm x (by simp)
  have hp:=List.pairwise_cons.1 hp
  have:=rise_len' l (a:=f x+1) (c:=c) hp.2 (fun y hy=>⟨by have:=hp.1 y hy;omega,(hm y (by simp [hy])).2⟩) (by omega)
  simp only [List.length_cons]
  omega
section
variable {P:Pwr} {S:List Int}
def surM (P:Pwr) (S:List Int):List Int:=cmpF (srtL (surN P S S.length))
theorem surN_mem (ok:POk P) {x:Int}:x ∈ surN P S S.length ↔ ∃ k,k<S.length∧S.getD k 0=2∧opnL P S k=[x]:=by
 unfold surN
 rw [selN_mem]
 refine exists_congr fun k=>?_
 rw [Bool.and_eq_true,decide_eq_true_eq,decide_eq_true_eq]
 constructor
 ·rintro ⟨a,⟨b,c⟩,d⟩
  obtain ⟨y,e⟩:=List.length_eq_one_iff.1 c
  rw [e] at d ⊢
  exact ⟨a,b,by rw [d];rfl⟩
 ·rintro ⟨a,b,c⟩
  rw [c]
  exact ⟨a,⟨b,rfl⟩,rfl⟩
theorem surM_mem (ok:POk P) {x:Int}:x ∈ surM P S ↔ ∃ k,k<S.length∧S.getD k 0=2∧opnL P S k=[x]:=by
 unfold surM
 rw [cmpF_mem,srtL_perm.mem_iff,surN_mem ok]
theorem sure_iff (ok:POk P) {l0:List Int} (h0:xplB P S l0=true) {s:Int}:(∀ l,xplB P S l=true→s ∈ l) ↔ ∃ k,k<S.length∧S.getD k 0=2∧opnL P S k=[s]:=by
 constructor
 ·intro h
  refine Classical.byContradiction fun hn=>?_
  have:=h _ (xpl_all ok (q:=fun x=>decide (x ≠ s)) fun k hk h2=>?_)
  ·have:=(List.mem_filter.1 this).2
   simp at this
  ·obtain ⟨x,_,hx⟩:=xpl_opn h0 hk h2
   by_cases e:x=s
   ·have hne:opnL P S k ≠ [s]:=fun q=>hn ⟨k,hk,h2,q⟩
    have hnd:=opnL_nodup (S:=S) ok (k:=k)
    cases c:opnL P S k with
    | nil=>rw [c] at hx;cases hx
    | cons y m =>
     rw [c] at hnd hx hne
     by_cases ey:y=s
     ·cases m with
      | nil=>rw [ey] at hne;exact absurd rfl hne
      | cons z m =>
       refine ⟨z,by simp,decide_eq_true fun q=>?_⟩
       have:=(List.nodup_cons.1 hnd).1
       rw [ey,q] at this
       simp at this
     ·exact ⟨y,by simp,decide_eq_true ey⟩
   ·exact ⟨x,hx,decide_eq_true e⟩
 ·rintro ⟨k,hk,h2,e⟩ l hl
  obtain ⟨x,hx,ho⟩:=xpl_opn hl hk h2
  rw [e,List.mem_singleton] at ho
  rw [← ho]
  exact hx
theorem mst_sorted {L:Lom}:(mstM L).1.Pairwise (·<·):=by
 unfold mstM
 split
 ·exact .nil
 ·exact selN_up fun i k h1 _=>by omega
theorem must_law (hM:MOkS P S) (hc:chkM (lomO P S)=0) {t:List Brk} (ht:XpA (lomO P S) t) :
  (mstM (lomO P S)).2=0∧(∀ p ∈ (mstM (lomO P S)).1,0≤p∧p<((shfO P).length:Int))∧(mstM (lomO P S)).1.map (fun p=>(shfO P).getD p.toNat 0)=surM P S:=by
 obtain ⟨m1,m2⟩:=mstM_mem hc ht
 have hin:∀ p ∈ (mstM (lomO P S)).1,0≤p∧p<((shfO P).length:Int):=fun p hp=>by
  have:=((m2 p).1 hp).1
  rwa [lom_ps] at this
 refine ⟨m1,hin,ext_rise ?_ (cmpF_sorted srtL_sorted) fun s=>?_⟩
 ·rw [List.pairwise_map]
  refine (List.Pairwise.and_mem.1 mst_sorted).imp ?_
  rintro a b ⟨ha,hb,q⟩
  have:=hin a ha
  have:=hin b hb
  exact sort_lt shfO_sorted (by omega) (by omega)
 ·have hx0:=(xpA_lom hM ht.1).1 ht
  show _ ↔ s ∈ surM P S
  rw [surM_mem hM.ok,← sure_iff hM.ok hx0,List.mem_map]
  constructor
  ·rintro ⟨p,hp,rfl⟩ l hl
   obtain ⟨b,hb,e⟩:=((m2 p).1 hp).2 _ ((xpA_bks hM).2 hl)
   obtain ⟨p',a,c,rfl⟩:=bks_mem.1 hb
   rw [← e]
   exact c
  ·intro h
   have h1:s ∈ shl P t:=h _ hx0
   obtain ⟨b,hb,e⟩:=List.mem_map.1 h1
   have hbk:=ht.1.2 b hb
   have hb1:=hbk.1
   have hb2:=hbk.2.1
   refine ⟨b.1,(m2 _).2 ⟨⟨hb1,hb2⟩,fun u hu=>?_⟩,e⟩
   have h2:s ∈ shl P u:=h _ ((xpA_lom hM hu.1).1 hu)
   obtain ⟨c,hcu,e2⟩:=List.mem_map.1 h2
   have hck:=hu.1.2 c hcu
   have hc1:=hck.1
   have hc2:=hck.2.1
   rw [lom_ps] at hb2 hc2
   have:=sort_inj (shfO_sorted (P:=P)) (i:=c.1.toNat) (k:=b.1.toNat) (by omega) (by omega) (by
    have:=e2.trans e.symm
    exact this)
   exact ⟨c,hcu,by omega⟩
theorem prfB_iff (ok:POk P) {l:List Int}:prfB P S l=true ↔ (∀ k ∈ l,S.getD k.toNat 0=2)∧l.Pairwise fun a b=>∀ x ∈ opnL P S a.toNat,∀ y ∈ opnL P S b.toNat,x ≠ y:=by
 unfold prfB prfL
 rw [Bool.and_eq_true,List.all_eq_true,decide_eq_true_eq]
 refine and_congr (forall_congr' fun k=>imp_congr_right fun _=>decide_eq_true_iff) ?_
 unfold List.Nodup
 rw [List.pairwise_flatMap]
 exact ⟨fun h=>h.2,fun h=>⟨fun a _=>opnL_nodup ok,h⟩⟩
theorem clean_lom (hM:MOkS P S) {b:Brk} (h:brkOk (lomO P S) b):clean (lomO P S) (allI (lomO P S)) b ↔ clrB P S (nthS P b)=false:=by
 constructor
 ·intro hc
  cases c:clrB P S (nthS P b) with
  | false=>rfl
  | true =>
   obtain ⟨k,hk,h1,hd⟩:=clrB_iff.1 c
   obtain ⟨i,hi,e⟩:=wvr_at hk (by omega)
   refine absurd ((tch_lom hM h hi).2 (by rw [e,Int.toNat_natCast];exact hd)) (hc i (upto_mem.2 (by rw [lom_ss];exact hi)) ?_)
   rw [bad_lom hi,e,Int.toNat_natCast]
   exact decide_eq_false (by omega)
 ·intro hc i hi hb ht
  have hi:=upto_mem.1 hi
  rw [lom_ss] at hi
  rw [bad_lom hi] at hb
  have hb:=of_decide_eq_false hb
  have hw:=wvrO_mem.1 (nthW_mem hi)
  have hk:(nthW S i).toNat<S.length:=by omega
  have hv:=s_val hM hk
  rw [clrB_iff.2 ⟨_,hk,by omega,(tch_lom hM h hi).1 ht⟩] at hc
  cases hc
theorem apr_lom (hM:MOkS P S) {a b:Int} (ha:0≤a∧a<((wvrO S).length:Int)) (hb:0≤b∧b<((wvrO S).length:Int)):aprT (lomO P S) a b ↔ ∀ x ∈ opnL P S (nthW S a).toNat,∀ y ∈ opnL P S (nthW S b).toNat,x ≠ y:=by
 constructor
 ·rintro h x hx y hy rfl
  obtain ⟨x1,x2⟩:=opnL_mem.1 hx
  obtain ⟨y1,_⟩:=opnL_mem.1 hy
  obtain ⟨i,hi,e⟩:=mem_getD ((shfO_mem hM.ok).2 ⟨_,x1⟩)
  have hk:brkOk (lomO P S) ((i:Int),0,0):=⟨by simp only;omega,by rw [lom_ps];simp only;omega,Int.le_refl _,Int.le_refl _,by show (0:Int)<1;omega⟩
  have en:nthS P ((i:Int),0,0)=x:=by unfold nthS;rw [Int.toNat_natCast];exact e
  exact h _ hk ((clean_lom hM hk).2 (by rw [en];exact x2)) ⟨(tch_lom hM hk ha).2 (by rw [en];exact x1),(tch_lom hM hk hb).2 (by rw [en];exact y1)⟩
 ·rintro h x hx hcl ⟨t1,t2⟩
  have hcl:=(clean_lom hM hx).1 hcl
  exact h _ (opnL_mem.2 ⟨(tch_lom hM hx ha).1 t1,hcl⟩) _ (opnL_mem.2 ⟨(tch_lom hM hx hb).1 t2,hcl⟩) rfl
theorem aprT_symm {L:Lom} {a b:Int} (h:aprT L a b):aprT L b a:=fun x hx hc q=>h x hx hc ⟨q.2,q.1⟩
theorem prvN_best:∀ n,((prvN P S n).Sublist (upto P.K.length)∧prfB P S (prvN P S n)=true)∧∀ z:List Int,z.Sublist (upto P.K.length)→prfB P S z=true→z.length<n→z.length<(prvN P S n).length ∨ (z.length=(prvN P S n).length∧(z=prvN P S n ∨ lexB (prvN P S n) z=true))
 | 0=>⟨⟨List.nil_sublist _,by simp [prvN,prfB,prfL]⟩,fun z _ _ h=>absurd h (Nat.not_lt_zero _)⟩
 | m+1=>by
  by_cases c:(fstP P.K.length (prvP P S m)).1=true
  ·have e:prvN P S (m+1)=(fstP P.K.length (prvP P S m)).2.getD []:=by rw [prvN,if_pos c]
   obtain ⟨a,b,d⟩:=fst_yes c
   rw [e]
   obtain ⟨x,ex⟩:∃ x,x=(fstP P.K.length (prvP P S m)).2.getD []:=⟨_,rfl⟩
   rw [← ex] at a b d ⊢
   unfold prvP at b
   rw [Bool.and_eq_true,decide_eq_true_eq] at b
   refine ⟨⟨a,b.2⟩,fun z z1 z2 z3=>?_⟩
   by_cases hz:z.length=m
   ·refine .inr ⟨by omega,?_⟩
    rcases d z z1 (by unfold prvP;rw [Bool.and_eq_true,decide_eq_true_eq];exact ⟨hz,z2⟩) with q|q
    ·exact .inl q
    ·unfold btL at q
     rw [Bool.or_eq_true,decide_eq_true_eq,Bool.and_eq_true,decide_eq_true_eq] at q
     rcases q with q|q
     ·omega
     ·exact .inr q.2
   ·exact .inl (by omega)
  ·have e:prvN P S (m+1)=prvN P S m:=by rw [prvN,if_neg c]
   rw [e]
   obtain ⟨a,b⟩:=prvN_best m
   refine ⟨a,fun z z1 z2 z3=>?_⟩
   by_cases hz:z.length=m
   ·have:=fst_no c z z1
    unfold prvP at this
    rw [z2,decide_eq_true hz] at this
    cases this
   ·exact b z z1 z2 (by omega)
theorem lexB_map {f:Int→Int} {q:Int→Prop} (hf:∀ x y,q x→q y→x<y→f x<f y):∀ {a b:List Int},(∀ x ∈ a,q x)→(∀ x ∈ b,q x)→lexB a b=true→lexB (a.map f) (b.map f)=true
 | [],_,_,_,h=>by simp [lexB] at h
 | _ :: _,[],_,_,h=>by simp [lexB] at h
 | x :: a,y :: b,ha,hb,h=>by
  simp only [lexB,List.map_cons] at h ⊢
  by_cases e:x=y
  ·rw [if_pos e] at h
   rw [if_pos (by rw [e])]
   exact lexB_map hf (fun z hz=>ha z (by simp [hz])) (fun z hz=>hb z (by simp [hz])) h
  ·rw [if_neg e,decide_eq_true_eq] at h
   have:=hf x y (ha x (by simp)) (hb y (by simp)) h
   rw [if_neg (by omega)]
   exact decide_eq_true this
theorem pack_law (hM:MOkS P S) (hc:chkM (lomO P S)=0) {t:List Brk} (ht:XpA (lomO P S) t) :
  (pckM (lomO P S)).2=0∧(∀ i ∈ (pckM (lomO P S)).1,0≤i∧i<((wvrO S).length:Int))∧(pckM (lomO P S)).1.map (nthW S)=prvN P S (P.K.length+1):=by
 obtain ⟨a1,a2,a3,a4⟩:=pckM_best hc ht
 have hq:(pckM (lomO P S)).1=pckF (pckP (lomO P S)) (deskA (lomO P S)).1 (min (deskA (lomO P S)).1.length (lomO P S).ps.length) none:=by
  unfold pckM
  rw [tolE_val hc ht]
  rfl
 have hdr:∀ i ∈ (deskA (lomO P S)).1,(0≤i∧i<((wvrO S).length:Int))∧S.getD (nthW S i).toNat 0=2:=fun i hi=>by
  obtain ⟨b1,b2⟩:=deskA_mem.1 hi
  rw [lom_ss] at b1
  rw [bad_lom b1] at b2
  exact ⟨b1,of_decide_eq_true b2⟩
 have hmono:∀ x y:Int,(0≤x∧x<((wvrO S).length:Int))→(0≤y∧y<((wvrO S).length:Int))→x<y→nthW S x<nthW S y:=fun x y hx hy h=>sort_lt wvrO_sorted (by omega) (by omega)
 have hwb:∀ i:Int,(0≤i∧i<((wvrO S).length:Int))→0≤nthW S i∧nthW S i<(P.K.length:Int):=fun i hi=>by
  have:=(wvrO_mem.1 (nthW_mem hi)).1
  have:=hM.len
  omega
 -- lists of sights,and what they are of weavers
 have hmap:∀ q:List Int,q.Sublist (deskA (lomO P S)).1→(∀ a ∈ q,∀ b ∈ q,a=b ∨ aprT (lomO P S) a b)→(q.map (nthW S)).Sublist (upto P.K.length)∧prfB P S (q.map (nthW S))=true:=fun q hs hp=>by
  have hqs:=(deskA_sorted (L:=lomO P S)).sublist hs
  have hr:∀ i ∈ q,(0≤i∧i<((wvrO S).length:Int))∧S.getD (nthW S i).toNat 0=2:=fun i hi=>hdr i (hs.subset hi)
  refine ⟨sub_upto ?_ fun x hx=>?_,(prfB_iff hM.ok).2 ⟨fun k hk=>?_,?_⟩⟩
  ·rw [List.pairwise_map]
   refine (List.Pairwise.and_mem.1 hqs).imp ?_
   rintro a b ⟨ha,hb,h⟩
   exact hmono a b (hr a ha).1 (hr b hb).1 h
  ·obtain ⟨i,hi,rfl⟩:=List.mem_map.1 hx
   exact hwb i (hr i hi).1
  ·obtain ⟨i,hi,rfl⟩:=List.mem_map.1 hk
   exact (hr i hi).2
  ·rw [List.pairwise_map]
   refine (List.Pairwise.and_mem.1 hqs).imp ?_
   rintro a b ⟨ha,hb,h⟩
   rcases hp a ha b hb with e|e
   ·omega
   ·exact (apr_lom hM (hr a ha).1 (hr b hb).1).1 e
 obtain ⟨y1,y2⟩:=hmap _ a2 a3
 obtain ⟨⟨z1,z2⟩,z3⟩:=prvN_best (P:=P) (S:=S) (P.K.length+1)
 obtain ⟨y,ey⟩:∃ y,y=prvN P S (P.K.length+1):=⟨_,rfl⟩
 obtain ⟨q,eq⟩:∃ q,q=(pckM (lomO P S)).1:=⟨_,rfl⟩
 rw [← ey] at z1 z2 z3 ⊢
 rw [← eq] at a2 a3 a4 y1 y2 hq ⊢
 have hyl:=y1.length_le
 rw [upto_len] at hyl
 have hz:=z3 _ y1 y2 (by omega)
 rw [List.length_map] at hz
 -- the best proof as a list of sights
 obtain ⟨p1,p2⟩:=(prfB_iff hM.ok).1 z2
 have hys:=(upto_sorted P.K.length).sublist z1
 have hyw:∀ k ∈ y,k ∈ wvrO S:=fun k hk=>by
  have:=upto_mem.1 (z1.subset hk)
  have hl:=hM.len
  exact wvrO_mem.2 ⟨by omega,by have:=p1 k hk;omega⟩
 obtain ⟨s,es⟩:∃ s,s=(upto (wvrO S).length).filter fun i=>decide (nthW S i ∈ y):=⟨_,rfl⟩
 have hsm:∀ i,i ∈ s ↔ (0≤i∧i<((wvrO S).length:Int))∧nthW S i ∈ y:=fun i=>by rw [es,List.mem_filter,upto_mem,decide_eq_true_eq]
 have hss:s.Pairwise (·<·):=by rw [es];exact (upto_sorted _).filter _
 have hsy:s.map (nthW S)=y:=by
  refine ext_rise ?_ hys fun k=>?_
  ·rw [List.pairwise_map]
   refine (List.Pairwise.and_mem.1 hss).imp ?_
   rintro a b ⟨ha,hb,h⟩
   exact hmono a b ((hsm a).1 ha).1 ((hsm b).1 hb).1 h
  ·rw [List.mem_map]
   constructor
   ·rintro ⟨i,hi,rfl⟩
    exact ((hsm i).1 hi).2
   ·intro hk
    obtain ⟨j,hj,e⟩:=mem_getD (hyw k hk)
    have e':nthW S (j:Int)=k:=by unfold nthW;rw [Int.toNat_natCast];exact e
    exact ⟨(j:Int),(hsm _).2 ⟨⟨by omega,by omega⟩,by rw [e'];exact hk⟩,e'⟩
 have hsd:s.Sublist (deskA (lomO P S)).1:=sub_sort hss deskA_sorted fun i hi=>by
  obtain ⟨b1,b2⟩:=(hsm i).1 hi
  exact deskA_mem.2 ⟨by rw [lom_ss];exact b1,by rw [bad_lom b1];exact decide_eq_true (p1 _ b2)⟩
 have hsa:∀ a ∈ s,∀ b ∈ s,a=b ∨ aprT (lomO P S) a b:=by
  have hpw:s.Pairwise fun a b=>aprT (lomO P S) a b:=by
   rw [← hsy,List.pairwise_map] at p2
   refine (List.Pairwise.and_mem.1 p2).imp ?_
   rintro a b ⟨ha,hb,h⟩
   exact (apr_lom hM ((hsm a).1 ha).1 ((hsm b).1 hb).1).2 h
  intro a ha b hb
  obtain ⟨i,hi,rfl⟩:=List.getElem_of_mem ha
  obtain ⟨k,hk,rfl⟩:=List.getElem_of_mem hb
  rcases Nat.lt_trichotomy i k with h|h|h
  ·exact .inr (List.pairwise_iff_getElem.1 hpw i k hi hk h)
  ·subst h;exact .inl rfl
  ·exact .inr (aprT_symm (List.pairwise_iff_getElem.1 hpw k i hk hi h))
 have htl:(t.length:Int)≤((lomO P S).ps.length:Int)-0:=rise_len' (f:=fun b:Brk=>b.1) t (a:=0) (c:=((lomO P S).ps.length:Int)) ht.1.1 (fun b hb=>⟨(ht.1.2 b hb).1,(ht.1.2 b hb).2.1⟩) (by omega)
 have hsl:=apart_len ht (hss.imp fun h=>by omega) (fun i hi=>hsd.subset hi) hsa
 have hsl2:=a4 s hsd hsa (by omega)
 have hsyl:s.length=y.length:=by rw [← hsy,List.length_map]
 rcases hz with hz|⟨hz1,hz2⟩
 ·omega
 ·refine ⟨a1,fun i hi=>(hdr i (a2.subset hi)).1,?_⟩
  rcases hz2 with h|h
  ·exact h
  ·have hle:=hsd.length_le
   rcases pckF_lex (p:=pckP (lomO P S)) (deskA_sorted (L:=lomO P S)) (n:=min (deskA (lomO P S)).1.length (lomO P S).ps.length) (o:=none) hsd ((pckP_iff hc (fun i hi=>hsd.subset hi)).2 hsa) (by omega) (by rw [← hq];omega) with g|g
   ·rw [← hq] at g
    rw [← g,hsy]
   ·rw [← hq] at g
    have g2:=lexB_map (f:=nthW S) (q:=fun i=>0≤i∧i<((wvrO S).length:Int)) hmono (fun i hi=>(hdr i (a2.subset hi)).1) (fun i hi=>((hsm i).1 hi).1) g
    rw [hsy] at g2
    have:=lexB_trans g2 h
    rw [lexB_irr] at this
    cases this
theorem exc_law (hM:MOkS P S) (hc:chkM (lomO P S)=0) {p:Int} (hp:0≤p∧p<((shfO P).length:Int)):(excM (lomO P S) p).2=0∧(0<(excM (lomO P S) p).1.length ↔ clrB P S ((shfO P).getD p.toNat 0)=true):=by
 obtain ⟨e1,e2⟩:=excM_mem hc (k:=p) (by rw [lom_ps];exact hp)
 refine ⟨e1,?_⟩
 have hk:brkOk (lomO P S) (p,0,0):=⟨hp.1,by rw [lom_ps];exact hp.2,Int.le_refl _,Int.le_refl _,by show (0:Int)<1;omega⟩
 have hpr:=prt_lom hk
 unfold prtOf at hpr
 have hn:nthS P (p,0,0)=(shfO P).getD p.toNat 0:=rfl
 rw [hn] at hpr
 constructor
 ·intro h
  obtain ⟨x,hx⟩:=List.exists_mem_of_length_pos h
  obtain ⟨_,i,hi,hb,_,_,_,hr⟩:=(e2 x).1 hx
  have hi:=upto_mem.1 hi
  rw [lom_ss] at hi
  simp only at hpr
  rw [hpr,sgt_lom hi] at hr
  rw [bad_lom hi] at hb
  have hb:=of_decide_eq_false hb
  have hw:=wvrO_mem.1 (nthW_mem hi)
  have hk2:(nthW S i).toNat<S.length:=by omega
  have hv:=s_val hM hk2
  exact clrB_iff.2 ⟨_,hk2,by omega,(ribO_mem.1 hr).2⟩
 ·intro h
  obtain ⟨k,hk2,h1,hd⟩:=clrB_iff.1 h
  obtain ⟨i,hi,e⟩:=wvr_at hk2 (by omega)
  have hlen:=hM.len
  refine List.length_pos_of_mem ((e2 0).2 ⟨⟨Int.le_refl _,by show (0:Int)<1;omega⟩,i,upto_mem.2 (by rw [lom_ss];exact hi),?_,?_⟩)
  ·rw [bad_lom hi,e,Int.toNat_natCast]
   exact decide_eq_false (by omega)
  ·simp only at hpr
   rw [hpr,sgt_lom hi,e]
   exact ⟨Int.le_refl _,Int.le_refl _,rfl,ribO_mem.2 ⟨by show 0≤(k:Int)∧(k:Int)<(P.K.length:Int);omega,by show drv P _ (k:Int).toNat=true;rw [Int.toNat_natCast];exact hd⟩⟩
theorem clr_shf (hM:MOkS P S):(shfO P).filter (clrB P S)=clrL P S:=by
 refine ext_rise (shfO_sorted.filter _) ((upto_sorted _).filter _) fun s=>?_
 unfold clrL
 rw [List.mem_filter,List.mem_filter,upto_mem,shfO_mem hM.ok]
 constructor
 ·rintro ⟨⟨k,h⟩,c⟩
  exact ⟨(drv_lt hM.ok h).2,c⟩
 ·rintro ⟨_,c⟩
  obtain ⟨k,_,_,h⟩:=clrB_iff.1 c
  exact ⟨⟨k,h⟩,c⟩
theorem lom_chk (hM:MOkS P S):chkM (lomO P S)=0:=by
 have ok:=hM.ok
 have h1:=ok.n
 have h2:=ok.k
 have h3:=hM.pos
 have h4:=hM.len
 have hpos:0<(shfO P).length:=by
  have hm:=ok.s _ (getD_at (d:=(-1:Int)) (show 0<P.K.length by omega) ▸ List.getElem_mem (show 0<P.K.length by omega))
  refine List.length_pos_of_mem ((shfO_mem ok).2 ⟨0,?_⟩:P.K.getD 0 (-1) ∈ shfO P)
  unfold drv lnK
  rw [lnA_step ok.u hm.1 hm.2]
  exact decide_eq_true (by simp)
 have hle:(shfO P).length≤P.U.length:=by
  have:=(List.filter_sublist (p:=fun s=>decide (0<(ribO P s).length)) (l:=upto P.U.length)).length_le
  rwa [upto_len] at this
 have hwl:(wvrO S).length≤S.length:=by
  have:=(List.filter_sublist (p:=fun k:Int=>decide (S.getD k.toNat 0 ≠ 0)) (l:=upto S.length)).length_le
  rwa [upto_len] at this
 have hps:∀ p ∈ (lomO P S).ps,0<p.rib.length∧(1≤p.each∧p.each≤4)∧(0≤p.ph∧p.ph≤p.each-1)∧(∀ r ∈ p.rib,0≤r∧r≤(lomO P S).R-1)∧p.rib.Pairwise (·<·):=fun p hp=>by
  obtain ⟨s,hs,rfl⟩:=List.mem_map.1 hp
  refine ⟨of_decide_eq_true (List.mem_filter.1 hs).2,by simp only;omega,by simp only;omega,fun r hr=>?_,ribO_sorted⟩
  have:=(ribO_mem.1 hr).1
  show 0≤r∧r≤(P.K.length:Int)-1
  omega
 have hsg:∀ s ∈ (lomO P S).ss,(0≤s.rib∧s.rib≤(lomO P S).R-1)∧(0≤s.lo∧s.lo≤(lomO P S).T-1)∧(0≤s.hi∧s.hi≤(lomO P S).T-1)∧s.lo≤s.hi:=fun s hs=>by
  obtain ⟨k,hk,rfl⟩:=List.mem_map.1 hs
  have:=(wvrO_mem.1 hk).1
  refine ⟨?_,?_,?_,Int.le_refl _⟩
  ·show 0≤k∧k≤(P.K.length:Int)-1
   omega
  ·show (0:Int)≤0∧(0:Int)≤1-1
   omega
  ·show (0:Int)≤0∧(0:Int)≤1-1
   omega
 have eR:(lomO P S).R=(P.K.length:Int):=rfl
 have eT:(lomO P S).T=1:=rfl
 have e1:((lomO P S).ps.all fun p=>decide (0<p.rib.length))=true:=List.all_eq_true.2 fun p hp=>decide_eq_true (hps p hp).1
 have e2:((lomO P S).ps.all fun p=>decide ((1≤p.each∧p.each≤4)∧(0≤p.ph∧p.ph≤p.each-1)))=true:=List.all_eq_true.2 fun p hp=>decide_eq_true ⟨(hps p hp).2.1,(hps p hp).2.2.1⟩
 have e3:((lomO P S).ps.all fun p=>p.rib.all fun r=>decide (0≤r∧r≤(lomO P S).R-1))=true:=List.all_eq_true.2 fun p hp=>List.all_eq_true.2 fun r hr=>decide_eq_true ((hps p hp).2.2.2.1 r hr)
 have e4:((lomO P S).ss.all fun s=>decide ((0≤s.rib∧s.rib≤(lomO P S).R-1)∧(0≤s.lo∧s.lo≤(lomO P S).T-1)∧(0≤s.hi∧s.hi≤(lomO P S).T-1)))=true:=List.all_eq_true.2 fun s hs=>decide_eq_true ⟨(hsg s hs).1,(hsg s hs).2.1,(hsg s hs).2.2.1⟩
 have e5:((lomO P S).ps.all fun p=>riseB p.rib)=true:=List.all_eq_true.2 fun p hp=>by
  refine decide_eq_true fun i hi h0=>?_
  exact sort_lt (hps p hp).2.2.2.2 hi (by omega)
 have e6:((lomO P S).ss.all fun s=>decide (s.lo≤s.hi))=true:=List.all_eq_true.2 fun s hs=>decide_eq_true (hsg s hs).2.2.2
 unfold chkM
 rw [if_neg,if_neg,if_neg,if_neg]
 ·rw [e5,e6];simp
 ·rw [e3,e4];simp
 ·rw [e2];simp
 ·rw [e1,eR,eT,lom_ps,lom_ss]
  simp
  omega
theorem stop_law (hM:MOkS P S) :
  (clsB P S=true∧slpM P S=([],7)∧¬ ∃ t,XpA (lomO P S) t) ∨
  (clsB P S=false∧∃ t,XpA (lomO P S) t):=by
 cases c:clsB P S with
 | true =>
  have h:=(cls_iff hM.ok).1 c
  exact .inl ⟨rfl,slip_no h,fun q=>h ((ex_iff hM).1 q)⟩
 | false =>
  refine .inr ⟨rfl,(ex_iff hM).2 (Classical.byContradiction fun h=>?_)⟩
  rw [(cls_iff hM.ok).2 h] at c
  cases c
end
end F4
end Go.AM
namespace Go.AM
namespace F4
open Go.Proofs.Tryz
attribute [-go_sem] put_ne put_same
attribute [local go_sem ↓] put_if
def dkB (sv wv:AVal) (m:List Bool):ABlk:=⟨.cells (sv :: wv :: m.map .bool) 205 false false,0⟩
theorem dkL {sv wv:AVal} {m:List Bool} {s k:Nat} (hm:m.length=54) (hs:s<9) (hk:k<6):ldB (some (false,1)) (some (dkB sv wv m)) 0 (2+s * 6+k)=some (.bool (m.getD (s * 6+k) false)):=by
 unfold dkB
 rw [ldB_cell,show 2+s * 6+k=s * 6+k+2 by omega,List.getElem?_cons_succ,List.getElem?_cons_succ,List.getElem?_map,getD_some (d:=false) (by omega)]
 rfl
theorem dkS {sv wv:AVal} {m:List Bool} {base id s k:Nat} {b:Bool} {K:ABlk→Heap} (hb:base≤id) (hm:m.length=54) (hs:s<9) (hk:k<6):stQ base id (some (dkB sv wv m)) 0 (2+s * 6+k) [.bool b] K=some (K (dkB sv wv (m.set (s * 6+k) b))):=by
 unfold dkB
 rw [stQ_own hb (by simp only [List.length_map,List.length_cons,List.length_nil];omega) (by simp [AVal.scalar])]
 rw [show 2+s * 6+k=s * 6+k+2 by omega]
 simp only [splice,List.map_set,List.set_cons_succ]
def dpB (d:Nat):ABlk:=⟨.cells [.ptr (some ⟨d,0,0⟩)] 194 false false,0⟩
section
variable {P:Pwr} {m:List Bool} {k j:Nat}
def DmOk (P:Pwr) (k j:Nat) (m:List Bool):Prop:=m.length=54∧∀ s k':Nat,s<9→k'<6→(m.getD (s * 6+k') false=true ↔ (k'<k∧drv P (s:Int) k'=true) ∨ (k'=k∧(s:Int) ∈ (lnK P k).take j))
def DmF (P:Pwr) (m:List Bool):Prop:=m.length=54∧∀ s k:Nat,s<9→k<6→m.getD (s * 6+k) false=drv P (s:Int) k
theorem DmOk.zero:DmOk P 0 0 (List.replicate 54 false):=by
 refine ⟨by simp,fun s k' hs hk=>?_⟩
 have:(List.replicate 54 false).getD (s * 6+k') false=false:=by
  rw [List.getD_eq_getElem?_getD,List.getElem?_replicate]
  split<;>rfl
 rw [this]
 simp
theorem DmOk.next (x:DmOk P k (lnK P k).length m):DmOk P (k+1) 0 m:=by
 refine ⟨x.1,fun s k' hs hk=>?_⟩
 rw [x.2 s k' hs hk,List.take_length]
 unfold drv
 simp only [decide_eq_true_eq,List.take_zero,List.not_mem_nil,and_false,or_false]
 constructor
 ·rintro (⟨a,b⟩|⟨rfl,b⟩)
  ·exact ⟨by omega,b⟩
  ·exact ⟨by omega,b⟩
 ·rintro ⟨a,b⟩
  by_cases e:k'=k
  ·exact .inr ⟨e,by rw [← e];exact b⟩
  ·exact .inl ⟨by omega,b⟩
theorem DmOk.set (x:DmOk P k j m) (hk6:k<6) (hj:j<(lnK P k).length) {s:Nat} (hs9:s<9) (e:(lnK P k).getD j (-1)=(s:Int)):DmOk P k (j+1) (m.set (s * 6+k) true):=by
 refine ⟨by rw [List.length_set];exact x.1,fun s' k' hs hk=>?_⟩
 have et:(lnK P k).take (j+1)=(lnK P k).take j++[(s:Int)]:=by
  rw [List.take_add_one,List.getElem?_eq_getElem hj,← e,List.getD_eq_getElem?_getD,List.getElem?_eq_getElem hj]
  rfl
 have x1:=x.1
 rw [getD_set' (by omega),et,List.mem_append,List.mem_singleton]
 by_cases q:s * 6+k=s' * 6+k'
 ·obtain ⟨rfl,rfl⟩:s=s'∧k=k':=by omega
  rw [if_pos q]
  simp
 ·rw [if_neg q,x.2 s' k' hs hk]
  constructor
  ·rintro (a|⟨a,b⟩)
   ·exact .inl a
   ·exact .inr ⟨a,.inl b⟩
  ·rintro (a|⟨a,b|b⟩)
   ·exact .inl a
   ·exact .inr ⟨a,b⟩
   ·omega
theorem DmOk.all (ok:POk P) (x:DmOk P P.K.length 0 m):DmF P m:=by
 refine ⟨x.1,fun s k' hs hk=>?_⟩
 have:=x.2 s k' hs hk
 simp only [List.take_zero,List.not_mem_nil,and_false,or_false] at this
 rw [Bool.eq_iff_iff,this]
 exact ⟨fun h=>h.2,fun h=>⟨(drv_lt ok h).1,h⟩⟩
end
def DkAt (H:Heap) (d:Nat) (P:Pwr):Prop:=∃ sv wv m,H[d]?=some (dkB sv wv m)∧ShAt H sv P.U∧WvAt H wv P.K∧DmF P m
theorem DkAt.ext {h H:Heap} {d:Nat} {P:Pwr} (x:DkAt h d P) (e:Ext h H):DkAt H d P:=by
 obtain ⟨sv,wv,m,a,b,c,f⟩:=x
 exact ⟨sv,wv,m,e.get a,b.ext e,c.ext e,f⟩
def OpI (G:Heap) (d:Nat) (sv wv:AVal) (P:Pwr) (k j:Nat) (H:Heap):Prop:=d=G.length∧Ext G H∧H[d+1]?=some (dpB d)∧∃ m,H[d]?=some (dkB sv wv m)∧DmOk P k j m
theorem OpI.set {G H:Heap} {d i k j:Nat} {sv wv:AVal} {P:Pwr} {b:ABlk} (x:OpI G d sv wv P k j H) (hi:d+2≤i):OpI G d sv wv P k j (H.set i b):=by
 obtain ⟨e,a,p,m,q,r⟩:=x
 exact ⟨e,a.set (by omega),by rw [List.getElem?_set_ne (by omega)];exact p,m,by rw [List.getElem?_set_ne (by omega)];exact q,r⟩
theorem OpI.app {G H T:Heap} {d k j:Nat} {sv wv:AVal} {P:Pwr} (x:OpI G d sv wv P k j H):OpI G d sv wv P k j (H++T):=by
 obtain ⟨e,a,p,m,q,r⟩:=x
 exact ⟨e,a.app,get_app p,m,get_app q,r⟩
set_option maxHeartbeats 2000000 in
theorem run_popened {base:Nat} {h:Heap} {v:AVal} {P:Pwr} (hb:base≤h.length) (hM:PwAt h v P) (ok:POk P):Ret prog raw base (.fn 167 [] []) [v] h (fun w H=>∃ d,w=.tuple [.ptr (some ⟨d,0,0⟩),.int .i64 0]∧h.length≤d∧Ext h H∧DkAt H d P):=by
 have hM0:=hM
 obtain ⟨sv,wv,rfl,hS,hW⟩:=hM
 have os:=hS.one
 have ow:=hW.one
 have b1:=ok.n
 have b2:=ok.k
 obtain ⟨G,eG⟩:∃ G,G=h++[pwB sv wv]:=⟨_,rfl⟩
 have x0:Ext h G:=by rw [eG];exact .app .refl
 have g0:G[h.length]?=some (pwB sv wv):=by rw [eG];exact get_eq rfl
 have lG:G.length=h.length+1:=by rw [eG];simp
 have sG:=hS.ext x0
 have wG:=hW.ext x0
 obtain ⟨G2,eG2⟩:∃ G2,G2=G++[dkB sv wv (List.replicate 54 false)]++[dpB G.length]:=⟨_,rfl⟩
 have eL:G++[⟨.cells [sv,wv,.bool false,.bool false,.bool false,.bool false,.bool false,.bool false,.bool false,.bool false,.bool false,.bool false,.bool false,.bool false,.bool false,.bool false,.bool false,.bool false,.bool false,.bool false,.bool false,.bool false,.bool false,.bool false,.bool false,.bool false,.bool false,.bool false,.bool false,.bool false,.bool false,.bool false,.bool false,.bool false,.bool false,.bool false,.bool false,.bool false,.bool false,.bool false,.bool false,.bool false,.bool false,.bool false,.bool false,.bool false,.bool false,.bool false,.bool false,.bool false,.bool false,.bool false,.bool false,.bool false,.bool false,.bool false] 205 false false,0⟩]++[⟨.cells [.ptr (some ⟨G.length,0,0⟩)] 194 false false,0⟩]=G2:=by rw [eG2];rfl
 have x2:Ext G G2:=by rw [eG2];exact .app (.app .refl)
 have n2:=(wG.ext x2).len
 have e1:=fun base=>run_pCheck (base:=base) (hM0.ext x0) ok
 have hI0:OpI G G.length sv wv P 0 0 G2:=by rw [eG2];exact ⟨rfl,.app (.app .refl),get_eq (by simp),_,get_app (get_eq rfl),DmOk.zero⟩
 have g2:=x2.get g0
 have lG2:G2.length=h.length+3:=by rw [eG2];simp;omega
 unfold pwB at eG g0 g2
 refine ret_raw func167 rfl (by kernel_rfl) ?_
 have hsp:=@Nat.succ_ne_zero;repeat' (first|simp (disch:=first|exact dq|fail) only [go_sem,↓reduceIte,hsp,← eG,g0,e1,eL,g2,n2]|refine WP_drw ?_|refine cnd_intro (fun hsp=>?_) fun hsp=>?_)
 refine WP_count [(6,8),(20,28),(30,37)] 0 P.K.length (Nat.zero_le _) (fun _ k fr h'=>fr 20=.int .i64 (k:Int)∧OpI G G.length sv wv P k 0 h') ?_ ?_ ?_
 ·exact ⟨by (simp (disch:=first|exact dq|fail) only [go_sem,↓reduceIte,Int.natCast_zero];first|done|rfl),hI0⟩
 ·rintro k fr H hk0 hk hA ⟨r20,hI⟩
  have p1:=hA 1 rfl
  have p2:=hA 2 rfl
  have p3:=hA 3 rfl
  have p5:=hA 5 rfl
  have p18:=hA 18 rfl
  have p19:=hA 19 rfl
  try simp (disch:=first|exact dq|fail) only [go_sem,↓reduceIte] at p1 p2 p3 p5 p18 p19
  obtain ⟨_,xH,hp,m,hd,hm⟩:=id hI
  have hlt:((k:Int)<(P.K.length:Int))=True:=eq_true (by omega)
  obtain ⟨s,es⟩:∃ s,P.K[k]?=some s:=⟨_,List.getElem?_eq_getElem hk⟩
  have hs:=ok.s s (List.mem_of_getElem? es)
  have lH:G.length+2≤H.length:=lt_of_get hp
  have gH:=xH.get g0
  obtain ⟨a1,a2,a3,w,wone,a4⟩:=(wG.ext xH).sh es
  obtain ⟨lv,HL,e2,rfl,rfl⟩:=run_line (base:=base) (h:=H++[intB k]++[⟨.cells [.int .i64 s,w] 191 false false,0⟩]) (s:=s) os ow
  unfold intB pwB at e2
  have hsp:=@Nat.succ_ne_zero;repeat' (first|simp (disch:=first|exact dq|fail) only [go_sem,↓reduceIte,hsp,r20,p1,p2,p3,p5,p18,p19,p5,hlt,a1,a4,gH,e2]|refine WP_drw ?_|refine cnd_intro (fun hsp=>?_) fun hsp=>?_)
  refine WP_rest fun F J eF eJ=>?_
  have kF5:=congrFun eF 5
  have kF6:=congrFun eF 6
  have kF20:=congrFun eF 20
  have kF28:=congrFun eF 28
  try simp (disch:=first|exact dq|fail) only [go_sem,↓reduceIte] at kF5 kF6 kF20 kF28
  have lJ:=congrArg List.length eJ
  try simp (disch:=first|exact dq|fail) only [go_sem,↓reduceIte] at lJ
  have hJ:J.length=H.length+4:=by rw [lJ]
  rw [p5] at kF5
  have hk5:k<6:=by omega
  have elk:lnK P k=lnA P.U s:=by unfold lnK;rw [List.getD_eq_getElem?_getD,es];rfl
  refine WP_rangeS (f:=170) (a:=[]) (c:=[.ptr (some ⟨H.length+1+1+1,0,0⟩),.ptr (some ⟨H.length+1+1,0,0⟩)]) (by rw [ev_tmp,kF28]) (N:=(lnA P.U s).length) (sb:=H.length+1+1+1) (B0:=intB s) (xs:=fun j=>[.int .i64 ((lnA P.U s).getD j (-1))])
   (fun j X=>OpI G G.length sv wv P k j X∧X[H.length]?=some (intB k)∧X[H.length+1+1]?=some (pwB sv wv)) ?_ (fun j=>rfl) (by omega) (by rw [eJ];exact get_eq (by simp)) (fun j X T x=>⟨x.1.app,get_app x.2.1,get_app x.2.2⟩) (fun j X b x=>⟨x.1.set (by omega),by rw [List.getElem?_set_ne (by omega)];exact x.2.1,by rw [List.getElem?_set_ne (by omega)];exact x.2.2⟩) (fun j X b x=>⟨x.1.set (by omega),by rw [List.getElem?_set_ne (by omega)];exact x.2.1,by rw [List.getElem?_set_ne (by omega)];exact x.2.2⟩) ?_ ?_ ?_
  ·exact line_yields ok.u (by omega) (by omega) (by omega) fun j X x=>⟨x.2.2,sG.ext x.1.2.1⟩
  ·refine ⟨OpI.app ?_,get_app ?_,get_app ?_⟩
   ·rw [eJ];exact hI.app.app.app.app
   ·rw [eJ];exact get_app (get_app (get_app (get_eq rfl)))
   ·rw [eJ];exact get_app (get_eq (by simp))
  ·rintro j X B1 B2 hj ⟨hC,hk1,hm1⟩ hlen hB1
   obtain ⟨c,ec⟩:∃ c,c=(lnA P.U s).getD j (-1):=⟨_,rfl⟩
   have hc:=lnA_at ok.u (by omega) hs.2 hj
   rw [← ec] at hc ⊢
   obtain ⟨n,rfl⟩:=Int.eq_ofNat_of_zero_le hc.1
   have hsp:=@Nat.succ_ne_zero;repeat' (first|simp (disch:=first|exact dq|fail) only [go_sem,↓reduceIte,hsp,kF5,kF6,kF20,kF28]|refine WP_drw ?_|refine cnd_intro (fun hsp=>?_) fun hsp=>?_)
   refine ⟨hB1,?_⟩
   obtain ⟨X2,eX⟩:∃ X2,X2=X.set J.length B2:=⟨_,rfl⟩
   rw [← eX]
   have hlX:=lt_of_get hB1
   have hC2:OpI G G.length sv wv P k j X2:=by rw [eX];exact hC.set (by omega)
   have hk2:X2[H.length]?=some (intB k):=by rw [eX,List.getElem?_set_ne (by omega)];exact hk1
   have hm2:X2[H.length+1+1]?=some (pwB sv wv):=by rw [eX,List.getElem?_set_ne (by omega)];exact hm1
   have hb2:X2[J.length]?=some B2:=by rw [eX,List.getElem?_set_self hlX]
   have hs2:∀ x,X[H.length+1+1+1]?=some x→X2[H.length+1+1+1]?=some x:=fun x hx=>by rw [eX,List.getElem?_set_ne (by omega)];exact hx
   obtain ⟨_,_,d1,m2,d2,d3⟩:=id hC2
   have lX:=lt_of_get hk2
   have d4:∀ {Z:ABlk→Heap} {b:Bool},stQ base G.length (some (dkB sv wv m2)) 0 (2+n * 6+k) [.bool b] Z=some (Z (dkB sv wv (m2.set (n * 6+k) b))):=fun {Z b}=>dkS (by omega) d3.1 (by omega) hk5
   unfold dpB at d1
   unfold intB at hk2
   have hsp:=@Nat.succ_ne_zero;repeat' (first|simp (disch:=first|exact dq|fail) only [go_sem,↓reduceIte,hsp,kF5,kF6,kF20,kF28,d1,hk2,d2,d4]|refine WP_drw ?_|refine cnd_intro (fun hsp=>?_) fun hsp=>?_)
   have hset:DmOk P k (j+1) (m2.set (n * 6+k) true):=d3.set hk5 (by rw [elk];exact hj) (by omega) (by rw [elk];exact ec.symm)
   have lGX:=lt_of_get d2
   have hI1:OpI G G.length sv wv P k (j+1) (X2.set G.length (dkB sv wv (m2.set (n * 6+k) true))):=⟨rfl,hC2.2.1.set (Nat.le_refl _),by rw [List.getElem?_set_ne (by omega)];exact d1,_,by rw [List.getElem?_set_self lGX],hset⟩
   exact ⟨by first|exact hb2|(rw [List.getElem?_set_ne (by omega)];exact hb2),fun x hx=>by first|exact hs2 x hx|(rw [List.getElem?_set_ne (by omega)];exact hs2 x hx),hI1,by first|rfl|exact hk2|(rw [List.getElem?_set_ne (by omega)];exact hk2),by first|exact hm2|(rw [List.getElem?_set_ne (by omega)];exact hm2)⟩
  ·rintro X ⟨hC,_,_⟩
   rw [← elk] at hC
   obtain ⟨c1,c2,c3,m3,c4,c5⟩:=hC
   have hsp:=@Nat.succ_ne_zero;repeat' (first|simp (disch:=first|exact dq|fail) only [go_sem,↓reduceIte,hsp,kF5,kF6,kF20,kF28,p1,p2,p3,p5,p18,p19,p5,r20]|refine WP_drw ?_|refine cnd_intro (fun hsp=>?_) fun hsp=>?_)
   exact ⟨by rw [eF];exact agq,by omega,c1,c2,c3,m3,c4,c5.next⟩
 ·rintro fr H hA ⟨r20,hI⟩
  have p1:=hA 1 rfl
  have p2:=hA 2 rfl
  have p3:=hA 3 rfl
  have p5:=hA 5 rfl
  have p18:=hA 18 rfl
  have p19:=hA 19 rfl
  try simp (disch:=first|exact dq|fail) only [go_sem,↓reduceIte] at p1 p2 p3 p5 p18 p19
  obtain ⟨_,xH,hp,m,hd,hm⟩:=id hI
  have hlt:((P.K.length:Int)<(P.K.length:Int))=False:=eq_false (by omega)
  unfold dpB at hp
  have hsp:=@Nat.succ_ne_zero;repeat' (first|simp (disch:=first|exact dq|fail) only [go_sem,↓reduceIte,hsp,r20,p1,p2,p3,p5,p18,p19,hlt,hp]|refine WP_drw ?_|refine cnd_intro (fun hsp=>?_) fun hsp=>?_)
  exact ⟨G.length,rfl,by omega,x0.trans xH,sv,wv,m,hd,sG.ext xH,wG.ext xH,hm.all ok⟩
theorem run_known {base:Nat} {h:Heap} {v:AVal} {P:Pwr} {k:Int} (hb:base≤h.length) (hM:PwAt h v P) (ok:POk P) (hk:0≤k∧k<(P.K.length:Int)):Ret prog raw base (.fn 79 [] []) [v,.int .i64 k] h (fun w H=>∃ d,w=.tuple [.ptr (some ⟨d,0,0⟩),.int .i64 0]∧h.length≤d∧Ext h H∧DkAt H d P):=by
 have hM0:=hM
 obtain ⟨sv,wv,rfl,hS,hW⟩:=hM
 have os:=hS.one
 have ow:=hW.one
 have b2:=ok.k
 obtain ⟨G,eG⟩:∃ G,G=h++[pwB sv wv]:=⟨_,rfl⟩
 have x0:Ext h G:=by rw [eG];exact .app .refl
 have g0:G[h.length]?=some (pwB sv wv):=by rw [eG];exact get_eq rfl
 have lG:=x0.len
 obtain ⟨w,H1,e1,d,rfl,hd,x1,hD⟩:=run_popened (base:=base) (h:=G) (by omega) (hM0.ext x0) ok
 have g1:=x1.get g0
 have e2:=fun base=>run_pweaver (base:=base) (n:=k) (hW.ext (x0.trans x1)) (by omega) os
 rw [decide_eq_true (by omega)] at e2
 unfold pwB at eG g0 g1
 refine ret_raw func79 rfl (by kernel_rfl) ?_
 have hsp:=@Nat.succ_ne_zero;repeat' (first|simp (disch:=first|exact dq|fail) only [go_sem,↓reduceIte,hsp,← eG,g0,e1,g1,e2]|refine WP_drw ?_|refine cnd_intro (fun hsp=>?_) fun hsp=>?_)
 exact ⟨d,rfl,by omega,x0.trans x1,hD⟩
end F4
end Go.AM
namespace Go.AM
namespace F4
open Go.Proofs.Tryz
attribute [-go_sem] put_ne put_same
attribute [local go_sem ↓] put_if
theorem keep_low {h H:Heap} {b:Nat} (hE:∀ G:Heap,G.length≤b→Ext G h→Ext G H) {i:Nat} {x:ABlk} (hi:i<b) (g:h[i]?=some x):H[i]?=some x:=by
 have e:Ext (h.take b) h:=⟨h.drop b,(List.take_append_drop _ _).symm⟩
 exact (hE _ (by rw [List.length_take];omega) e).get (by rw [List.getElem?_take_of_lt hi];exact g)
def AsI (h0:Heap) (mb ob b:Nat) (sv wv:AVal) (l:List Int) (X:Heap):Prop:=(h0.length≤ob∧ob<b∧mb<b∧b≤X.length)∧Ext h0 X∧X[mb]?=some (pwB sv wv)∧∃ v,X[ob]?=some (outB v)∧Own encI 3 b X v l
section
variable {h0 X T:Heap} {mb ob b i:Nat} {sv wv:AVal} {l:List Int} {y:ABlk}
theorem AsI.app (x:AsI h0 mb ob b sv wv l X):AsI h0 mb ob b sv wv l (X++T):=by
 obtain ⟨⟨a1,a2,a3,a4⟩,e,m,v,o,w⟩:=x
 exact ⟨⟨a1,a2,a3,by rw [List.length_append];omega⟩,e.app,get_app m,v,get_app o,w.app⟩
theorem AsI.set (x:AsI h0 mb ob b sv wv l X) (hi:h0.length≤i∧i<b) (hm:i ≠ mb) (ho:i ≠ ob):AsI h0 mb ob b sv wv l (X.set i y):=by
 obtain ⟨⟨a1,a2,a3,a4⟩,e,m,v,o,w⟩:=x
 exact ⟨⟨a1,a2,a3,by rw [List.length_set];omega⟩,e.set hi.1,by rw [List.getElem?_set_ne hm];exact m,v,by rw [List.getElem?_set_ne ho];exact o,w.set hi.2⟩
end
set_option maxHeartbeats 1000000 in
theorem run_appseq {base:Nat} {h0 h:Heap} {sb mb:Nat} {sv wv:AVal} {U:List Int} {s:Int} (ok:UOk U) (hs:-1≤s∧s<(U.length:Int)) (hU:U.length≤1000) (hb:base≤sb) (x0:Ext h0 h) (hsb:h0.length≤sb) (hne:mb ≠ sb) (g1:h[sb]?=some (intB s)) (g2:h[mb]?=some (pwB sv wv)) (hS:ShAt h0 sv U) :
  Ret prog raw base (.fn 169 [] []) [.slice none 0 0,.fn 170 [] [.ptr (some ⟨sb,0,0⟩),.ptr (some ⟨mb,0,0⟩)]] h (fun w H=>Ext h0 H∧Own encI 3 h.length H w (lnA U s)):=by
 have l1:=lt_of_get g1
 have l2:=lt_of_get g2
 have ll:=lnA_len ok hs.1 hs.2
 refine ret_raw func169 rfl (by kernel_rfl) ?_
 have hsp:=@Nat.succ_ne_zero;repeat' (first|simp (disch:=first|exact dq|fail) only [go_sem,↓reduceIte,hsp]|refine WP_drw ?_|refine cnd_intro (fun hsp=>?_) fun hsp=>?_)
 refine WP_rest fun F J eF eJ=>?_
 have kF2:=congrFun eF 2
 have kF6:=congrFun eF 6
 try simp (disch:=first|exact dq|fail) only [go_sem,↓reduceIte] at kF2 kF6
 have lJ:=congrArg List.length eJ
 try simp (disch:=first|exact dq|fail) only [go_sem,↓reduceIte] at lJ
 have hJ:J.length=h.length+1:=by rw [lJ]
 refine WP_rangeS (f:=170) (a:=[]) (c:=[.ptr (some ⟨sb,0,0⟩),.ptr (some ⟨mb,0,0⟩)]) (by rw [ev_tmp,kF6]) (N:=(lnA U s).length) (sb:=sb) (B0:=intB s) (xs:=fun j=>[.int .i64 ((lnA U s).getD j (-1))])
  (fun j X=>AsI h0 mb h.length (h.length+2) sv wv ((lnA U s).take j) X) ?_ (fun j=>rfl) (by omega) (by rw [eJ];exact get_app g1) (fun j X T x=>x.app) (fun j X b x=>x.set ⟨by omega,by omega⟩ (by omega) (by omega)) (fun j X b x=>x.set ⟨by omega,by omega⟩ (by omega) (by omega)) ?_ ?_ ?_
 ·exact line_yields ok hs hb hne fun j X x=>⟨x.2.2.1,hS.ext x.2.1⟩
 ·refine ⟨⟨by omega,by omega,by omega,by rw [eJ];simp⟩,?_,?_,.slice none 0 0,?_,Own.nil⟩
  ·rw [eJ];exact x0.app.app
  ·rw [eJ];exact get_app (get_app g2)
  ·rw [eJ];exact get_app (get_eq rfl)
 ·rintro j X B1 B2 hj hC hlen hB1
  obtain ⟨c,ec⟩:∃ c,c=(lnA U s).getD j (-1):=⟨_,rfl⟩
  have hc:=lnA_at ok hs.1 hs.2 hj
  rw [← ec] at hc ⊢
  have hsp:=@Nat.succ_ne_zero;repeat' (first|simp (disch:=first|exact dq|fail) only [go_sem,↓reduceIte,hsp,kF2,kF6]|refine WP_drw ?_|refine cnd_intro (fun hsp=>?_) fun hsp=>?_)
  refine ⟨hB1,?_⟩
  obtain ⟨X2,eX⟩:∃ X2,X2=X.set J.length B2:=⟨_,rfl⟩
  rw [← eX]
  have hlX:=lt_of_get hB1
  have hC2:AsI h0 mb h.length (h.length+2) sv wv ((lnA U s).take j) X2:=by rw [eX];exact hC.set ⟨by omega,by omega⟩ (by omega) (by omega)
  have hb2:X2[J.length]?=some B2:=by rw [eX,List.getElem?_set_self hlX]
  have hs2:∀ x,X[sb]?=some x→X2[sb]?=some x:=fun x hx=>by rw [eX,List.getElem?_set_ne (by omega)];exact hx
  obtain ⟨⟨a1,a2,a3,a4⟩,xX,m2,v,go,hO⟩:=id hC2
  obtain ⟨v',X3,ea,oV,hle,hE,hV1⟩:=hO.append1 (y:=c) (base:=base) (t:=35) rfl rfl Fc.el35 encI_sc (by omega) a4 (by rw [List.length_take];omega)
  have go3:=keep_low hE (by omega) go
  have et:(lnA U s).take (j+1)=(lnA U s).take j++[c]:=by
   rw [List.take_add_one,List.getElem?_eq_getElem hj,ec,List.getD_eq_getElem?_getD,List.getElem?_eq_getElem hj]
   rfl
  unfold outB at go go3
  have goX:=go
  rw [eX,List.getElem?_set_ne (by omega)] at goX
  have hsp:=@Nat.succ_ne_zero;repeat' (first|simp (disch:=first|exact dq|fail) only [go_sem,↓reduceIte,hsp,kF2,kF6,goX,go,ea,go3]|refine WP_drw ?_|refine cnd_intro (fun hsp=>?_) fun hsp=>?_)
  refine ⟨keep_low hE (by omega) hb2,fun x hx=>keep_low hE (by omega) (hs2 x hx),⟨a1,a2,a3,by rw [List.length_set];omega⟩,(hE h0 (by omega) xX).set a1,?_,v',?_,?_⟩
  ·rw [List.getElem?_set_ne (by omega)];exact keep_low hE (by omega) m2
  ·rw [List.getElem?_set_self (lt_of_get go3)];rfl
  ·rw [et];exact oV.set a2
 ·rintro X hC
  obtain ⟨_,xX,_,v,go,hO⟩:=hC
  rw [List.take_length] at hO
  unfold outB at go
  have o1:=hO.one
  have hsp:=@Nat.succ_ne_zero;repeat' (first|simp (disch:=first|exact dq|fail) only [go_sem,↓reduceIte,hsp,kF2,kF6,go]|refine WP_drw ?_|refine cnd_intro (fun hsp=>?_) fun hsp=>?_)
  exact ⟨xX,hO.low (by omega)⟩
theorem run_collect {base:Nat} {h0 h:Heap} {sb mb:Nat} {sv wv:AVal} {U:List Int} {s:Int} (ok:UOk U) (hs:-1≤s∧s<(U.length:Int)) (hU:U.length≤1000) (hb:base≤sb) (x0:Ext h0 h) (hsb:h0.length≤sb) (hne:mb ≠ sb) (g1:h[sb]?=some (intB s)) (g2:h[mb]?=some (pwB sv wv)) (hS:ShAt h0 sv U) :
  Ret prog raw base (.fn 80 [] []) [.fn 170 [] [.ptr (some ⟨sb,0,0⟩),.ptr (some ⟨mb,0,0⟩)]] h (fun w H=>Ext h0 H∧Own encI 3 h.length H w (lnA U s)):=by
 obtain ⟨w,H1,e1,x1,o1⟩:=run_appseq (base:=base) ok hs hU hb x0 hsb hne g1 g2 hS
 have w1:=o1.one
 refine ret_raw func80 rfl (by kernel_rfl) ?_
 have hsp:=@Nat.succ_ne_zero;repeat' (first|simp (disch:=first|exact dq|fail) only [go_sem,↓reduceIte,hsp,e1]|refine WP_drw ?_|refine cnd_intro (fun hsp=>?_) fun hsp=>?_)
 exact ⟨x1,o1⟩
theorem stQ54 {base:Nat} {l:List Oper} {s:St} {Q:AExit→St→Prop}:WP prog raw base (.region 4 l.toArray true) s Q=WPS prog raw base (.region 4 l.toArray true) s Q:=WP_stop
attribute [local go_sem ↓ 3000] stQ54
theorem run_Line {base:Nat} {h:Heap} {v:AVal} {P:Pwr} {k:Nat} (hb:base≤h.length) (hM:PwAt h v P) (ok:POk P) (hk:k<P.K.length):Ret prog raw base (.fn 28 [] []) [v,.int .i64 (k:Int)] h (fun w H=>Ext h H∧∃ x,w=.tuple [x,.int .i64 0]∧Own encI 3 h.length H x (lnK P k)):=by
 have hM0:=hM
 obtain ⟨sv,wv,rfl,hS,hW⟩:=hM
 have os:=hS.one
 have ow:=hW.one
 have b1:=ok.n
 obtain ⟨G,eG⟩:∃ G,G=h++[pwB sv wv]:=⟨_,rfl⟩
 have x0:Ext h G:=by rw [eG];exact .app .refl
 have g0:G[h.length]?=some (pwB sv wv):=by rw [eG];exact get_eq rfl
 have lG:=x0.len
 obtain ⟨w1,H1,e1,d,rfl,hd,x1,hD⟩:=run_known (base:=base) (h:=G) (k:=(k:Int)) (by omega) (hM0.ext x0) ok ⟨by omega,by omega⟩
 have g1:=x1.get g0
 have l1:=x1.len
 obtain ⟨sv2,wv2,m,d1,d2,d3,d4⟩:=hD
 obtain ⟨s,es⟩:∃ s,P.K[k]?=some s:=⟨_,List.getElem?_eq_getElem hk⟩
 have hs:=ok.s s (List.mem_of_getElem? es)
 obtain ⟨a1,a2,a3,_⟩:=(hW.ext (x0.trans x1)).sh es
 have os2:=d2.one
 have ow2:=d3.one
 obtain ⟨lv,H2,e2,rfl,eH2⟩:=run_line (base:=base) (h:=H1) (s:=s) os2 ow2
 have x2:Ext H1 H2:=by rw [eH2];exact .app (.app .refl)
 obtain ⟨w3,H3,e3,x3,o3⟩:=run_collect (base:=base) (h0:=H1) (h:=H2) (sb:=H1.length+1) (mb:=H1.length) (sv:=sv2) (wv:=wv2) (U:=P.U) (s:=s) ok.u (by omega) (by omega) (by omega) x2 (by omega) (by omega) (by rw [eH2];exact get_eq (by simp)) (by rw [eH2];exact get_app (get_eq rfl)) d2
 have elk:lnK P k=lnA P.U s:=by unfold lnK;rw [List.getD_eq_getElem?_getD,es];rfl
 rw [← elk] at o3
 have o3one:=o3.one
 unfold pwB at eG g0 g1
 unfold dkB at d1
 refine ret_raw func28 rfl (by kernel_rfl) ?_
 have hsp:=@Nat.succ_ne_zero;repeat' (first|simp (disch:=first|exact dq|fail) only [go_sem,↓reduceIte,hsp,← eG,g0,e1]|refine WP_drw ?_|refine cnd_intro (fun hsp=>?_) fun hsp=>?_)
 refine WPS_go ?_
 refine WP_wild [] (by kernel_rfl) (by kernel_rfl) (by kernel_rfl) trivial fun K hK=>?_
 iterate 14
  rw [TRS_cons]
  refine ⟨by first|(simp (disch:=first|exact dq|fail) only [go_sem,↓reduceIte,d1,g1,a1,a2,a3,e2,e3,ldsQ_cons,ldsQ_nil,grdQ_cons,grdQ_nil,if_true,Nat.reduceLeDiff];done)|exact trivial,?_⟩
  simp (disch:=first|exact dq|fail) only [go_sem,↓reduceIte,d1,g1,a1,a2,a3,e2,e3]
 rw [TRS_nil]
 refine ⟨by first|(simp (disch:=first|exact dq|fail) only [go_sem,↓reduceIte,d1,g1,a1,a2,a3,e2,e3,ldsQ_cons,ldsQ_nil,grdQ_cons,grdQ_nil,if_true,Nat.reduceLeDiff];done)|exact trivial,?_⟩
 subst hK
 have hsp:=@Nat.succ_ne_zero;repeat' (first|simp (disch:=first|exact dq|fail) only [go_sem,↓reduceIte,hsp]|refine WP_drw ?_|refine cnd_intro (fun hsp=>?_) fun hsp=>?_)
 exact ⟨(x0.trans x1).trans x3,_,rfl,o3.low (by have:=x2.len;omega)⟩
end F4
end Go.AM
namespace Go.AM
namespace F4
open Go.Proofs.Tryz
attribute [-go_sem] put_ne put_same
attribute [local go_sem ↓] put_if
theorem upto_one {p:Int→Bool} {n:Nat}:(upto (n+1)).filter p=(upto n).filter p++(if p (n:Int)=true then [(n:Int)] else []):=by
 rw [upto_succ,List.filter_append]
 congr 1
 simp only [List.filter_cons,List.filter_nil]
theorem upto_flen {p:Int→Bool} {n:Nat}:((upto n).filter p).length≤n:=by
 have:=(List.filter_sublist (p:=p) (l:=upto n)).length_le
 rwa [upto_len] at this
theorem run_sgt1 {base:Nat} {h:Heap} {x:Int} (hx:0≤x∧x≤2):callL prog raw base (.fn 172 [] []) [.int .i64 x] h=some (.bool true,h):=by
 have t1:(x ≥ 0)=True:=eq_true hx.1
 have t2:=decide_eq_true hx.2
 refine callL_run func172 rfl rfl ?_
 have hsp:=@Nat.succ_ne_zero;repeat' (first|simp (disch:=first|exact dq|fail) only [go_sem,↓reduceIte,hsp,t1,t2]|refine WP_drw ?_|refine cnd_intro (fun hsp=>?_) fun hsp=>?_)
 exact fB rfl
theorem sgt_at {H:Heap} {v:AVal} {S:List Int} (hS:Rows encI H v S) {k:Nat} (hk:k<S.length) :
  indexAddrA prog 105 v (.int .i64 (k:Int))=some (elAdr v encI.z k 0)∧loadP prog H 108 (elAdr v encI.z k 0)=some (.int .i64 (S.getD k 0)):=by
 have a1:=hS.addr (P:=prog) (i:=(k:Int)) Fc.el105 Fc.ar105 (by omega) (by omega)
 rw [Int.toNat_natCast] at a1
 exact ⟨a1,hS.cell (o:=0) Fc.ty108 (getD_some (d:=0) hk) rfl⟩
theorem sgt_len {H:Heap} {v:AVal} {S:List Int} (hS:Rows encI H v S):lenOpA prog H 105 v=some (.int .i64 (S.length:Int)):=hS.len Fc.el105
theorem run_cleared {base d:Nat} {h:Heap} {P:Pwr} {S:List Int} {sv:AVal} {s:Nat} (hD:DkAt h d P) (hS:Rows encI h sv S) (hk:S.length≤6) (hs:s<9) :
  callL prog raw base (.fn 104 [] []) [.ptr (some ⟨d,0,0⟩),sv,.int .i64 (s:Int)] h=some (.bool (clrB P S (s:Int)),h):=by
 obtain ⟨sv0,wv0,m,hd,_,_,hm⟩:=hD
 have so:=hS.one
 refine callL_run func104 rfl rfl ?_
 have hsp:=@Nat.succ_ne_zero;repeat' (first|simp (disch:=first|exact dq|fail) only [go_sem,↓reduceIte,hsp,sgt_len hS]|refine WP_drw ?_|refine cnd_intro (fun hsp=>?_) fun hsp=>?_)
 refine WP_loop (fun σ=>∃ n:Nat,σ.fr 11=.int .i64 (n:Int)∧σ.fr 0=.ptr (some ⟨d,0,0⟩)∧σ.fr 9=sv∧σ.fr 2=.int .i64 (s:Int)∧σ.fr 10=.int .i64 (S.length:Int)∧σ.h=h∧n≤S.length∧(∀ k,k<n→¬ (S.getD k 0=1∧drv P (s:Int) k=true))) (fun σ=>match σ.fr 11 with|.int _ x=>(((S.length:Nat):Int)-x).toNat|_=>0) ?_ ?_
 ·refine ⟨0,?_,?_,?_,?_,?_,?_,by omega,?_⟩
  iterate 6 focus (first|rfl|(simp (disch:=first|exact dq|fail) only [go_sem,↓reduceIte,Int.natCast_zero];first|done|rfl))
  intro k hk;omega
 ·rintro ⟨fr,hp⟩ ⟨n,r11,r0,r9,r2,r10,rh,hi,hP⟩
  dsimp only at r11 r0 r9 r2 r10 rh hi hP
  subst rh
  by_cases hn:n<S.length
  ·have hlt:((n:Int)<(S.length:Int))=True:=eq_true (by omega)
   obtain ⟨a1,a2⟩:=sgt_at hS hn
   have dl:=dkL (sv:=sv0) (wv:=wv0) (s:=s) (k:=n) hm.1 hs (by omega)
   rw [hm.2 s n hs (by omega)] at dl
   by_cases c1:S.getD n 0=1
   ·have t1:(S.getD n 0=1)=True:=eq_true c1
    cases c2:drv P (s:Int) n with
    | true =>
     rw [c2] at dl
     have r:clrB P S (s:Int)=true:=clrB_iff.2 ⟨n,hn,c1,c2⟩
     rw [r]
     have hsp:=@Nat.succ_ne_zero;repeat' (first|simp (disch:=first|exact dq|fail) only [go_sem,↓reduceIte,hsp,r11,r0,r9,r2,r10,hlt,a1,a2,t1,hd,dl]|refine WP_drw ?_|refine cnd_intro (fun hsp=>?_) fun hsp=>?_)
     all_goals (first|refine fI ?_|refine fB ?_|refine fII ?_ ?_|refine fBI ?_ ?_|refine fIII ?_ ?_ ?_|refine fIIB ?_ ?_ ?_|skip);all_goals (try dsimp only);all_goals (try with_reducible rfl);all_goals (try omega)
    | false =>
     rw [c2] at dl
     have hsp:=@Nat.succ_ne_zero;repeat' (first|simp (disch:=first|exact dq|fail) only [go_sem,↓reduceIte,hsp,r11,r0,r9,r2,r10,hlt,a1,a2,t1,hd,dl]|refine WP_drw ?_|refine cnd_intro (fun hsp=>?_) fun hsp=>?_)
     refine ⟨⟨n+1,by simp,by omega,fun k hk=>?_⟩,by omega⟩
     by_cases e:k=n
     ·rw [e,c2];simp
     ·exact hP k (by omega)
   ·have t1:(S.getD n 0=1)=False:=eq_false c1
    have hsp:=@Nat.succ_ne_zero;repeat' (first|simp (disch:=first|exact dq|fail) only [go_sem,↓reduceIte,hsp,r11,r0,r9,r2,r10,hlt,a1,a2,t1]|refine WP_drw ?_|refine cnd_intro (fun hsp=>?_) fun hsp=>?_)
    refine ⟨⟨n+1,by simp,by omega,fun k hk=>?_⟩,by omega⟩
    by_cases e:k=n
    ·rw [e];exact fun q=>c1 q.1
    ·exact hP k (by omega)
  ·have hlt:((n:Int)<(S.length:Int))=False:=eq_false (by omega)
   have r:clrB P S (s:Int)=false:=by
    cases c:clrB P S (s:Int) with
    | false=>rfl
    | true =>
     obtain ⟨k,k1,k2⟩:=clrB_iff.1 c
     exact absurd k2 (hP k (by omega))
   rw [r]
   have hsp:=@Nat.succ_ne_zero;repeat' (first|simp (disch:=first|exact dq|fail) only [go_sem,↓reduceIte,hsp,r11,r0,r9,r2,r10,hlt]|refine WP_drw ?_|refine cnd_intro (fun hsp=>?_) fun hsp=>?_)
   all_goals (first|refine fI ?_|refine fB ?_|refine fII ?_ ?_|refine fBI ?_ ?_|refine fIII ?_ ?_ ?_|refine fIIB ?_ ?_ ?_|skip);all_goals (try dsimp only);all_goals (try with_reducible rfl);all_goals (try omega)
theorem run_sighted {base:Nat} {h:Heap} {v sv:AVal} {P:Pwr} {S:List Int} (hb:base≤h.length) (hM:PwAt h v P) (hO:MOkS P S) (hS:Rows encI h sv S):Ret prog raw base (.fn 83 [] []) [v,sv] h (fun w H=>∃ d,w=.tuple [.ptr (some ⟨d,0,0⟩),.int .i64 0]∧h.length≤d∧Ext h H∧DkAt H d P):=by
 have ok:=hO.ok
 have hM0:=hM
 obtain ⟨pv,wv,rfl,hP,hW⟩:=hM
 have os:=hP.one
 have ow:=hW.one
 have oS:=hS.one
 have b2:=ok.k
 obtain ⟨G,eG⟩:∃ G,G=h++[pwB pv wv]:=⟨_,rfl⟩
 have x0:Ext h G:=by rw [eG];exact .app .refl
 have g0:G[h.length]?=some (pwB pv wv):=by rw [eG];exact get_eq rfl
 have lG:=x0.len
 obtain ⟨w,H1,e1,d,rfl,hd,x1,hD⟩:=run_popened (base:=base) (h:=G) (by omega) (hM0.ext x0) ok
 have g1:=x1.get g0
 have n1:=sgt_len (hS.ext (x0.trans x1))
 have n2:=(hW.ext (x0.trans x1)).len
 have t1:((S.length:Int) ≠ (P.K.length:Int))=False:=eq_false (by have:=hO.len;omega)
 have t2:((S.length:Int)=(P.K.length:Int))=True:=eq_true (by have:=hO.len;omega)
 have e2:=fun base=>every_PK (base:=base) (g:=.fn 172 [] []) (fun _=>true) (hS.ext (x0.trans x1)) (fun base T x hx=>run_sgt1 (hO.val x hx)) ⟨rfl,rfl,rfl⟩
 rw [all_T] at e2
 unfold pwB at eG g0 g1
 refine ret_raw func83 rfl (by kernel_rfl) ?_
 have hsp:=@Nat.succ_ne_zero;repeat' (first|simp (disch:=first|exact dq|fail) only [go_sem,↓reduceIte,hsp,← eG,g0,e1,g1,n1,n2,t1,t2,e2]|refine WP_drw ?_|refine cnd_intro (fun hsp=>?_) fun hsp=>?_)
 exact ⟨d,rfl,by omega,x0.trans x1,hD⟩
set_option maxHeartbeats 1000000 in
theorem run_Cleared {base:Nat} {h:Heap} {v sv:AVal} {P:Pwr} {S:List Int} (hb:base≤h.length) (hM:PwAt h v P) (hO:MOkS P S) (hS:Rows encI h sv S):Ret prog raw base (.fn 37 [] []) [v,sv] h (fun w H=>Ext h H∧∃ x,w=.tuple [x,.int .i64 0]∧Own encI 3 h.length H x (clrL P S)):=by
 have ok:=hO.ok
 have hM0:=hM
 obtain ⟨pv,wv,rfl,hP,hW⟩:=hM
 have os:=hP.one
 have ow:=hW.one
 have oS:=hS.one
 have b1:=ok.n
 have b2:=ok.k
 have b3:=hO.len
 obtain ⟨G,eG⟩:∃ G,G=h++[pwB pv wv]:=⟨_,rfl⟩
 have x0:Ext h G:=by rw [eG];exact .app .refl
 have g0:G[h.length]?=some (pwB pv wv):=by rw [eG];exact get_eq rfl
 have lG:=x0.len
 obtain ⟨w,H1,e1,d,rfl,hd,x1,hD⟩:=run_sighted (base:=base) (h:=G) (by omega) (hM0.ext x0) hO (hS.ext x0)
 have xh:=x0.trans x1
 have lH1:=xh.len
 have g1:=x1.get g0
 have n1:=(hP.ext xh).len
 unfold pwB at eG g0 g1
 refine ret_raw func37 rfl (by kernel_rfl) ?_
 have hsp:=@Nat.succ_ne_zero;repeat' (first|simp (disch:=first|exact dq|fail) only [go_sem,↓reduceIte,hsp,← eG,g0,e1,g1,n1]|refine WP_drw ?_|refine cnd_intro (fun hsp=>?_) fun hsp=>?_)
 refine WP_count [(8,9),(22,33)] 0 P.U.length (Nat.zero_le _) (fun _ i fr h'=>fr 22=.int .i64 (i:Int)∧Ext H1 h'∧∃ v,fr 8=v∧Own encI 3 H1.length h' v ((upto i).filter (clrB P S))) ?_ ?_ ?_
 ·exact ⟨by (simp (disch:=first|exact dq|fail) only [go_sem,↓reduceIte,Int.natCast_zero];first|done|rfl),.refl,.slice none 0 0,by simp (disch:=first|exact dq|fail) only [go_sem,↓reduceIte],Own.nil⟩
 ·rintro i fr H hi0 hi hA ⟨r22,xH,v,r8,hV⟩
  have p1:=hA 1 rfl
  have p4:=hA 4 rfl
  have p5:=hA 5 rfl
  have p6:=hA 6 rfl
  have p21:=hA 21 rfl
  try simp (disch:=first|exact dq|fail) only [go_sem,↓reduceIte] at p1 p4 p5 p6 p21
  have hlt:((i:Int)<(P.U.length:Int))=True:=eq_true (by omega)
  have lH:=xH.len
  have e2:=fun base=>run_cleared (base:=base) (s:=i) (hD.ext xH) (hS.ext (xh.trans xH)) (by omega) (by omega)
  have hll:=upto_flen (p:=clrB P S) (n:=i)
  cases c:clrB P S (i:Int) with
  | true =>
   rw [c] at e2
   obtain ⟨v',h',ea,hO',hle,hE,h1'⟩:=hV.append1 (y:=(i:Int)) (base:=base) (t:=35) rfl rfl Fc.el35 encI_sc (by omega) (by omega) (by omega)
   have hsp:=@Nat.succ_ne_zero;repeat' (first|simp (disch:=first|exact dq|fail) only [go_sem,↓reduceIte,hsp,r22,r8,p1,p4,p5,p6,p21,hlt,e2,ea]|refine WP_drw ?_|refine cnd_intro (fun hsp=>?_) fun hsp=>?_)
   refine ⟨agq,by omega,hE H1 (Nat.le_refl _) xH,v',rfl,?_⟩
   rw [upto_one,if_pos c];exact hO'
  | false =>
   rw [c] at e2
   have hsp:=@Nat.succ_ne_zero;repeat' (first|simp (disch:=first|exact dq|fail) only [go_sem,↓reduceIte,hsp,r22,r8,p1,p4,p5,p6,p21,hlt,e2]|refine WP_drw ?_|refine cnd_intro (fun hsp=>?_) fun hsp=>?_)
   refine ⟨agq,by omega,xH,v,rfl,?_⟩
   rw [upto_one,if_neg (by rw [c];simp),List.append_nil];exact hV
 ·rintro fr H hA ⟨r22,xH,v,r8,hV⟩
  have p1:=hA 1 rfl
  have p4:=hA 4 rfl
  have p5:=hA 5 rfl
  have p6:=hA 6 rfl
  have p21:=hA 21 rfl
  try simp (disch:=first|exact dq|fail) only [go_sem,↓reduceIte] at p1 p4 p5 p6 p21
  have hlt:((P.U.length:Int)<(P.U.length:Int))=False:=eq_false (by omega)
  have hsp:=@Nat.succ_ne_zero;repeat' (first|simp (disch:=first|exact dq|fail) only [go_sem,↓reduceIte,hsp,r22,r8,p1,p4,p5,p6,p21,hlt]|refine WP_drw ?_|refine cnd_intro (fun hsp=>?_) fun hsp=>?_)
  exact ⟨xh.trans xH,v,rfl,hV.low (by omega)⟩
end F4
end Go.AM
