/-
  Plain: where breaks last, which parts must break, what clashes: the program's answers are the reference's.
-/
import Derived.Test.YtlhmeoeamcgcmaaGreatE71
import Derived.Test.YtlhmeoeamcgcmaaGreatE64
set_option linter.unusedSimpArgs false
set_option linter.unusedVariables false
namespace Go.AM
open Go.Proofs.Tryz
theorem selN_upto {p:Nat→Bool}:∀ n,selN p (fun k=>(k:Int)) n=(upto n).filter fun x=>p x.toNat
 | 0=>rfl
 | n+1=>by
  rw [selN,selN_upto n,upto_succ,List.filter_append]
  congr 1
  simp only [List.filter_cons,List.filter_nil,Int.toNat_natCast]
theorem mstM_sorted {L:Lom}:(mstM L).1.Pairwise (·<·):=by
 unfold mstM
 split
 ·exact .nil
 ·rw [selN_upto];exact (upto_sorted _).filter _
theorem sryM_sorted {L:Lom} {k:Int}:(sryM L k).1.Pairwise (·<·):=by
 unfold sryM
 split
 ·exact .nil
 ·rw [selN_upto];exact (upto_sorted _).filter _
theorem canM_sorted {L:Lom} {k:Int}:(canM L k).1.Pairwise (·<·):=by
 unfold canM
 split
 ·exact .nil
 ·exact (upto_sorted _).filter _
theorem mstR_eq {L:Lom} (hc:chkM L=0) {t:List Brk} (ht:XpA L t):mstR (trsR L) L.ps.length=(mstM L).1:=by
 refine pair_ext ((upto_sorted _).filter _) mstM_sorted fun x=>?_
 rw [(mstM_mem hc ht).2]
 unfold mstR
 rw [List.mem_filter,upto_mem,List.all_eq_true]
 refine and_congr_right fun _=>?_
 constructor
 ·intro h u hu
  obtain ⟨b,hb,e⟩:=List.any_eq_true.1 (h u ((trsR_mem hc).2 hu))
  exact ⟨b,hb,of_decide_eq_true e⟩
 ·intro h u hu
  obtain ⟨b,hb,e⟩:=h u ((trsR_mem hc).1 hu)
  exact List.any_eq_true.2 ⟨b,hb,decide_eq_true e⟩
theorem sryR_eq {L:Lom} (hc:chkM L=0) {t:List Brk} (ht:XpA L t) {k:Int} (hk:0≤k∧k<(L.ps.length:Int)):sryR (trsR L) k L.T.toNat=(sryM L k).1:=by
 have hT:=(chkM_ok hc).2.1
 refine pair_ext ((upto_sorted _).filter _) sryM_sorted fun x=>?_
 rw [(sryM_mem hc ht hk).2]
 unfold sryR
 rw [List.mem_filter,upto_mem,List.all_eq_true]
 refine and_congr (by omega) ?_
 constructor
 ·exact fun h u hu=>lstB_iff.1 (h u ((trsR_mem hc).2 hu))
 ·exact fun h u hu=>lstB_iff.2 (h u ((trsR_mem hc).1 hu))
theorem canR_eq {L:Lom} (hc:chkM L=0) {t:List Brk} (ht:XpA L t) {k:Int} (hk:0≤k∧k<(L.ps.length:Int)):canR (trsR L) k L.T.toNat=(canM L k).1:=by
 have hT:=(chkM_ok hc).2.1
 refine pair_ext ((upto_sorted _).filter _) canM_sorted fun x=>?_
 rw [(canM_mem hc ht hk).2]
 unfold canR
 rw [List.mem_filter,upto_mem,List.any_eq_true]
 refine and_congr (by omega) ?_
 constructor
 ·rintro ⟨u,hu,h⟩;exact ⟨u,(trsR_mem hc).1 hu,lstB_iff.1 h⟩
 ·rintro ⟨u,hu,h⟩;exact ⟨u,(trsR_mem hc).2 hu,lstB_iff.2 h⟩
theorem unxR_clash {L:Lom} (hc:chkM L=0) {x:List Int} (hx:x.Sublist (allI L)):unxR ((allR L.T.toNat 0 L.ps.length).map fun t=>(lftM L t).1) x=clsP L x:=by
 rw [Bool.eq_iff_iff,clsP_iff hc hx]
 have key:∀ t,truOk L t→((x.all fun k=>!decide (k ∈ (lftM L t).1))=true ↔ Xp L x t):=fun t ht=>by
  have e:(lftM L t).1=lftN (spoS L t t.length) L.ss L.ss.length:=by
   unfold lftM
   rw [if_neg (by simp [hc]),if_neg (by simp [truM_iff.2 ht])]
  rw [e,List.all_eq_true]
  unfold Xp
  constructor
  ·intro h
   refine ⟨ht,fun i hi=>?_⟩
   have:=h i hi
   simp only [Bool.not_eq_true',decide_eq_false_iff_not,lftN_mem ht] at this
   exact Classical.not_not.1 fun q=>this ⟨allI_ok i (hx.subset hi),q⟩
  ·rintro ⟨_,h⟩ i hi
   simp only [Bool.not_eq_true',decide_eq_false_iff_not,lftN_mem ht]
   exact fun q=>q.2 (h i hi)
 unfold unxR
 rw [Bool.not_eq_true',← Bool.not_eq_true,not_congr]
 rw [List.any_eq_true]
 constructor
 ·rintro ⟨l,hl,h⟩
  obtain ⟨t,ht,rfl⟩:=List.mem_map.1 hl
  exact ⟨t,(key t ((allR_ok hc).1 ht)).1 h⟩
 ·rintro ⟨t,ht⟩
  exact ⟨_,List.mem_map.2 ⟨t,(allR_ok hc).2 ht.1,rfl⟩,(key t ht.1).2 ht⟩
theorem clsR_eq {L:Lom} (hc:chkM L=0) (hn:¬ ∃ t,XpA L t):(clsB ((allR L.T.toNat 0 L.ps.length).map fun t=>(lftM L t).1) L.ss.length (2 ^ L.ss.length-1)).getD []=(clsM L).1:=by
 obtain ⟨a1,a2,a3,a4⟩:=clsM_least hc hn
 have hnil:∃ t,Xp L [] t:=⟨[],⟨.nil,fun b hb=>by cases hb⟩,fun i hi=>by cases hi⟩
 have hne:(clsM L).1 ≠ []:=fun e=>a3 (by rw [e];exact hnil)
 have hp:unxR ((allR L.T.toNat 0 L.ps.length).map fun t=>(lftM L t).1) (clsM L).1=true:=by rw [unxR_clash hc a2,clsP_iff hc a2];exact a3
 obtain ⟨h1,h2,_⟩:=pickO_fold (better:=btL) btL_irr btL_trans (p:=unxR ((allR L.T.toNat 0 L.ps.length).map fun t=>(lftM L t).1)) (xs:=setsR L.ss.length (2 ^ L.ss.length-1)) (b0:=none)
 obtain ⟨y,e1,e2⟩:=h1 _ (setsR_all.2 ⟨a2,hne⟩) hp
 unfold clsB
 rw [e1]
 show y=_
 rcases h2 y e1 with q|⟨q1,q2⟩
 ·cases q
 ·obtain ⟨s1,s2⟩:=setsR_all.1 q1
  rw [unxR_clash hc s1] at q2
  have hle:(clsM L).1.length≤y.length:=Nat.le_of_not_lt fun q=>(clsP_iff hc s1).1 q2 (a4 y s1 q)
  unfold btL at e2
  simp only [Bool.or_eq_false_iff,decide_eq_false_iff_not,Bool.and_eq_false_iff] at e2
  have hl:y.length=(clsM L).1.length:=by omega
  have hcx:clsF L L.ss.length 0 none=some (clsM L).1:=by
   have e0:=tolE_no hc hn (b:=false)
   have hne0:0<(clsM L).1.length:=List.length_pos_iff.2 hne
   have:=a2.length_le
   rw [upto_len] at this
   obtain ⟨x,g1,_⟩:=clsF_best (L:=L) (k:=L.ss.length) (m:=0) (o:=none) ⟨(clsM L).1,a2,(clsP_iff hc a2).2 a3,hne0,by omega⟩
   have e1:clsM L=(x,0):=by
    unfold clsM
    rw [if_neg (by rw [e0];simp),if_pos (by rw [e0];simp),g1]
    rfl
   rw [g1,e1]
  have hy0:0<y.length:=List.length_pos_iff.2 s2
  have hyl:=s1.length_le
  rw [upto_len] at hyl
  rcases clsF_lex hcx ⟨y,s1,q2,hy0,by omega⟩ s1 q2 hy0 hl with q|q
  ·exact q
  ·rcases e2.2 with q3|q3
   ·exact absurd hl.symm q3
   ·rw [q3] at q;cases q
theorem tol_bad {L:Lom} (hc:chkM L ≠ 0) (b:Bool):tolE L b=chkM L:=by unfold tolE;rw [if_pos hc]
theorem lasts_bad {L:Lom} (hc:chkM L ≠ 0) (k:Int):canM L k=([],chkM L)∧sryM L k=([],chkM L)∧mstM L=([],chkM L)∧clsM L=([],chkM L):=by
 have:=chkM_le (L:=L)
 refine ⟨?_,?_,?_,?_⟩
 ·unfold canM;rw [tol_bad hc,if_pos hc]
 ·unfold sryM;rw [tol_bad hc,if_pos hc]
 ·unfold mstM;rw [tol_bad hc,if_pos hc]
 ·unfold clsM;rw [tol_bad hc,if_neg hc,if_neg (by omega)]
theorem lasts_out {L:Lom} (hc:chkM L=0) {k:Int} (hk:¬ (0≤k∧k<(L.ps.length:Int))):canM L k=([],1)∧sryM L k=([],1):=by
 have hp:prtB L k=true:=by cases h:prtB L k with|true=>rfl|false=>exact absurd (prtB_iff.1 h) hk
 have e:tolE L true=1:=by unfold tolE;rw [if_neg (by simp [hc]),if_pos rfl]
 constructor
 ·unfold canM;rw [hp,e];rfl
 ·unfold sryM;rw [hp,e];rfl
theorem lasts_none {L:Lom} (hc:chkM L=0) (hn:trsR L=[]) {k:Int} (hk:0≤k∧k<(L.ps.length:Int)):canM L k=([],7)∧sryM L k=([],7):=by
 have e:=none_of hc hn
 constructor
 ·unfold canM;rw [prtB_iff.2 hk,e];rfl
 ·unfold sryM;rw [prtB_iff.2 hk,e];rfl
theorem can_sry {L:Lom} {k:Int}:(sryM L k).2=(canM L k).2:=by
 unfold sryM canM
 split<;>rfl
theorem small_of {l:List Int} {n:Nat} (h:l.Sublist (upto n)) (hn:n≤1000):Small l:=by
 have:=h.length_le
 rw [upto_len] at this
 exact ⟨by omega,fun x hx=>by have:=upto_mem.1 (h.subset hx);omega⟩
theorem tol_ok {L:Lom} {b:Bool} (h:tolE L b=0):chkM L=0:=Classical.byContradiction fun q=>by rw [tol_bad q] at h;exact q h
theorem lasts_small {L:Lom} {k:Int}:Small (canM L k).1∧Small (sryM L k).1∧Small (mstM L).1∧Small (clsM L).1:=by
 have h0:Small []:=⟨by simp,by simp⟩
 refine ⟨?_,?_,?_,?_⟩
 ·unfold canM
  split
  ·exact h0
  ·rename_i c
   have:=(chkM_ok (tol_ok (Classical.not_not.1 c))).2.1
   exact small_of List.filter_sublist (by omega)
 ·unfold sryM
  split
  ·exact h0
  ·rename_i c
   have:=(chkM_ok (tol_ok (Classical.not_not.1 c))).2.1
   simp only [selN_upto]
   exact small_of List.filter_sublist (by omega)
 ·unfold mstM
  split
  ·exact h0
  ·rename_i c
   have:=(chkM_ok (tol_ok (Classical.not_not.1 c))).2.2.1
   simp only [selN_upto]
   exact small_of List.filter_sublist (by omega)
 ·by_cases hc:chkM L=0
  ·have:=(chkM_ok hc).2.2.2.1
   by_cases hn:∃ t,XpA L t
   ·obtain ⟨t,ht⟩:=hn
    rw [clsM_none hc ht];exact h0
   ·exact small_of (clsM_least hc hn).2.1 (by omega)
  ·rw [(lasts_bad hc k).2.2.2];exact h0
theorem must_none {L:Lom} (hc:chkM L=0) (hn:trsR L=[]):mstM L=([],7):=by unfold mstM;rw [none_of hc hn];rfl
end Go.AM
