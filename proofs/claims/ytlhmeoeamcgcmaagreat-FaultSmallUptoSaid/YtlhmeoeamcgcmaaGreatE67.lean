/-
  Looms that are not too wide.
-/
import Derived.Test.YtlhmeoeamcgcmaaGreatE64
import Derived.Test.YtlhmeoeamcgcmaaGreatB8
set_option linter.unusedSimpArgs false
set_option linter.unusedVariables false
namespace Go.AM
open Go.Proofs.Tryz
attribute [-go_sem] put_ne put_same
attribute [local go_sem ↓] put_if
theorem rib_rng {h:Heap} {pv:AVal} {ps:List Prt} (hP:Parts h pv ps):∀ p ∈ ps,∀ x ∈ p.rib,-9223372036854775808≤x∧x<9223372036854775808:=fun p hp=>by
 obtain ⟨i,hi,rfl⟩:=List.getElem_of_mem hp
 obtain ⟨_,_,_,_,_,hI,_⟩:=hP.at (List.getElem?_eq_getElem hi)
 exact hI.1.2
theorem grtM_no {L:Lom} (h:grtM L=false):L.ps.length≤9∧L.ss.length≤14∧∀ p ∈ L.ps,p.rib.length≤9:=by
 unfold grtM rbs at h
 simp only [Bool.or_eq_false_iff,decide_eq_false_iff_not,List.any_eq_false,decide_eq_true_eq] at h
 exact ⟨by omega,by omega,fun p hp=>by have:=h.2 p hp;omega⟩
theorem lomOk_small {L:Lom} (h:grtM L=false) (hs:∀ p ∈ L.ps,Small p.rib):LomOk L:=by
 obtain ⟨h1,h2,h3⟩:=grtM_no h
 exact ⟨hs,by omega,by omega,fun p _=>Int.le_refl _,fun p hp=>by have:=h3 p hp;omega⟩
theorem wideM_no {L:Lom} (h:wideM L=false):grtM L=false∧(chkM L=0→(allR L.T.toNat 0 L.ps.length).length≤3000):=by
 unfold wideM at h
 split at h
 ·rename_i q
  refine ⟨h,fun hc=>?_⟩
  obtain ⟨k1,k2,k3,k4,_⟩:=chkM_ok hc
  rcases q with q|q|q|q|q
  ·rw [h] at q;cases q
  all_goals omega
 ·rename_i q
  refine ⟨by cases hg:grtM L with|false=>rfl|true=>exact absurd (.inl hg) q,fun hc=>?_⟩
  have h2:=of_decide_eq_false h
  obtain ⟨k1,k2,_⟩:=chkM_ok hc
  rw [waysN_nat (show L.T=(L.T.toNat:Int) by omega) L.ps.length 0] at h2
  omega
end Go.AM
