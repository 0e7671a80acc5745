/-
  Plain: where breaks last, which parts must break, what clashes: the program's answers are the reference's.
-/
import Derived.Test.YtlhmeoeamcgcmaaGreatE71
import Derived.Test.YtlhmeoeamcgcmaaGreatE64
set_option linter.unusedSimpArgs false
set_option linter.unusedVariables false
namespace Go.AM
open Go.Proofs.Tryz
theorem selN_upto {p : Nat → Bool} : ∀ n, selN p (fun k => (k : Int)) n = (upto n).filter fun x => p x.toNat
  | 0 => rfl
  | n + 1 => by
    rw [selN, selN_upto n, upto_succ, List.filter_append]
    congr 1
    simp only [List.filter_cons, List.filter_nil, Int.toNat_natCast]
/-- The answers where there is none. -/
theorem tol_bad {L : Lom} (hc : chkM L ≠ 0) (b : Bool) : tolE L b = chkM L := by unfold tolE; rw [if_pos hc]
theorem lasts_bad {L : Lom} (hc : chkM L ≠ 0) (k : Int) : canM L k = ([], chkM L) ∧ sryM L k = ([], chkM L) ∧ mstM L = ([], chkM L) ∧ clsM L = ([], chkM L) := by
  have := chkM_le (L := L)
  refine ⟨?_, ?_, ?_, ?_⟩
  · unfold canM; rw [tol_bad hc, if_pos hc]
  · unfold sryM; rw [tol_bad hc, if_pos hc]
  · unfold mstM; rw [tol_bad hc, if_pos hc]
  · unfold clsM; rw [tol_bad hc, if_neg hc, if_neg (by omega)]
theorem small_of {l : List Int} {n : Nat} (h : l.Sublist (upto n)) (hn : n ≤ 1000) : Small l := by
  have := h.length_le
  rw [upto_len] at this
  exact ⟨by omega, fun x hx => by have := upto_mem.1 (h.subset hx); omega⟩
theorem tol_ok {L : Lom} {b : Bool} (h : tolE L b = 0) : chkM L = 0 := Classical.byContradiction fun q => by rw [tol_bad q] at h; exact q h
theorem lasts_small {L : Lom} {k : Int} : Small (canM L k).1 ∧ Small (sryM L k).1 ∧ Small (mstM L).1 ∧ Small (clsM L).1 := by
  have h0 : Small [] := ⟨by simp, by simp⟩
  refine ⟨?_, ?_, ?_, ?_⟩
  · unfold canM
    split
    · exact h0
    · rename_i c
      have := (chkM_ok (tol_ok (Classical.not_not.1 c))).2.1
      exact small_of List.filter_sublist (by omega)
  · unfold sryM
    split
    · exact h0
    · rename_i c
      have := (chkM_ok (tol_ok (Classical.not_not.1 c))).2.1
      simp only [selN_upto]
      exact small_of List.filter_sublist (by omega)
  · unfold mstM
    split
    · exact h0
    · rename_i c
      have := (chkM_ok (tol_ok (Classical.not_not.1 c))).2.2.1
      simp only [selN_upto]
      exact small_of List.filter_sublist (by omega)
  · by_cases hc : chkM L = 0
    · have := (chkM_ok hc).2.2.2.1
      by_cases hn : ∃ t, XpA L t
      · obtain ⟨t, ht⟩ := hn
        rw [clsM_none hc ht]; exact h0
      · exact small_of (clsM_least hc hn).2.1 (by omega)
    · rw [(lasts_bad hc k).2.2.2]; exact h0
end Go.AM
