/-
  Plain: where breaks last, which parts must break, what clashes: the program's answers are the reference's.
-/
import Derived.Test.YtlhmeoeamcgcmaaGreatE71
import Derived.Test.YtlhmeoeamcgcmaaGreatE66
set_option linter.unusedSimpArgs false
set_option linter.unusedVariables false
namespace Go.AM
open Go.Proofs.Tryz
/-- The answers where there is none. -/
theorem tol_bad {L : Lom} (hc : chkM L ≠ 0) (b : Bool) : tolE L b = chkM L := by unfold tolE; rw [if_pos hc]
theorem small_of {l : List Int} {n : Nat} (h : l.Sublist (upto n)) (hn : n ≤ 1000) : Small l := by
  have := h.length_le
  rw [upto_len] at this
  exact ⟨by omega, fun x hx => by have := upto_mem.1 (h.subset hx); omega⟩
end Go.AM
