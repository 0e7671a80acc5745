/-
  What a weaver pays; plain: the truths that the reference lists.
-/
import Derived.Test.YtlhmeoeamcgcmaaGreatE64
set_option linter.unusedSimpArgs false
set_option linter.unusedVariables false
namespace Go.AM
open Go.Proofs.Tryz
attribute [-go_sem] put_ne put_same
attribute [local go_sem ↓] put_if
/-! ### How many truths there are -/
/-! ### The truths -/
def trsR (L : Lom) : List (List Brk) := (allR L.T.toNat 0 L.ps.length).filter (xplM L)
/-! ### Fine -/
def finM (L : Lom) (p : Int) : Int × Int := if chkM L ≠ 0 then (0, chkM L) else if ¬ (0 ≤ p ∧ p ≤ 1000) then (0, 3) else if (wvrM L).2 ≠ 0 then (0, (wvrM L).2) else (p * ((wvrM L).1.length : Int), 0)
end Go.AM
