/-
  Plain: the weaver's sights, as the reference says them.
-/
import Derived.Test.YtlhmeoeamcgcmaaGreatE65
set_option linter.unusedSimpArgs false
set_option linter.unusedVariables false
namespace Go.AM
/-- The error of Other, as the reference says it. -/
def othR (L : Lom) (i : Int) : Int := if ¬ (0 ≤ i ∧ i < (L.ss.length : Int)) then 1 else if badI L i = false then 8 else if (wvrM L).2 ≠ 0 then (wvrM L).2 else if i ∈ (wvrM L).1 then 6 else 0
end Go.AM
