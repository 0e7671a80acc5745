/-
  Contracts: all truths listed; those that explain a loom.
-/
import Derived.Test.YtlhmeoeamcgcmaaGreatE58
set_option linter.unusedSimpArgs false
set_option linter.unusedVariables false
namespace Go.AM
open Go.Proofs.Tryz
attribute [-go_sem] put_ne put_same
attribute [local go_sem ↓] put_if
end Go.AM
/-
  Contracts: the truths that explain a loom; looms of too many truths.
-/
namespace Go.AM
open Go.Proofs.Tryz
attribute [-go_sem] put_ne put_same
attribute [local go_sem ↓] put_if
/-! ### Too many truths -/
def waysN (L : Lom) (i : Nat) : Int := ((L.T * (L.T + 1)).tdiv 2 + 1) ^ i
def wideM (L : Lom) : Bool := if grtM L = true ∨ 12 < L.T ∨ L.T < 1 ∨ 6 < L.ps.length ∨ 10 < L.ss.length then grtM L else decide (3000 < waysN L L.ps.length)
end Go.AM
/-
  Contracts: the reference's weavers.
-/
namespace Go.AM
open Go.Proofs.Tryz
attribute [-go_sem] put_ne put_same
attribute [local go_sem ↓] put_if
end Go.AM
