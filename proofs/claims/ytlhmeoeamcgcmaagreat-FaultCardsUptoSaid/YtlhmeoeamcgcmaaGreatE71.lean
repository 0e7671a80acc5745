/-
  Contracts: as few sights as can be that clash, as the reference says it.
-/
import Derived.Test.YtlhmeoeamcgcmaaGreatE70
set_option linter.unusedSimpArgs false
set_option linter.unusedVariables false
namespace Go.AM
open Go.Proofs.Tryz
attribute [-go_sem] put_ne put_same
attribute [local go_sem ↓] put_if
/-- Sights that none of some lists leaves alone. -/
def unxR (ls : List (List Int)) (x : List Int) : Bool := !ls.any fun l => x.all fun k => !decide (k ∈ l)
def clsB (ls : List (List Int)) (n j : Nat) : Option (List Int) := (setsR n j).foldl (pickO btL (unxR ls)) none
end Go.AM
