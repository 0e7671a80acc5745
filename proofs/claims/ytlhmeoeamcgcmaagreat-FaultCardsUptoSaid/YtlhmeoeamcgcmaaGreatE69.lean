/-
  Contracts: sets of sights by bits, the first one of two lists; where breaks last, and which parts must break, as the reference says it.
-/
import Derived.Test.YtlhmeoeamcgcmaaGreatE67
import Derived.Test.YtlhmeoeamcgcmaaGreatW7
import Derived.Test.YtlhmeoeamcgcmaaGreatK7
set_option linter.unusedSimpArgs false
set_option linter.unusedVariables false
namespace Go.AM
open Go.Proofs.Tryz
attribute [-go_sem] put_ne put_same
attribute [local go_sem ↓] put_if
/-! ### Lasts -/
/-! ### Lasting -/
def canR (ts : List (List Brk)) (k : Int) (n : Nat) : List Int := (upto n).filter fun x => ts.any fun t => lstB t k x
def sryR (ts : List (List Brk)) (k : Int) (n : Nat) : List Int := (upto n).filter fun x => ts.all fun t => lstB t k x
end Go.AM
