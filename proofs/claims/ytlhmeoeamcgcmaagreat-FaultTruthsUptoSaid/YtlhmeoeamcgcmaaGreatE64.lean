/-
  Contracts: the sights that are the weaver's in all truths, as the reference says it.
-/
import Derived.Test.YtlhmeoeamcgcmaaGreatE63
set_option linter.unusedSimpArgs false
set_option linter.unusedVariables false
namespace Go.AM
open Go.Proofs.Tryz
attribute [-go_sem] put_ne put_same
attribute [local go_sem ↓] put_if
def wvsB (L : Lom) (ts : List (List Brk)) (s : Sgt) : Bool := s.bad && ts.all fun t => wvB L t s
def wvsR (L : Lom) (ts : List (List Brk)) (n : Nat) : List Int := (upto n).filter fun i => wvsB L ts (L.ss.getD i.toNat sgt0)
end Go.AM
