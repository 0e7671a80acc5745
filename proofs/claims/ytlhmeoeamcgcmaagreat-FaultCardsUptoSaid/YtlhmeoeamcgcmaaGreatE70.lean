/-
  Contracts: which parts must break, what clashes, as the reference says it.
-/
import Derived.Test.YtlhmeoeamcgcmaaGreatE69
set_option linter.unusedSimpArgs false
set_option linter.unusedVariables false
namespace Go.AM
open Go.Proofs.Tryz
attribute [-go_sem] put_ne put_same
attribute [local go_sem ↓] put_if
/-! ### Must -/
def mstR (ts : List (List Brk)) (n : Nat) : List Int := (upto n).filter fun p => ts.all fun t => t.any fun b => decide (b.1 = p)
/-! ### Lists of lists of numbers -/
/-- Lists of numbers in a list of one's own. -/
def AllI (b : Nat) (H : Heap) (v : AVal) (ts : List (List Int)) : Prop := ∃ vs : List AVal, Own encZ 36 b H v vs ∧ vs.length = ts.length ∧ ∀ (i : Nat) x t, vs[i]? = some x → ts[i]? = some t → OwnE encI 3 0 H x t
section
variable {b : Nat} {H H' : Heap} {v : AVal} {ts : List (List Int)}
end
end Go.AM
