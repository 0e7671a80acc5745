/-
  FaultSpots, walked.
-/
import Derived.Test.YtlhmeoeamcgcmaaGreatE58
import Derived.Test.YtlhmeoeamcgcmaaGreatE55
import Derived.Test.YtlhmeoeamcgcmaaGreatE44
import Derived.Test.YtlhmeoeamcgcmaaGreatG5
import Derived.Test.YtlhmeoeamcgcmaaGreatK8
set_option linter.unusedSimpArgs false
set_option linter.unusedVariables false
namespace Go.AM
open Go.Proofs.Tryz
attribute [-go_sem] put_ne put_same
attribute [local go_sem ↓] put_if
/-! ### Spots in a list -/
abbrev Spt := Int × Int
def eqS (x y : Spt) : Bool := decide (x.1 = y.1 ∧ x.2 = y.2)
/-! ### Plain: the spots of a break -/
def spLt (x y : Spt) : Prop := x.1 < y.1 ∨ (x.1 = y.1 ∧ x.2 < y.2)
/-! ### Three throws in order -/
end Go.AM
