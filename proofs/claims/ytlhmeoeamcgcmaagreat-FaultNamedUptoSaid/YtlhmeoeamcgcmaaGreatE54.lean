/-
  Contracts: the reference's parts at work; what a break spoils.
-/
import Derived.Test.YtlhmeoeamcgcmaaGreatE53
set_option linter.unusedSimpArgs false
set_option linter.unusedVariables false
namespace Go.AM
open Go.Proofs.Tryz
attribute [-go_sem] put_ne put_same
attribute [local go_sem ↓] put_if
/-- Does a part work at a spot? -/
def wks (p : Prt) (x : Int × Int) : Bool := decide (x.2.tmod p.each = p.ph ∧ x.1 ∈ p.rib)
/-- Does a break spoil a spot? -/
def splR (L : Lom) (b : Int × Int × Int) (x : Int × Int) : Bool := decide (b.2.1 ≤ x.2 ∧ x.2 ≤ b.2.2) && wks (L.ps.getD b.1.toNat prt0) x
end Go.AM
