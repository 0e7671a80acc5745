/-
  FaultNamed: helpers.
-/
import Derived.Test.YtlhmeoeamcgcmaaGreatKN
import Derived.Test.YtlhmeoeamcgcmaaGreatE80
import Derived.Test.YtlhmeoeamcgcmaaGreatE64
import Derived.Test.YtlhmeoeamcgcmaaGreatE72
import Derived.Test.YtlhmeoeamcgcmaaGreatE81
import Derived.Test.YtlhmeoeamcgcmaaGreatW8
set_option linter.unusedSimpArgs false
set_option linter.unusedVariables false
namespace Go.AM
open Go.Proofs.Tryz
attribute [-go_sem] put_ne put_same
attribute [local go_sem ↓] put_if
/-! ### Orders as maps -/
/-- Ribbons with other numbers, sorted. -/
def rnR (ro rib : List Int) : List Int := srtL (rib.map fun r => ro.getD r.toNat 0)
def rnP (ro : List Int) (p : Prt) : Prt := ⟨rnR ro p.rib, p.each, p.ph, p.wv⟩
def rnS (ro : List Int) (s : Sgt) : Sgt := ⟨ro.getD s.rib.toNat 0, s.lo, s.hi, s.bad⟩
theorem SpE.old' {H h' : Heap} {v : AVal} {silk : List Int} {k0 k : Nat} (x : SpE (H ++ [spB v silk k0]) H.length v silk k h') : Ext H h' := by
  unfold SpE at x
  rw [List.set_append_right _ _ (Nat.le_refl _)] at x
  exact (Ext.app .refl).trans x
end Go.AM
/-
  FaultNamed, walked.
-/
namespace Go.AM
open Go.Proofs.Tryz
attribute [-go_sem] put_ne put_same
attribute [local go_sem ↓] put_if
end Go.AM
