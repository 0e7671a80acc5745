/-
  FaultSpots, walked.
-/
import Derived.Test.YtlhmeoeamcgcmaaGreatE80
set_option linter.unusedSimpArgs false
set_option linter.unusedVariables false
namespace Go.AM
open Go.Proofs.Tryz
attribute [-go_sem] put_ne put_same
attribute [local go_sem ↓] put_if
theorem cvU {n : Int} (h : 0 ≤ n ∧ n ≤ 255) : convA prog 3 5 (.int .u8 n) = some (.int .i64 n) := by
  simp only [convA, underlying5, Fc.ik3]
  rw [wrap64 (by omega) (by omega)]
end Go.AM
