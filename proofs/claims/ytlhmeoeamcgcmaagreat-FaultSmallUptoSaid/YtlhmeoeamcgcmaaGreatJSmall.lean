/-
  FaultSmall: join.
-/
import Derived.Test.YtlhmeoeamcgcmaaGreatBrSmall
import Derived.Test.YtlhmeoeamcgcmaaGreatE85
set_option linter.unusedSimpArgs false
set_option linter.unusedVariables false
namespace Go.Proofs.YtlhmeoeamcgcmaaGreat
open Go.AM
theorem faultSmall_upto_holds:Rows.FaultSmallUptoSaid :=
 faultSmall_over run_FaultSmall
end Go.Proofs.YtlhmeoeamcgcmaaGreat
