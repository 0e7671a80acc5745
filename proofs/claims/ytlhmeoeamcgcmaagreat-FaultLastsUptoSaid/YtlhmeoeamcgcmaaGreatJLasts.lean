/-
  FaultLasts: every input asks as its numbers say.
-/
import Derived.Test.YtlhmeoeamcgcmaaGreatBrLasts
import Derived.Test.YtlhmeoeamcgcmaaGreatE73
set_option linter.unusedSimpArgs false
set_option linter.unusedVariables false
namespace Go.Proofs.YtlhmeoeamcgcmaaGreat
open Go.AM
theorem faultLasts_upto_holds : Rows.FaultLastsUptoSaid :=
  faultLasts_over fun hL hW => run_FaultLasts hL hW
end Go.Proofs.YtlhmeoeamcgcmaaGreat
