/-
  FaultFewest: every input asks as its numbers say.
-/
import Derived.Test.YtlhmeoeamcgcmaaGreatBrFewest
import Derived.Test.YtlhmeoeamcgcmaaGreatE77
set_option linter.unusedSimpArgs false
set_option linter.unusedVariables false
namespace Go.Proofs.YtlhmeoeamcgcmaaGreat
open Go.AM
theorem faultFewest_upto_holds : Rows.FaultFewestUptoSaid :=
  faultFewest_over fun hL ha hb => run_FaultFewest hL ha hb
end Go.Proofs.YtlhmeoeamcgcmaaGreat
