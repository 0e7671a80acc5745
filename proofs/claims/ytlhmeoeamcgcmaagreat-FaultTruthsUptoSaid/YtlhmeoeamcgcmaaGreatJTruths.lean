/-
  FaultTruths: every input asks as its numbers say.
-/
import Derived.Test.YtlhmeoeamcgcmaaGreatBrTruths
import Derived.Test.YtlhmeoeamcgcmaaGreatE79
set_option linter.unusedSimpArgs false
set_option linter.unusedVariables false
namespace Go.Proofs.YtlhmeoeamcgcmaaGreat
open Go.AM
theorem faultTruths_upto_holds : Rows.FaultTruthsUptoSaid :=
  faultTruths_over fun hL hT hs => run_FaultTruths hL hT hs
end Go.Proofs.YtlhmeoeamcgcmaaGreat
