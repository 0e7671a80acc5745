/-
  FaultSpots: every input asks as its numbers say.
-/
import Derived.Test.YtlhmeoeamcgcmaaGreatBrSpots
import Derived.Test.YtlhmeoeamcgcmaaGreatE81
set_option linter.unusedSimpArgs false
set_option linter.unusedVariables false
namespace Go.Proofs.YtlhmeoeamcgcmaaGreat
open Go.AM
theorem faultSpots_upto_holds : Rows.FaultSpotsUptoSaid :=
  faultSpots_over fun hB _ h1 h2 h3 h4 => run_FaultSpots hB h1 h2 h3 h4
end Go.Proofs.YtlhmeoeamcgcmaaGreat
