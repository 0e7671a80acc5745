/-
  FaultNamed: every input asks as its numbers say.
-/
import Derived.Test.YtlhmeoeamcgcmaaGreatBrNamed
import Derived.Test.YtlhmeoeamcgcmaaGreatE86
set_option linter.unusedSimpArgs false
set_option linter.unusedVariables false
namespace Go.Proofs.YtlhmeoeamcgcmaaGreat
open Go.AM
theorem faultNamed_upto_holds : Rows.FaultNamedUptoSaid :=
  faultNamed_over fun hB0 hB1 _ _ h2 => run_FaultNamed hB0 hB1 h2
end Go.Proofs.YtlhmeoeamcgcmaaGreat
