/-
  TopWasted: every input asks as its numbers say.
-/
import Derived.Test.YtcemgempgbjbeaaGreatU11
import Derived.Test.YtcemgempgbjbeaaGreatT47
set_option linter.unusedSimpArgs false
set_option linter.unusedVariables false
namespace Go.Proofs.YtcemgempgbjbeaaGreat
open Go.AM
theorem topWasted_upto_holds:Rows.TopWastedUptoSaid :=
 topWasted_over fun hB0 _=>run_TopWasted hB0
end Go.Proofs.YtcemgempgbjbeaaGreat
