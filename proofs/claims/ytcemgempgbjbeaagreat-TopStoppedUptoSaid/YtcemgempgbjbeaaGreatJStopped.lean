/-
  TopStopped: every input asks as its numbers say.
-/
import Derived.Test.YtcemgempgbjbeaaGreatU11
import Derived.Test.YtcemgempgbjbeaaGreatU26
set_option linter.unusedSimpArgs false
set_option linter.unusedVariables false
namespace Go.Proofs.YtcemgempgbjbeaaGreat
open Go.AM
theorem topStopped_upto_holds:Rows.TopStoppedUptoSaid :=
 topStopped_over fun hB0 hB1 _ _ hx=>F4.run_TopStopped hB0 hB1 hx
end Go.Proofs.YtcemgempgbjbeaaGreat
