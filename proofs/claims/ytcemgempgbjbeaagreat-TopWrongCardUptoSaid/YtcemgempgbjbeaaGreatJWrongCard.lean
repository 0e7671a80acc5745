/-
  TopWrongCard: every input asks as its numbers say.
-/
import Derived.Test.YtcemgempgbjbeaaGreatU11
import Derived.Test.YtcemgempgbjbeaaGreatT17
set_option linter.unusedSimpArgs false
set_option linter.unusedVariables false
namespace Go.Proofs.YtcemgempgbjbeaaGreat
open Go.AM
theorem topWrongCard_upto_holds:Rows.TopWrongCardUptoSaid :=
 topWrongCard_over fun hB0 hB1 _ _ q2 q3 q4=>run_TopWrongCard hB0 hB1 q2 q3 q4
end Go.Proofs.YtcemgempgbjbeaaGreat
