/-
  CutSpoilt: join.
-/
import Derived.Test.YtikgghhceolaeaaGreatU11
import Derived.Test.YtikgghhceolaeaaGreatY12
set_option linter.unusedSimpArgs false
set_option linter.unusedVariables false
namespace Go.Proofs.YtikgghhceolaeaaGreat
open Go.AM
theorem cutSpoilt_upto_holds:Rows.CutSpoiltUptoSaid :=
 cutSpoilt_over fun hB0 hB1 _ _ q2 q3=>Flt.run_CutSpoilt hB0 hB1 q2 q3
end Go.Proofs.YtikgghhceolaeaaGreat
