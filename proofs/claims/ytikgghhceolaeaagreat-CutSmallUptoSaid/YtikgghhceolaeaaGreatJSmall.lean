/-
  CutSmall: join.
-/
import Derived.Test.YtikgghhceolaeaaGreatU11
import Derived.Test.YtikgghhceolaeaaGreatN72
set_option linter.unusedSimpArgs false
set_option linter.unusedVariables false
namespace Go.Proofs.YtikgghhceolaeaaGreat
open Go.AM
theorem cutSmall_upto_holds:Rows.CutSmallUptoSaid :=
 cutSmall_over run_CutSmall
end Go.Proofs.YtikgghhceolaeaaGreat
