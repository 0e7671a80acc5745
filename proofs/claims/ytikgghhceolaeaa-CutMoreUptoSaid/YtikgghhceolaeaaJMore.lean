/-
  CutMore: every input asks as its numbers say.
-/
import Derived.Test.YtikgghhceolaeaaU11
import Derived.Test.YtikgghhceolaeaaN59
set_option linter.unusedSimpArgs false
set_option linter.unusedVariables false
namespace Go.Proofs.Ytikgghhceolaeaa
open Go.AM
theorem cutMore_upto_holds : Rows.CutMoreUptoSaid :=
  cutMore_over fun hB0 _ q1 q2 => run_CutMore hB0 q1 q2
end Go.Proofs.Ytikgghhceolaeaa
