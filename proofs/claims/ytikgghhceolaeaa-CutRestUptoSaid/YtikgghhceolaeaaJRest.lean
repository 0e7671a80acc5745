/-
  CutRest: every input asks as its numbers say.
-/
import Derived.Test.YtikgghhceolaeaaU11
import Derived.Test.YtikgghhceolaeaaN63
set_option linter.unusedSimpArgs false
set_option linter.unusedVariables false
namespace Go.Proofs.Ytikgghhceolaeaa
open Go.AM
theorem cutRest_upto_holds : Rows.CutRestUptoSaid :=
  cutRest_over fun hB0 hB1 _ _ => run_CutRest hB0 hB1
end Go.Proofs.Ytikgghhceolaeaa
