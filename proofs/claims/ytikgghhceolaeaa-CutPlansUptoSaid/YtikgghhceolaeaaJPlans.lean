/-
  CutPlans: every input asks as its numbers say.
-/
import Derived.Test.YtikgghhceolaeaaU20
set_option linter.unusedSimpArgs false
set_option linter.unusedVariables false
namespace Go.Proofs.Ytikgghhceolaeaa
open Go.AM
theorem cutPlans_upto_holds : Rows.CutPlansUptoSaid :=
  cutPlans_over fun h0 h1 => run_CutPlans h0 h1
end Go.Proofs.Ytikgghhceolaeaa
