/-
  CutValues: every input asks as its numbers say.
-/
import Derived.Test.YtikgghhceolaeaaU20
import Derived.Test.YtikgghhceolaeaaN45
set_option linter.unusedSimpArgs false
set_option linter.unusedVariables false
namespace Go.Proofs.Ytikgghhceolaeaa
open Go.AM
theorem cutValues_upto_holds : Rows.CutValuesUptoSaid :=
  cutValues_over fun h0 h1 => run_CutValues h0 h1
end Go.Proofs.Ytikgghhceolaeaa
