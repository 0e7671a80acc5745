/-
  CutHeld: every input asks as its numbers say.
-/
import Derived.Test.YtikgghhceolaeaaU11
import Derived.Test.YtikgghhceolaeaaU21
set_option linter.unusedSimpArgs false
set_option linter.unusedVariables false
namespace Go.Proofs.Ytikgghhceolaeaa
open Go.AM
theorem cutHeld_upto_holds : Rows.CutHeldUptoSaid :=
  cutHeld_over fun hB0 hB1 _ _ => run_CutHeld hB0 hB1
end Go.Proofs.Ytikgghhceolaeaa
