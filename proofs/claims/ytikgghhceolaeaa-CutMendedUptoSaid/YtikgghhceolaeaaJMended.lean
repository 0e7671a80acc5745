/-
  CutMended: every input asks as its numbers say.
-/
import Derived.Test.YtikgghhceolaeaaU11
import Derived.Test.YtikgghhceolaeaaU20
set_option linter.unusedSimpArgs false
set_option linter.unusedVariables false
namespace Go.Proofs.Ytikgghhceolaeaa
open Go.AM
theorem cutMended_upto_holds : Rows.CutMendedUptoSaid :=
  cutMended_over fun hB0 _ q1 => run_CutMended hB0 q1
end Go.Proofs.Ytikgghhceolaeaa
