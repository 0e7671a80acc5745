/-
  CutWants: every input asks as its numbers say.
-/
import Derived.Test.YtikgghhceolaeaaU20
import Derived.Test.YtikgghhceolaeaaN50
set_option linter.unusedSimpArgs false
set_option linter.unusedVariables false
namespace Go.Proofs.Ytikgghhceolaeaa
open Go.AM
theorem cutWants_upto_holds : Rows.CutWantsUptoSaid :=
  cutWants_over fun h0 h1 => run_CutWants h0 h1
end Go.Proofs.Ytikgghhceolaeaa
