/-
  CutFaults: every input asks as its numbers say.
-/
import Derived.Test.YtikgghhceolaeaaU20
import Derived.Test.YtikgghhceolaeaaU22
set_option linter.unusedSimpArgs false
set_option linter.unusedVariables false
namespace Go.Proofs.Ytikgghhceolaeaa
open Go.AM
theorem cutFaults_upto_holds : Rows.CutFaultsUptoSaid :=
  cutFaults_over fun h0 h1 => run_CutFaults h0 h1
end Go.Proofs.Ytikgghhceolaeaa
