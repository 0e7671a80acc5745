/-
  CutMost: every input asks as its numbers say.
-/
import Derived.Test.YtikgghhceolaeaaU20
import Derived.Test.YtikgghhceolaeaaN36
set_option linter.unusedSimpArgs false
set_option linter.unusedVariables false
namespace Go.Proofs.Ytikgghhceolaeaa
open Go.AM
theorem cutMost_upto_holds : Rows.CutMostUptoSaid :=
  cutMost_over fun h0 => run_CutMost h0
end Go.Proofs.Ytikgghhceolaeaa
