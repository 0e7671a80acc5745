/-
  CutRibbons: every input asks as its numbers say.
-/
import Derived.Test.YtikgghhceolaeaaBrRibbons
import Derived.Test.YtikgghhceolaeaaU19
set_option linter.unusedSimpArgs false
set_option linter.unusedVariables false
namespace Go.Proofs.Ytikgghhceolaeaa
open Go.AM
theorem cutRibbons_upto_holds : Rows.CutRibbonsUptoSaid :=
  cutRibbons_over fun h0 h1 h2 => run_CutRibbons h0 h1 h2
end Go.Proofs.Ytikgghhceolaeaa
