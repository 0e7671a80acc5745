/-
  FaultMore: every input asks as its numbers say.
-/
import Derived.Test.YtlhmeoeamcgcmaaBrMore
import Derived.Test.YtlhmeoeamcgcmaaE48
set_option linter.unusedSimpArgs false
set_option linter.unusedVariables false
namespace Go.Proofs.Ytlhmeoeamcgcmaa
open Go.AM

theorem faultMore_upto_holds : Rows.FaultMoreUptoSaid :=
  faultMore_over fun hB1 _ h1 h2 h3 => run_FaultMore hB1 h1 h2 h3

end Go.Proofs.Ytlhmeoeamcgcmaa
