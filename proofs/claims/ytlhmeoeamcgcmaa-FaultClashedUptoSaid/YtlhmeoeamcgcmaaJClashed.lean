/-
  FaultClashed: every input asks as its numbers say.
-/
import Derived.Test.YtlhmeoeamcgcmaaBrClashed
import Derived.Test.YtlhmeoeamcgcmaaE51
set_option linter.unusedSimpArgs false
set_option linter.unusedVariables false
namespace Go.Proofs.Ytlhmeoeamcgcmaa
open Go.AM

theorem faultClashed_upto_holds : Rows.FaultClashedUptoSaid :=
  faultClashed_over fun hB1 hB2 _ _ h1 => run_FaultClashed hB1 hB2 h1

end Go.Proofs.Ytlhmeoeamcgcmaa
