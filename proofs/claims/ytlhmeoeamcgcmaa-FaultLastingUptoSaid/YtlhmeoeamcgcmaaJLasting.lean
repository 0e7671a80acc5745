/-
  FaultLasting: every input asks as its numbers say.
-/
import Derived.Test.YtlhmeoeamcgcmaaBrLasting
import Derived.Test.YtlhmeoeamcgcmaaE39
set_option linter.unusedSimpArgs false
set_option linter.unusedVariables false
namespace Go.Proofs.Ytlhmeoeamcgcmaa
open Go.AM

theorem faultLasting_upto_holds : Rows.FaultLastingUptoSaid :=
  faultLasting_over fun hB1 hB2 _ _ => run_FaultLasting hB1 hB2

end Go.Proofs.Ytlhmeoeamcgcmaa
