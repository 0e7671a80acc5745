/-
  FaultFound: every input asks as its numbers say.
-/
import Derived.Test.YtlhmeoeamcgcmaaBrFound
import Derived.Test.YtlhmeoeamcgcmaaE43
set_option linter.unusedSimpArgs false
set_option linter.unusedVariables false
namespace Go.Proofs.Ytlhmeoeamcgcmaa
open Go.AM

theorem faultFound_upto_holds : Rows.FaultFoundUptoSaid :=
  faultFound_over fun hB1 hB2 _ _ => run_FaultFound hB1 hB2

end Go.Proofs.Ytlhmeoeamcgcmaa
