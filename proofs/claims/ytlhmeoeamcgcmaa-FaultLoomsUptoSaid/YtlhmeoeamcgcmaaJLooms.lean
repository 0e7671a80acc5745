/-
  FaultLooms: every input asks as its numbers say.
-/
import Derived.Test.YtlhmeoeamcgcmaaBrLooms
import Derived.Test.YtlhmeoeamcgcmaaE57
set_option linter.unusedSimpArgs false
set_option linter.unusedVariables false
namespace Go.Proofs.Ytlhmeoeamcgcmaa
open Go.AM

theorem faultLooms_upto_holds : Rows.FaultLoomsUptoSaid :=
  faultLooms_over fun hL hB => run_FaultLooms hL hB

end Go.Proofs.Ytlhmeoeamcgcmaa
