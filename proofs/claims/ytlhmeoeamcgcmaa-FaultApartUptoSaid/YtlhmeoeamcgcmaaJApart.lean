/-
  FaultApart: every input asks as its numbers say.
-/
import Derived.Test.YtlhmeoeamcgcmaaBrApart
import Derived.Test.YtlhmeoeamcgcmaaE38
set_option linter.unusedSimpArgs false
set_option linter.unusedVariables false
namespace Go.Proofs.Ytlhmeoeamcgcmaa
open Go.AM

theorem faultApart_upto_holds : Rows.FaultApartUptoSaid :=
  faultApart_over fun hB1 hB2 _ _ => run_FaultApart hB1 hB2

end Go.Proofs.Ytlhmeoeamcgcmaa
