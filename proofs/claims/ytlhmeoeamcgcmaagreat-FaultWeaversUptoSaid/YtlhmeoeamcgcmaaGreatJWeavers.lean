/-
  FaultWeavers: every input asks as its numbers say.
-/
import Derived.Test.YtlhmeoeamcgcmaaGreatBrWeavers
import Derived.Test.YtlhmeoeamcgcmaaGreatE68
set_option linter.unusedSimpArgs false
set_option linter.unusedVariables false
namespace Go.Proofs.YtlhmeoeamcgcmaaGreat
open Go.AM

theorem faultWeavers_upto_holds : Rows.FaultWeaversUptoSaid :=
  faultWeavers_over fun hL hW hP => run_FaultWeavers hL hW hP

end Go.Proofs.YtlhmeoeamcgcmaaGreat
