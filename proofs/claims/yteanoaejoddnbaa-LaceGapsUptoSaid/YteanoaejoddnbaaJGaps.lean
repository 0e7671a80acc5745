/-
  LaceGaps: every input asks as its numbers say.
-/
import Derived.Test.YteanoaejoddnbaaU12
import Derived.Test.YteanoaejoddnbaaU19
set_option linter.unusedSimpArgs false
set_option linter.unusedVariables false
namespace Go.Proofs.Yteanoaejoddnbaa
open Go.AM
theorem laceGaps_upto_holds : Rows.LaceGapsUptoSaid :=
  laceGaps_over fun h0 h1 => run_LaceGaps h0 h1
end Go.Proofs.Yteanoaejoddnbaa
