/-
  LaceGaped: every input asks as its numbers say.
-/
import Derived.Test.YteanoaejoddnbaaU11
import Derived.Test.YteanoaejoddnbaaL84
set_option linter.unusedSimpArgs false
set_option linter.unusedVariables false
namespace Go.Proofs.Yteanoaejoddnbaa
open Go.AM
theorem laceGaped_upto_holds:Rows.LaceGapedUptoSaid :=
 laceGaped_over fun hB0 hB1 _ _=>run_LaceGaped hB0 hB1
end Go.Proofs.Yteanoaejoddnbaa
