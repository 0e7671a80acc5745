/-
  LaceDecided: every input asks as its numbers say.
-/
import Derived.Test.YteanoaejoddnbaaU11
import Derived.Test.YteanoaejoddnbaaL53
set_option linter.unusedSimpArgs false
set_option linter.unusedVariables false
namespace Go.Proofs.Yteanoaejoddnbaa
open Go.AM
theorem laceDecided_upto_holds : Rows.LaceDecidedUptoSaid :=
  laceDecided_over fun hB0 _ => run_LaceDecided hB0
end Go.Proofs.Yteanoaejoddnbaa
