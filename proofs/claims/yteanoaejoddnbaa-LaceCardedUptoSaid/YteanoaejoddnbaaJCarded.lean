/-
  LaceCarded: every input asks as its numbers say.
-/
import Derived.Test.YteanoaejoddnbaaU11
import Derived.Test.YteanoaejoddnbaaU19
set_option linter.unusedSimpArgs false
set_option linter.unusedVariables false
namespace Go.Proofs.Yteanoaejoddnbaa
open Go.AM
theorem laceCarded_upto_holds:Rows.LaceCardedUptoSaid :=
 laceCarded_over fun hB0 _ q1=>run_LaceCarded hB0 q1
end Go.Proofs.Yteanoaejoddnbaa
