/-
  LaceTurned: every input asks as its numbers say.
-/
import Derived.Test.YteanoaejoddnbaaU11
import Derived.Test.YteanoaejoddnbaaL92
set_option linter.unusedSimpArgs false
set_option linter.unusedVariables false
namespace Go.Proofs.Yteanoaejoddnbaa
open Go.AM
theorem laceTurned_upto_holds:Rows.LaceTurnedUptoSaid :=
 laceTurned_over fun hB0 hB1 _ _=>run_LaceTurned hB0 hB1
end Go.Proofs.Yteanoaejoddnbaa
