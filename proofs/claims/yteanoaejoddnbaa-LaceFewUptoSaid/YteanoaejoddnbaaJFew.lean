/-
  LaceFew: every input asks as its numbers say.
-/
import Derived.Test.YteanoaejoddnbaaU11
import Derived.Test.YteanoaejoddnbaaL81
set_option linter.unusedSimpArgs false
set_option linter.unusedVariables false
namespace Go.Proofs.Yteanoaejoddnbaa
open Go.AM
theorem laceFew_upto_holds:Rows.LaceFewUptoSaid :=
 laceFew_over fun hB0 hB1 _ _=>run_LaceFew hB0 hB1
end Go.Proofs.Yteanoaejoddnbaa
