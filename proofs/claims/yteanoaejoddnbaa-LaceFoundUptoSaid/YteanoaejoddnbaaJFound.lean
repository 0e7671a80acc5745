/-
  LaceFound: every input asks as its numbers say.
-/
import Derived.Test.YteanoaejoddnbaaU11
import Derived.Test.YteanoaejoddnbaaL55
set_option linter.unusedSimpArgs false
set_option linter.unusedVariables false
namespace Go.Proofs.Yteanoaejoddnbaa
open Go.AM
theorem laceFound_upto_holds : Rows.LaceFoundUptoSaid :=
  laceFound_over fun hB0 hB1 _ _ => run_LaceFound hB0 hB1
end Go.Proofs.Yteanoaejoddnbaa
