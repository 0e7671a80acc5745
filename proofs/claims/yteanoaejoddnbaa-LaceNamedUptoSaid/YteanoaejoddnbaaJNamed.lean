/-
  LaceNamed: every input asks as its numbers say.
-/
import Derived.Test.YteanoaejoddnbaaU11
import Derived.Test.YteanoaejoddnbaaU19
set_option linter.unusedSimpArgs false
set_option linter.unusedVariables false
namespace Go.Proofs.Yteanoaejoddnbaa
open Go.AM
theorem laceNamed_upto_holds : Rows.LaceNamedUptoSaid :=
  laceNamed_over fun hB0 hB1 _ _ => run_LaceNamed hB0 hB1
end Go.Proofs.Yteanoaejoddnbaa
