/-
  LaceSeen: every input asks as its numbers say.
-/
import Derived.Test.YteanoaejoddnbaaU11
import Derived.Test.YteanoaejoddnbaaU18
set_option linter.unusedSimpArgs false
set_option linter.unusedVariables false
namespace Go.Proofs.Yteanoaejoddnbaa
open Go.AM
theorem laceSeen_upto_holds : Rows.LaceSeenUptoSaid :=
  laceSeen_over fun hB0 hB1 _ _ => run_LaceSeen hB0 hB1
end Go.Proofs.Yteanoaejoddnbaa
