/-
  LaceFinds: every input asks as its numbers say.
-/
import Derived.Test.YteanoaejoddnbaaU10
import Derived.Test.YteanoaejoddnbaaU17
set_option linter.unusedSimpArgs false
set_option linter.unusedVariables false
namespace Go.Proofs.Yteanoaejoddnbaa
open Go.AM
theorem laceFinds_upto_holds : Rows.LaceFindsUptoSaid :=
  laceFinds_over fun h0 h1 => run_LaceFinds h0 h1
end Go.Proofs.Yteanoaejoddnbaa
