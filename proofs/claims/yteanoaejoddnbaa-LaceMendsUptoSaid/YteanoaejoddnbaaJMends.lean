/-
  LaceMends: every input asks as its numbers say.
-/
import Derived.Test.YteanoaejoddnbaaU11
import Derived.Test.YteanoaejoddnbaaU19
set_option linter.unusedSimpArgs false
set_option linter.unusedVariables false
namespace Go.Proofs.Yteanoaejoddnbaa
open Go.AM
theorem laceMends_upto_holds : Rows.LaceMendsUptoSaid :=
  laceMends_over fun h0 h1 h2 => run_LaceMends h0 h1 h2
end Go.Proofs.Yteanoaejoddnbaa
