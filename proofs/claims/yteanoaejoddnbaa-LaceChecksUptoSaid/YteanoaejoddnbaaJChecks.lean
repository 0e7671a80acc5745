/-
  LaceChecks: every input asks as its numbers say.
-/
import Derived.Test.YteanoaejoddnbaaU10
import Derived.Test.YteanoaejoddnbaaL68
set_option linter.unusedSimpArgs false
set_option linter.unusedVariables false
namespace Go.Proofs.Yteanoaejoddnbaa
open Go.AM
theorem laceChecks_upto_holds : Rows.LaceChecksUptoSaid :=
  laceChecks_over fun h0 h1 h2 h3 h4 => run_LaceChecks h0 h1 h2 h3 h4
end Go.Proofs.Yteanoaejoddnbaa
