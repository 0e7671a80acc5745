/-
  LaceAsks: every input asks as its numbers say.
-/
import Derived.Test.YteanoaejoddnbaaU12
import Derived.Test.YteanoaejoddnbaaU20
set_option linter.unusedSimpArgs false
set_option linter.unusedVariables false
namespace Go.Proofs.Yteanoaejoddnbaa
open Go.AM
theorem laceAsks_upto_holds : Rows.LaceAsksUptoSaid :=
  laceAsks_over fun h0 => run_LaceAsks h0
end Go.Proofs.Yteanoaejoddnbaa
