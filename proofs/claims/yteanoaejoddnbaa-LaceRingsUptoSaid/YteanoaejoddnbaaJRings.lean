/-
  LaceRings: every input asks as its numbers say.
-/
import Derived.Test.YteanoaejoddnbaaU11
import Derived.Test.YteanoaejoddnbaaL65
set_option linter.unusedSimpArgs false
set_option linter.unusedVariables false
namespace Go.Proofs.Yteanoaejoddnbaa
open Go.AM
theorem laceRings_upto_holds : Rows.LaceRingsUptoSaid :=
  laceRings_over fun h0 h1 h2 => run_LaceRings h0 h1 h2
end Go.Proofs.Yteanoaejoddnbaa
