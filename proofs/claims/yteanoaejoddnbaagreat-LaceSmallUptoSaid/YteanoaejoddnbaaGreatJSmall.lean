/-
  LaceSmall: join.
-/
import Derived.Test.YteanoaejoddnbaaGreatU11
import Derived.Test.YteanoaejoddnbaaGreatZ3
set_option linter.unusedSimpArgs false
set_option linter.unusedVariables false
namespace Go.Proofs.YteanoaejoddnbaaGreat
open Go.AM
theorem laceSmall_upto_holds:Rows.LaceSmallUptoSaid :=
 laceSmall_over run_LaceSmall
end Go.Proofs.YteanoaejoddnbaaGreat
