/-
  TopSewn: every input asks as its numbers say.
-/
import Derived.Test.YtcemgempgbjbeaaGreatU11
import Derived.Test.YtcemgempgbjbeaaGreatU22
set_option linter.unusedSimpArgs false
set_option linter.unusedVariables false
namespace Go.Proofs.YtcemgempgbjbeaaGreat
open Go.AM
theorem topSewn_upto_holds:Rows.TopSewnUptoSaid :=
 topSewn_over fun hB0 hB1 _ _=>run_TopSewn hB0 hB1
end Go.Proofs.YtcemgempgbjbeaaGreat
