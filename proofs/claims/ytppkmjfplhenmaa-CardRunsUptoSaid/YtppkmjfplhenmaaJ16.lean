/-
  CardRuns: every input asks as its cards say.
-/
import Derived.Test.YtppkmjfplhenmaaBr23
import Derived.Test.YtppkmjfplhenmaaM16
import Derived.Test.YtppkmjfplhenmaaE1
set_option linter.unusedSimpArgs false
set_option linter.unusedVariables false
namespace Go.Proofs.Ytppkmjfplhenmaa
open Go.AM

theorem cardRuns_upto_holds : Rows.CardRunsUptoSaid :=
  cardRuns_over fun hB1 hB2 hB3 _ _ _ => run16 (fun {_ _} => run20) hB1 hB2 hB3

end Go.Proofs.Ytppkmjfplhenmaa
