/-
  CardFewest: every input asks as its cards say.
-/
import Derived.Test.YtppkmjfplhenmaaBr18
import Derived.Test.YtppkmjfplhenmaaM13
import Derived.Test.YtppkmjfplhenmaaE1
set_option linter.unusedSimpArgs false
set_option linter.unusedVariables false
namespace Go.Proofs.Ytppkmjfplhenmaa
open Go.AM

theorem cardFewest_upto_holds : Rows.CardFewestUptoSaid :=
  cardFewest_over fun hB _ => run13 (fun {_ _} => run20) hB

end Go.Proofs.Ytppkmjfplhenmaa
