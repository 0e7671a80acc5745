/-
  CardOnly: every input asks as its cards say.
-/
import Derived.Test.YtppkmjfplhenmaaBr14
import Derived.Test.YtppkmjfplhenmaaM4
import Derived.Test.YtppkmjfplhenmaaE1
set_option linter.unusedSimpArgs false
set_option linter.unusedVariables false
namespace Go.Proofs.Ytppkmjfplhenmaa
open Go.AM

theorem cardOnly_upto_holds : Rows.CardOnlyUptoSaid :=
  cardOnly_over fun hB _ => run4 (fun {_ _} => run20) hB

end Go.Proofs.Ytppkmjfplhenmaa
