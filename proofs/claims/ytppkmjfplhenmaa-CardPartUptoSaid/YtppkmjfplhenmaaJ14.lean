/-
  CardPart: every input asks as its cards say.
-/
import Derived.Test.YtppkmjfplhenmaaBr16
import Derived.Test.YtppkmjfplhenmaaM14
import Derived.Test.YtppkmjfplhenmaaE1
set_option linter.unusedSimpArgs false
set_option linter.unusedVariables false
namespace Go.Proofs.Ytppkmjfplhenmaa
open Go.AM

theorem cardPart_upto_holds : Rows.CardPartUptoSaid :=
  cardPart_over fun hB _ h1 h2 => run14 (fun {_ _} => run20) hB h1 h2

end Go.Proofs.Ytppkmjfplhenmaa
