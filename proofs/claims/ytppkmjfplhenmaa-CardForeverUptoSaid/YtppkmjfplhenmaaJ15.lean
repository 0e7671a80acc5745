/-
  CardForever: every input asks as its cards say.
-/
import Derived.Test.YtppkmjfplhenmaaBr21
import Derived.Test.YtppkmjfplhenmaaM15
import Derived.Test.YtppkmjfplhenmaaE1
set_option linter.unusedSimpArgs false
set_option linter.unusedVariables false
namespace Go.Proofs.Ytppkmjfplhenmaa
open Go.AM

theorem cardForever_upto_holds : Rows.CardForeverUptoSaid :=
  cardForever_over fun hB _ h1 h2 => run15 (fun {_ _} => run20) hB h1 h2

end Go.Proofs.Ytppkmjfplhenmaa
