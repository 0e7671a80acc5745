/-
  CardMoved: every input asks as its cards say.
-/
import Derived.Test.YtppkmjfplhenmaaBr22
import Derived.Test.YtppkmjfplhenmaaM5
import Derived.Test.YtppkmjfplhenmaaE1
set_option linter.unusedSimpArgs false
set_option linter.unusedVariables false
namespace Go.Proofs.Ytppkmjfplhenmaa
open Go.AM

theorem cardMoved_upto_holds : Rows.CardMovedUptoSaid :=
  cardMoved_over fun hB _ h1 => run5 (fun {_ _} => run20) hB h1

end Go.Proofs.Ytppkmjfplhenmaa
