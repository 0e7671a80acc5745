/-
  CardFloats: every input asks as its cards say.
-/
import Derived.Test.YtppkmjfplhenmaaBr20
import Derived.Test.YtppkmjfplhenmaaM6
import Derived.Test.YtppkmjfplhenmaaE1
set_option linter.unusedSimpArgs false
set_option linter.unusedVariables false
namespace Go.Proofs.Ytppkmjfplhenmaa
open Go.AM

theorem cardFloats_upto_holds : Rows.CardFloatsUptoSaid :=
  cardFloats_over fun hB _ h1 h2 => run6 (fun {_ _} => run20) hB h1 h2

end Go.Proofs.Ytppkmjfplhenmaa
