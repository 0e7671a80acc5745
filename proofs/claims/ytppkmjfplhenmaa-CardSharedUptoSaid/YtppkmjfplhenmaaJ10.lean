/-
  CardShared: every input asks as its cards say.
-/
import Derived.Test.YtppkmjfplhenmaaBr10
import Derived.Test.YtppkmjfplhenmaaL10
import Derived.Test.YtppkmjfplhenmaaE1
set_option linter.unusedSimpArgs false
set_option linter.unusedVariables false
namespace Go.Proofs.Ytppkmjfplhenmaa
open Go.AM

theorem cardShared_upto_holds : Rows.CardSharedUptoSaid :=
  cardShared_over fun hI hI' hl hl' => run10 (fun {_ _} => run20) hI hI' hl hl'

end Go.Proofs.Ytppkmjfplhenmaa
