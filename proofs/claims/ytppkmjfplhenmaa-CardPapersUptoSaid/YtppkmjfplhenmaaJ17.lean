/-
  CardPapers: every input asks as its cards say.
-/
import Derived.Test.YtppkmjfplhenmaaBr17
import Derived.Test.YtppkmjfplhenmaaL17
import Derived.Test.YtppkmjfplhenmaaE1
set_option linter.unusedSimpArgs false
set_option linter.unusedVariables false
namespace Go.Proofs.Ytppkmjfplhenmaa
open Go.AM

theorem cardPapers_upto_holds : Rows.CardPapersUptoSaid :=
  cardPapers_over fun hI hI' hl hl' => run17 (fun {_ _} => run20) hI hI' hl hl'

end Go.Proofs.Ytppkmjfplhenmaa
