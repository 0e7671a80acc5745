/-
  CardSquares: every input asks as its cards say.
-/
import Derived.Test.YtppkmjfplhenmaaBr11
import Derived.Test.YtppkmjfplhenmaaL11
import Derived.Test.YtppkmjfplhenmaaE1
set_option linter.unusedSimpArgs false
set_option linter.unusedVariables false
namespace Go.Proofs.Ytppkmjfplhenmaa
open Go.AM

theorem cardSquares_upto_holds : Rows.CardSquaresUptoSaid :=
  cardSquares_over fun hI hl => run11 (fun {_ _} => run20) hI hl

end Go.Proofs.Ytppkmjfplhenmaa
