/-
  CardRibbons: any two chains ask as their cards say.
-/
import Derived.Test.YtppkmjfplhenmaaBr9
import Derived.Test.YtppkmjfplhenmaaL9
import Derived.Test.YtppkmjfplhenmaaE1
set_option linter.unusedSimpArgs false
set_option linter.unusedVariables false
namespace Go.Proofs.Ytppkmjfplhenmaa
open Go.AM

theorem cardRibbons_upto_holds : Rows.CardRibbonsUptoSaid :=
  cardRibbons_over fun hI hI' hl hl' => run9 (fun {_ _} => run20) hI hI' hl hl'

end Go.Proofs.Ytppkmjfplhenmaa
