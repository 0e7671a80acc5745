/-
  CardPlans: every plan asks as its card says.
-/
import Derived.Test.YtppkmjfplhenmaaBr8
import Derived.Test.YtppkmjfplhenmaaL8
import Derived.Test.YtppkmjfplhenmaaE1
set_option linter.unusedSimpArgs false
set_option linter.unusedVariables false
namespace Go.Proofs.Ytppkmjfplhenmaa
open Go.AM

theorem cardPlans_upto_holds : Rows.CardPlansUptoSaid :=
  cardPlans_over fun hI hl => run8 (fun {_ _} => run20) hI hl

end Go.Proofs.Ytppkmjfplhenmaa
