/-
  CardSmall: the closed statement, as the contracts of the laws that it asks say.
-/
import Derived.Test.YtppkmjfplhenmaaBr24
import Derived.Test.YtppkmjfplhenmaaM18
import Derived.Test.YtppkmjfplhenmaaE1
set_option linter.unusedSimpArgs false
set_option linter.unusedVariables false
namespace Go.Proofs.Ytppkmjfplhenmaa
open Go.AM

theorem cardSmall_upto_holds : Rows.CardSmallUptoSaid :=
  cardSmall_over (fun {_ _} => run18 (fun {_ _} => run20))

end Go.Proofs.Ytppkmjfplhenmaa
