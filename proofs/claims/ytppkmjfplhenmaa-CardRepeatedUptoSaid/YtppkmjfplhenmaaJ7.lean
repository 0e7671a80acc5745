/-
  CardRepeated: every input asks as its cards say.
-/
import Derived.Test.YtppkmjfplhenmaaBr19
import Derived.Test.YtppkmjfplhenmaaM7
import Derived.Test.YtppkmjfplhenmaaE1
set_option linter.unusedSimpArgs false
set_option linter.unusedVariables false
namespace Go.Proofs.Ytppkmjfplhenmaa
open Go.AM

theorem cardRepeated_upto_holds : Rows.CardRepeatedUptoSaid :=
  cardRepeated_over fun hB _ => run7 (fun {_ _} => run20) hB

end Go.Proofs.Ytppkmjfplhenmaa
