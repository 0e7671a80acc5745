/-
  CardChains: every chain asks as its card says.
-/
import Derived.Test.YtppkmjfplhenmaaB1
import Derived.Test.YtppkmjfplhenmaaL3
import Derived.Test.YtppkmjfplhenmaaE1
set_option linter.unusedSimpArgs false
set_option linter.unusedVariables false
namespace Go.Proofs.Ytppkmjfplhenmaa
open Go.AM

theorem cardChains_upto_holds : Rows.CardChainsUptoSaid :=
  chains_over fun hI hl => run3 (fun {_ _} => run20) hI hl

end Go.Proofs.Ytppkmjfplhenmaa
