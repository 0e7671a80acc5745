/-
  Looms that are not too wide.
-/
import Derived.Test.YtlhmeoeamcgcmaaGreatE64
import Derived.Test.YtlhmeoeamcgcmaaGreatB8
set_option linter.unusedSimpArgs false
set_option linter.unusedVariables false
namespace Go.AM
open Go.Proofs.Tryz
attribute [-go_sem] put_ne put_same
attribute [local go_sem ↓] put_if
end Go.AM
