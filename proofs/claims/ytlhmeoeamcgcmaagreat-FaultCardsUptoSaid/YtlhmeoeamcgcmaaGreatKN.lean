/-
  (The heap behind a spool that was turned: E34; own rows: E44.)
-/
import Derived.Test.YtlhmeoeamcgcmaaGreatG5
import Derived.Test.YtlhmeoeamcgcmaaGreatE44
import Derived.Test.YtlhmeoeamcgcmaaGreatK8
set_option linter.unusedSimpArgs false
set_option linter.unusedVariables false

/-
  Contracts: numbers in some order.
-/
namespace Go.AM
open Go.Proofs.Tryz
attribute [-go_sem] put_ne put_same
attribute [local go_sem ↓] put_if
end Go.AM
/-
  Elements of one's own rows that are stored anew.
-/
namespace Go.AM
end Go.AM
