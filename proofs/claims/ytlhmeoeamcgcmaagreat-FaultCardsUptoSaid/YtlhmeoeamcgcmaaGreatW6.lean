/-
  Plain theory: packed sights, clashes.
-/
import Derived.Test.YtlhmeoeamcgcmaaGreatWJ
set_option linter.unusedSimpArgs false
set_option linter.unusedVariables false
namespace Go.AM
end Go.AM
