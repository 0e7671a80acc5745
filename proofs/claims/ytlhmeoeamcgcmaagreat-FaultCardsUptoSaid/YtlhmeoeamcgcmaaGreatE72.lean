/-
  Plain: where breaks last, which parts must break, what clashes: the program's answers are the reference's.
-/
import Derived.Test.YtlhmeoeamcgcmaaGreatE71
import Derived.Test.YtlhmeoeamcgcmaaGreatE64
set_option linter.unusedSimpArgs false
set_option linter.unusedVariables false
namespace Go.AM
open Go.Proofs.Tryz
end Go.AM
