/-
  FaultCards: every input asks as its numbers say.
-/
import Derived.Test.YtlhmeoeamcgcmaaGreatBrCards
import Derived.Test.YtlhmeoeamcgcmaaGreatE92
set_option linter.unusedSimpArgs false
set_option linter.unusedVariables false
namespace Go.Proofs.YtlhmeoeamcgcmaaGreat
open Go.AM
theorem faultCards_upto_holds : Rows.FaultCardsUptoSaid :=
  faultCards_over fun hB _ h1 h2 h3 => run_FaultCards hB h1 h2 h3
end Go.Proofs.YtlhmeoeamcgcmaaGreat
