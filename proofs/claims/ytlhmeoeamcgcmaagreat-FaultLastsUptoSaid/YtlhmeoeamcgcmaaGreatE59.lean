/-
  Contracts: the error of a truth as the reference says it; truths copied, compared.
-/
import Derived.Test.YtlhmeoeamcgcmaaGreatE58
import Derived.Test.YtlhmeoeamcgcmaaGreatE44
set_option linter.unusedSimpArgs false
set_option linter.unusedVariables false
namespace Go.AM
open Go.Proofs.Tryz
attribute [-go_sem] put_ne put_same
attribute [local go_sem ↓] put_if
theorem bsBR {lit : Bool} {A : Heap} {b : Brk} : bsA prog lit A 66 1 [(0, .agg [.int .i64 b.1, .int .i64 b.2.1, .int .i64 b.2.2])] = some (.slice (some ⟨A.length, 0, 0⟩) 1 1, A ++ [rowE encB 128 [b] 0]) := by
  simp [bsA, rowOf, Fc.el66, fillA, repCells, AVal.isN, AVal.cells, splice, rowE, flat, encB]
end Go.AM
