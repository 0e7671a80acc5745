/-
  Contracts: a loom as the reference's.
-/
import Derived.Test.YtlhmeoeamcgcmaaGreatE44
set_option linter.unusedSimpArgs false
set_option linter.unusedVariables false
namespace Go.AM
open Go.Proofs.Tryz
attribute [-go_sem] put_ne put_same
attribute [local go_sem ↓] put_if
/-! ### Parts of the reference's -/
def OwnR (b : Nat) (H : Heap) (pv : AVal) (ps : List Prt) : Prop := ∃ vs : List PrtV, Own encP 125 b H pv vs ∧ vs.length = ps.length ∧ ∀ (i : Nat) x p, vs[i]? = some x → ps[i]? = some p → OwnE encI 3 b H x.v p.rib ∧ x.each = p.each ∧ x.ph = p.ph ∧ x.wv = p.wv
section
variable {b : Nat} {H H' : Heap} {pv : AVal} {ps : List Prt}
end
abbrev rlB (R T : Int) (pv sv : AVal) : ABlk := ⟨.cells [.int .i64 R, .int .i64 T, pv, sv] 32 false false, 0⟩
end Go.AM
