/-
  Contracts: looms that are copied and compared; whether a loom is more than what is looked at.
-/
import Derived.Test.YtlhmeoeamcgcmaaGreatE35
set_option linter.unusedSimpArgs false
set_option linter.unusedVariables false
namespace Go.AM
open Go.Proofs.Tryz
attribute [-go_sem] put_ne put_same
attribute [local go_sem ↓] put_if
/-! ### Copies -/
/-- One's own slice, or an empty one. -/
def OwnE {α : Type} (E : Enc α) (e : TypeId) (b : Nat) (H : Heap) (v : AVal) (l : List α) : Prop := Own E e b H v l ∨ (v = .emp ∧ l = [])
section
variable {α : Type} {E : Enc α} {e e2 t : TypeId} {b base : Nat} {H H' A : Heap} {v x : AVal} {l : List α} {zs : List AVal}
end
/-! ### Parts whose ribbons are one's own -/
def OwnQ (b : Nat) (H : Heap) (pv : AVal) (ps : List Prt) : Prop := ∃ vs : List PrtV, Own encP 81 b H pv vs ∧ vs.length = ps.length ∧ ∀ (i : Nat) x p, vs[i]? = some x → ps[i]? = some p → OwnE encI 3 b H x.v p.rib ∧ x.each = p.each ∧ x.ph = p.ph ∧ x.wv = p.wv
section
variable {b : Nat} {H H' : Heap} {pv : AVal} {ps : List Prt}
end
/-! ### Comparison -/
end Go.AM
/-
  Contracts: a loom's copy; whether a loom is more than what is looked at.
-/
namespace Go.AM
open Go.Proofs.Tryz
attribute [-go_sem] put_ne put_same
attribute [local go_sem ↓] put_if
def rbs (ps : List Prt) : Bool := ps.any fun p => decide (9 < p.rib.length)
def grtM (L : Lom) : Bool := decide (9 < L.ps.length) || decide (14 < L.ss.length) || rbs L.ps
end Go.AM
