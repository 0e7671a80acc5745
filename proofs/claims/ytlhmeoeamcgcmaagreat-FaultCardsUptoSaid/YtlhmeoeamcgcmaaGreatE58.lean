/-
  Contracts: the reference's truths (Touches, bad, Left, Truth).
-/
import Derived.Test.YtlhmeoeamcgcmaaGreatE54
import Derived.Test.YtlhmeoeamcgcmaaGreatWJ
import Derived.Test.YtlhmeoeamcgcmaaGreatE44
set_option linter.unusedSimpArgs false
set_option linter.unusedVariables false
namespace Go.AM
open Go.Proofs.Tryz
attribute [-go_sem] put_ne put_same
attribute [local go_sem ↓] put_if
def sgR (s : Sgt) : Prop := 0 ≤ s.lo ∧ s.lo ≤ 1000 ∧ s.hi ≤ 1000
/-! ### Left -/
def lefR (L : Lom) (t : List Brk) (n : Nat) : List Int := (upto n).filter fun i => badB L t (L.ss.getD i.toNat sgt0) != (L.ss.getD i.toNat sgt0).bad
end Go.AM
/-
  Contracts: the error of a truth as the reference says it; truths copied, compared.
-/
namespace Go.AM
open Go.Proofs.Tryz
attribute [-go_sem] put_ne put_same
attribute [local go_sem ↓] put_if
end Go.AM
/-
  Contracts: all truths, as the reference lists them.
-/
namespace Go.AM
open Go.Proofs.Tryz
attribute [-go_sem] put_ne put_same
attribute [local go_sem ↓] put_if
/-- Values, by cells. -/
def encZ : Enc AVal := ⟨1, fun v => [norm v], fun _ => rfl, by decide⟩
/-- Truths in a list of one's own. -/
def AllAt (b : Nat) (H : Heap) (v : AVal) (ts : List (List Brk)) : Prop := ∃ vs : List AVal, Own encZ 66 b H v vs ∧ vs.length = ts.length ∧ ∀ (i : Nat) x t, vs[i]? = some x → ts[i]? = some t → OwnE encB 128 0 H x t
section
variable {b : Nat} {H H' : Heap} {v : AVal} {ts : List (List Brk)}
end
/-! ### The list of all truths -/
def addB (k f t : Int) (rest : List (List Brk)) : List (List Brk) := rest.map fun x => (k, f, t) :: x
def toN (k : Int) (f : Nat) (rest : List (List Brk)) : Nat → List (List Brk)
  | 0 => []
  | n + 1 => toN k f rest n ++ addB k (f : Int) ((f + n : Nat) : Int) rest
def frN (k : Int) (T : Nat) (rest : List (List Brk)) : Nat → List (List Brk)
  | 0 => []
  | n + 1 => frN k T rest n ++ toN k n rest (T - n)
def allR (T : Nat) : Nat → Nat → List (List Brk)
  | _, 0 => [[]]
  | k, m + 1 => allR T (k + 1) m ++ frN (k : Int) T (allR T (k + 1) m) T
end Go.AM
