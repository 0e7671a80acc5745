/-
  Contracts: the reference's error of a loom.
-/
import Derived.Test.YtlhmeoeamcgcmaaGreatE52
set_option linter.unusedSimpArgs false
set_option linter.unusedVariables false
namespace Go.AM
open Go.Proofs.Tryz
attribute [-go_sem] put_ne put_same
attribute [local go_sem ↓] put_if
/-- Does a list not rise below i? -/
def drop1 (l : List Int) (k : Nat) : Bool := decide (0 < k ∧ l.getD k 0 ≤ l.getD (k - 1) 0)
def dropA (l : List Int) (j : Nat) : Bool := (List.range j).any (drop1 l)
def eachOk (p : Prt) : Bool := decide ((1 ≤ p.each ∧ p.each ≤ 4) ∧ (0 ≤ p.ph ∧ p.ph ≤ p.each - 1))
def inRb (R r : Int) : Bool := decide (0 ≤ r ∧ r ≤ R - 1)
def sgIn (L : Lom) (s : Sgt) : Bool := decide ((0 ≤ s.rib ∧ s.rib ≤ L.R - 1) ∧ (0 ≤ s.lo ∧ s.lo ≤ L.T - 1) ∧ (0 ≤ s.hi ∧ s.hi ≤ L.T - 1))
end Go.AM
