/-
  Contracts: the reference's parts at work; what a break spoils.
-/
import Derived.Test.YtlhmeoeamcgcmaaGreatE53
set_option linter.unusedSimpArgs false
set_option linter.unusedVariables false
namespace Go.AM
open Go.Proofs.Tryz
attribute [-go_sem] put_ne put_same
attribute [local go_sem ↓] put_if
theorem getD_in {α : Type} {l : List α} {d : α} {i : Nat} (h : i < l.length) : l.getD i d ∈ l := List.mem_of_getElem? (getD_some h)
/-- Does a part work at a spot? -/
def wks (p : Prt) (x : Int × Int) : Bool := decide (x.2.tmod p.each = p.ph ∧ x.1 ∈ p.rib)
/-- Does a break spoil a spot? -/
def splR (L : Lom) (b : Int × Int × Int) (x : Int × Int) : Bool := decide (b.2.1 ≤ x.2 ∧ x.2 ≤ b.2.2) && wks (L.ps.getD b.1.toNat prt0) x
/-- Rising lists of the same numbers. -/
theorem pair_ext : ∀ {l m : List Int}, l.Pairwise (· < ·) → m.Pairwise (· < ·) → (∀ x, x ∈ l ↔ x ∈ m) → l = m
  | [], [], _, _, _ => rfl
  | [], y :: m, _, _, h => by have := (h y).2 (by simp); cases this
  | x :: l, [], _, _, h => by have := (h x).1 (by simp); cases this
  | x :: l, y :: m, hl, hm, h => by
    have e : x = y := by
      have h1 := (h x).1 (by simp)
      have h2 := (h y).2 (by simp)
      rcases List.mem_cons.1 h1 with q | q
      · exact q
      · rcases List.mem_cons.1 h2 with r | r
        · exact r.symm
        · have := List.rel_of_pairwise_cons hm q
          have := List.rel_of_pairwise_cons hl r
          omega
    subst e
    congr 1
    refine pair_ext (List.pairwise_cons.1 hl).2 (List.pairwise_cons.1 hm).2 fun z => ⟨fun hz => ?_, fun hz => ?_⟩
    · have := List.rel_of_pairwise_cons hl hz
      rcases List.mem_cons.1 ((h z).1 (by simp [hz])) with q | q
      · omega
      · exact q
    · have := List.rel_of_pairwise_cons hm hz
      rcases List.mem_cons.1 ((h z).2 (by simp [hz])) with q | q
      · omega
      · exact q
end Go.AM
