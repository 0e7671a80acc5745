/-
  Contracts: the reference's truths (Touches, bad, Left, Truth).
-/
import Derived.Test.YtlhmeoeamcgcmaaGreatE54
import Derived.Test.YtlhmeoeamcgcmaaGreatW9
set_option linter.unusedSimpArgs false
set_option linter.unusedVariables false
namespace Go.AM
open Go.Proofs.Tryz
attribute [-go_sem] put_ne put_same
attribute [local go_sem ↓] put_if
theorem splB_splR {L : Lom} {b : Brk} {s : Sgt} (hb : brkOk L b) : splB L b s = true ↔ ∃ t : Int, s.lo ≤ t ∧ t ≤ s.hi ∧ splR L b (s.rib, t) = true := by
  rw [splB_iff hb]
  unfold tch splR wks
  simp only [Bool.and_eq_true, decide_eq_true_eq]
  constructor
  · rintro ⟨h1, t, h2, h3, h4, h5, h6⟩; exact ⟨t, h4, h5, ⟨h2, h3⟩, h6, h1⟩
  · rintro ⟨t, h4, h5, ⟨h2, h3⟩, h6, h1⟩; exact ⟨h1, t, h2, h3, h4, h5, h6⟩
def sgR (s : Sgt) : Prop := 0 ≤ s.lo ∧ s.lo ≤ 1000 ∧ s.hi ≤ 1000
/-! ### Left -/
def lefR (L : Lom) (t : List Brk) (n : Nat) : List Int := (upto n).filter fun i => badB L t (L.ss.getD i.toNat sgt0) != (L.ss.getD i.toNat sgt0).bad
end Go.AM
