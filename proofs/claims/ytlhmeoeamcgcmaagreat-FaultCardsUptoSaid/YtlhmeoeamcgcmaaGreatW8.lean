/-
  Plain theory: looms whose parts, ribbons and sights have other numbers.
-/
import Derived.Test.YtlhmeoeamcgcmaaGreatWJ
set_option linter.unusedSimpArgs false
set_option linter.unusedVariables false
namespace Go.AM
/-- The numbers below n, to and fro. -/
structure Bij (n : Int) (p q : Int → Int) : Prop where
  to : ∀ i, 0 ≤ i ∧ i < n → (0 ≤ p i ∧ p i < n) ∧ q (p i) = i
  fro : ∀ i, 0 ≤ i ∧ i < n → (0 ≤ q i ∧ q i < n) ∧ p (q i) = i
structure Ren (L M : Lom) (p q r w s u : Int → Int) : Prop where
  hT : M.T = L.T
  hR : M.R = L.R
  hp : M.ps.length = L.ps.length
  hs : M.ss.length = L.ss.length
  pq : Bij (L.ps.length : Int) p q
  rw : Bij L.R r w
  su : Bij (L.ss.length : Int) s u
  rib : ∀ i, 0 ≤ i ∧ i < (L.ps.length : Int) → ∀ x ∈ (L.ps.getD i.toNat prt0).rib, 0 ≤ x ∧ x < L.R
  srib : ∀ i, 0 ≤ i ∧ i < (L.ss.length : Int) → 0 ≤ (sgtI L i).rib ∧ (sgtI L i).rib < L.R
  part : ∀ i, 0 ≤ i ∧ i < (L.ps.length : Int) → (M.ps.getD (p i).toNat prt0).each = (L.ps.getD i.toNat prt0).each ∧ (M.ps.getD (p i).toNat prt0).ph = (L.ps.getD i.toNat prt0).ph ∧ (M.ps.getD (p i).toNat prt0).wv = (L.ps.getD i.toNat prt0).wv ∧
    ∀ x, x ∈ (M.ps.getD (p i).toNat prt0).rib ↔ ∃ y ∈ (L.ps.getD i.toNat prt0).rib, x = r y
  sgt : ∀ i, 0 ≤ i ∧ i < (L.ss.length : Int) → sgtI M (s i) = ⟨r (sgtI L i).rib, (sgtI L i).lo, (sgtI L i).hi, (sgtI L i).bad⟩
section
variable {L M : Lom} {p q r w s u : Int → Int}
def mvB (p : Int → Int) (b : Brk) : Brk := (p b.1, b.2.1, b.2.2)
def mvT (p : Int → Int) (t : List Brk) : List Brk := (t.map (mvB p)).mergeSort fun a b => decide (a.1 ≤ b.1)
theorem selN_at {f : Nat → Bool} {g : Nat → Int} {x : Int} : ∀ {n : Nat}, x ∈ selN f g n → ∃ i, i < n ∧ x = g i
  | 0, h => by cases h
  | n + 1, h => by
    rw [selN, List.mem_append] at h
    rcases h with h | h
    · obtain ⟨i, h1, h2⟩ := selN_at h
      exact ⟨i, by omega, h2⟩
    · split at h
      · exact ⟨n, by omega, List.mem_singleton.1 h⟩
      · cases h
theorem selN_up {f : Nat → Bool} {g : Nat → Int} : ∀ {n : Nat}, (∀ i k, i < k → k < n → g i < g k) → (selN f g n).Pairwise (· < ·)
  | 0, _ => .nil
  | n + 1, h => by
    rw [selN, List.pairwise_append]
    refine ⟨selN_up fun i k h1 h2 => h i k h1 (by omega), by split <;> simp, fun a ha b hb => ?_⟩
    obtain ⟨i, h1, rfl⟩ := selN_at ha
    split at hb
    · rw [List.mem_singleton.1 hb]; exact h i n h1 (by omega)
    · cases hb
end
end Go.AM
