/-
  What a weaver pays; plain: the truths that the reference lists.
-/
import Derived.Test.YtlhmeoeamcgcmaaGreatE64
set_option linter.unusedSimpArgs false
set_option linter.unusedVariables false
namespace Go.AM
open Go.Proofs.Tryz
attribute [-go_sem] put_ne put_same
attribute [local go_sem ↓] put_if
/-! ### How many truths there are -/
theorem toN_tri {k : Int} {T : Nat} {rest : List (List Brk)} : ∀ n, n ≤ T → 2 * (frN k T rest n).length = n * (2 * T + 1 - n) * rest.length
  | 0, _ => by simp [frN]
  | n + 1, h => by
    have ih := toN_tri (k := k) (T := T) (rest := rest) n (by omega)
    rw [frN, List.length_append, toN_len, Nat.mul_add, ih, ← Nat.mul_assoc, ← Nat.add_mul]
    congr 1
    obtain ⟨d, rfl⟩ : ∃ d, T = n + 1 + d := ⟨T - (n + 1), by omega⟩
    rw [show 2 * (n + 1 + d) + 1 - n = n + 2 * d + 3 by omega, show n + 1 + d - n = d + 1 by omega, show 2 * (n + 1 + d) + 1 - (n + 1) = n + 2 * d + 2 by omega]
    simp only [Nat.mul_add, Nat.add_mul, Nat.mul_one, Nat.one_mul]
    omega
theorem allR_count {T : Nat} : ∀ (m k : Nat), (allR T k m).length = (T * (T + 1) / 2 + 1) ^ m
  | 0, k => by simp [allR]
  | m + 1, k => by
    have ih := allR_count (T := T) m (k + 1)
    have ht := toN_tri (k := (k : Int)) (T := T) (rest := allR T (k + 1) m) T (Nat.le_refl _)
    rw [show 2 * T + 1 - T = T + 1 by omega] at ht
    have hev : 2 * (T * (T + 1) / 2) = T * (T + 1) := by
      have : T * (T + 1) % 2 = 0 := by
        rcases Nat.mod_two_eq_zero_or_one T with e | e
        · rw [Nat.mul_mod, e, Nat.zero_mul]
        · rw [Nat.mul_mod, show (T + 1) % 2 = 0 by omega, Nat.mul_zero]
      omega
    rw [← hev, Nat.mul_assoc] at ht
    rw [allR, List.length_append, Nat.pow_succ, ← ih, Nat.mul_add, Nat.mul_one, Nat.mul_comm (allR T (k + 1) m).length]
    omega
theorem waysN_nat {L : Lom} {T : Nat} (e : L.T = (T : Int)) (m k : Nat) : waysN L m = ((allR T k m).length : Int) := by
  rw [allR_count]
  unfold waysN
  rw [e, Int.tdiv_eq_ediv_of_nonneg (by exact Int.mul_nonneg (by omega) (by omega))]
  push_cast
  rfl
/-! ### The truths -/
def trsR (L : Lom) : List (List Brk) := (allR L.T.toNat 0 L.ps.length).filter (xplM L)
theorem allR_ok {L : Lom} (hc : chkM L = 0) {t : List Brk} : t ∈ allR L.T.toNat 0 L.ps.length ↔ truOk L t := by
  obtain ⟨k1, k2, _⟩ := chkM_ok hc
  rw [allR_mem]
  unfold truOk brkOk
  refine and_congr_right fun _ => forall_congr' fun b => imp_congr_right fun _ => ?_
  constructor
  · intro h; omega
  · intro h; omega
theorem trsR_mem {L : Lom} (hc : chkM L = 0) {t : List Brk} : t ∈ trsR L ↔ XpA L t := by
  unfold trsR
  rw [List.mem_filter, allR_ok hc, xplM_iff hc]
  exact ⟨fun h => h.2, fun h => ⟨h.1, h⟩⟩
/-! ### Fine -/
def finM (L : Lom) (p : Int) : Int × Int := if chkM L ≠ 0 then (0, chkM L) else if ¬ (0 ≤ p ∧ p ≤ 1000) then (0, 3) else if (wvrM L).2 ≠ 0 then (0, (wvrM L).2) else (p * ((wvrM L).1.length : Int), 0)
end Go.AM
