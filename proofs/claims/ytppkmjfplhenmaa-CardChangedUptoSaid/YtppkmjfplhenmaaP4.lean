/-
  Plain facts: changed squares.
-/
import Derived.Test.YtppkmjfplhenmaaD13
set_option linter.unusedSimpArgs false
set_option linter.unusedVariables false
namespace Go.AM
open Go.Proofs.Try

theorem xor_xor {x y : Nat} : (x ^^^ y) ^^^ y = x := by rw [Nat.xor_assoc, Nat.xor_self, Nat.xor_zero]
theorem chg_back {l : List Int} {t k : Nat} (ht : t < l.length) (h0 : 0 ≤ l.getD t 0) : chgL (chgL l t k) t k = l := by
  unfold chgL
  have e1 : (l.set t (((l.getD t 0).toNat ^^^ 2 ^ k : Nat) : Int)).getD t 0 = (((l.getD t 0).toNat ^^^ 2 ^ k : Nat) : Int) := by
    rw [List.getD_eq_getElem?_getD, List.getElem?_set_self ht]; rfl
  rw [e1, Int.toNat_natCast, xor_xor, List.set_set, Int.toNat_of_nonneg h0]
  have e2 : l.getD t 0 = l[t] := by rw [List.getD_eq_getElem?_getD, List.getElem?_eq_getElem ht]; rfl
  rw [e2, List.set_getElem_self]
theorem chg_ne {l : List Int} {t k : Nat} (ht : t < l.length) : chgL l t k ≠ l := by
  intro e
  have h1 : (chgL l t k).getD t 0 = (((l.getD t 0).toNat ^^^ 2 ^ k : Nat) : Int) := by
    unfold chgL
    rw [List.getD_eq_getElem?_getD, List.getElem?_set_self ht]; rfl
  rw [e] at h1
  have h2 : (l.getD t 0).toNat = (l.getD t 0).toNat ^^^ 2 ^ k := by omega
  have h3 : (l.getD t 0).toNat ^^^ ((l.getD t 0).toNat ^^^ 2 ^ k) = 0 := by rw [← h2, Nat.xor_self]
  rw [← Nat.xor_assoc, Nat.xor_self, Nat.zero_xor] at h3
  have := Nat.two_pow_pos k
  omega

/-- What is known of the best square, of those before (i, j). -/
def BP (w : Nat) (l : List Int) (i j : Nat) (st : Nat × Nat × Int × Bool) : Prop :=
  (st = (0, 0, (fewestS w l).2.1, false) ∧ ∀ t k, (t < i ∨ (t = i ∧ k < j)) → k < w → (fewestS w l).2.1 ≤ (fewestS w (chgL l t k)).2.1) ∨
  (∃ x y, st = (x, y, (fewestS w (chgL l x y)).2.1, true) ∧ (x < i ∨ (x = i ∧ y < j)) ∧ y < w ∧ (fewestS w (chgL l x y)).2.1 < (fewestS w l).2.1 ∧
    ∀ t k, (t < i ∨ (t = i ∧ k < j)) → k < w → (fewestS w (chgL l x y)).2.1 ≤ (fewestS w (chgL l t k)).2.1 ∧ ((fewestS w (chgL l t k)).2.1 = (fewestS w (chgL l x y)).2.1 → x < t ∨ (x = t ∧ y ≤ k)))
theorem BP_step {w : Nat} {l : List Int} {i j : Nat} {st : Nat × Nat × Int × Bool} (h : BP w l i j st) (hj : j < w) : BP w l i (j + 1) (bestep w l i st j) := by
  rcases h with ⟨rfl, h⟩ | ⟨x, y, rfl, h1, h2, h3, h4⟩
  · unfold bestep
    dsimp only
    by_cases hlt : (fewestS w (chgL l i j)).2.1 < (fewestS w l).2.1
    · rw [if_pos hlt]
      refine .inr ⟨i, j, rfl, by omega, hj, hlt, fun t k hb hk => ?_⟩
      by_cases e : t = i ∧ k = j
      · obtain ⟨rfl, rfl⟩ := e; exact ⟨Int.le_refl _, fun _ => by omega⟩
      · have := h t k (by omega) hk
        exact ⟨by omega, fun e2 => by omega⟩
    · rw [if_neg hlt]
      refine .inl ⟨rfl, fun t k hb hk => ?_⟩
      by_cases e : t = i ∧ k = j
      · obtain ⟨rfl, rfl⟩ := e; omega
      · exact h t k (by omega) hk
  · unfold bestep
    dsimp only
    by_cases hlt : (fewestS w (chgL l i j)).2.1 < (fewestS w (chgL l x y)).2.1
    · rw [if_pos hlt]
      refine .inr ⟨i, j, rfl, by omega, hj, by omega, fun t k hb hk => ?_⟩
      by_cases e : t = i ∧ k = j
      · obtain ⟨rfl, rfl⟩ := e; exact ⟨Int.le_refl _, fun _ => by omega⟩
      · have := (h4 t k (by omega) hk).1
        exact ⟨by omega, fun e2 => by omega⟩
    · rw [if_neg hlt]
      refine .inr ⟨x, y, rfl, by omega, h2, h3, fun t k hb hk => ?_⟩
      by_cases e : t = i ∧ k = j
      · obtain ⟨rfl, rfl⟩ := e; exact ⟨by omega, fun _ => by omega⟩
      · exact h4 t k (by omega) hk
theorem BP_row {w : Nat} {l : List Int} {i : Nat} {st : Nat × Nat × Int × Bool} (h : BP w l i w st) : BP w l (i + 1) 0 st := by
  rcases h with ⟨e, h⟩ | ⟨x, y, e, h1, h2, h3, h4⟩
  · exact .inl ⟨e, fun t k hb hk => h t k (by omega) hk⟩
  · exact .inr ⟨x, y, e, by omega, h2, h3, fun t k hb hk => h4 t k (by omega) hk⟩
theorem BP_brow {w : Nat} {l : List Int} {i : Nat} {st : Nat × Nat × Int × Bool} (h : BP w l i 0 st) : ∀ m, m ≤ w → BP w l i m (brow w l i st m)
  | 0, _ => h
  | m + 1, hm => by rw [brow_succ]; exact BP_step (BP_brow h m (by omega)) (by omega)
theorem BP_ball {w : Nat} {l : List Int} : ∀ m, BP w l m 0 (ball w l m)
  | 0 => .inl ⟨rfl, fun t k hb => by omega⟩
  | m + 1 => by rw [ball_succ]; exact BP_row (BP_brow (BP_ball m) w (Nat.le_refl _))
end Go.AM
