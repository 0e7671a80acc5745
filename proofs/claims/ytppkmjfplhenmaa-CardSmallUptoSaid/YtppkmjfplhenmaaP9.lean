/-
  Plain facts: runs of patterns that are exchanged, and of a pattern with itself and with its turned one; lifts with fewer threads.
-/
import Derived.Test.YtppkmjfplhenmaaP2
import Derived.Test.YtppkmjfplhenmaaP5
set_option linter.unusedSimpArgs false
set_option linter.unusedVariables false
namespace Go.AM
open Go.Proofs.Try

/-- A pattern whose lifts are taken to fewer threads. -/
def remL (w : Nat) (L : List Int) : List Int := lst (fun t => ((L.getD t 0).toNat % 2 ^ w : Nat)) L.length
theorem remL_len {w : Nat} {L : List Int} : (remL w L).length = L.length := by unfold remL; rw [lst_len]
theorem remL_ok {W W' : Int} {L : List Int} (hW : 1 ≤ W ∧ W ≤ 8) (hL : chk W' L = 0) : chk W (remL W.toNat L) = 0 := by
  obtain ⟨_, hn, _⟩ := chk_ok hL
  have hB1 : ((2 : Int) ^ W.toNat) = ((2 ^ W.toNat : Nat) : Int) := by simp
  unfold chk
  rw [if_neg (by omega), if_neg (by rw [remL_len]; omega), if_neg]
  intro hh
  refine hh (List.all_eq_true.2 fun x hx => ?_)
  obtain ⟨i, _, rfl⟩ := List.mem_map.1 hx
  have := Nat.mod_lt (L.getD i 0).toNat (Nat.two_pow_pos W.toNat)
  rw [hB1]
  simp only [decide_eq_true_eq]
  omega

theorem runAt_iff {p q : List Int} {a b n : Nat} {k : Bool} : runAt p q a b k n = true ↔ (a + n < p.length ∧ (0 ≤ posI b k n ∧ posI b k n < q.length) ∧ p.getD (a + n) 0 = q.getD (posI b k n).toNat 0) := by
  unfold runAt; rw [decide_eq_true_iff]
theorem run_swap {p q : List Int} {a b L : Nat} {k : Bool} (hL : 0 < L) (h : runB p q a b k L = true) : ∃ a' b', runB q p a' b' k L = true := by
  have h1 := of_decide_eq_true h
  cases k with
  | false =>
    refine ⟨b, a, decide_eq_true fun n hn => ?_⟩
    have h2 := runAt_iff.1 (h1 n hn)
    simp only [posI, Bool.false_eq_true, if_false] at h2
    rw [runAt_iff]
    simp only [posI, Bool.false_eq_true, if_false]
    have e1 : ((b : Int) + (n : Int)).toNat = b + n := by omega
    have e2 : ((a : Int) + (n : Int)).toNat = a + n := by omega
    rw [e1] at h2
    rw [e2]
    exact ⟨by omega, by omega, h2.2.2.symm⟩
  | true =>
    have h0 := runAt_iff.1 (h1 (L - 1) (by omega))
    simp only [posI, if_true] at h0
    refine ⟨b - (L - 1), a + (L - 1), decide_eq_true fun n hn => ?_⟩
    have h2 := runAt_iff.1 (h1 (L - 1 - n) (by omega))
    simp only [posI, if_true] at h2
    rw [runAt_iff]
    simp only [posI, if_true]
    have e1 : ((b : Int) - ((L - 1 - n : Nat) : Int)).toNat = b - (L - 1) + n := by omega
    have e2 : (((a + (L - 1) : Nat) : Int) - (n : Int)).toNat = a + (L - 1 - n) := by omega
    rw [e1] at h2
    rw [e2]
    exact ⟨by omega, by omega, h2.2.2.symm⟩
theorem long_le {p q : List Int} : (shAll p q p.length).2.2.1 ≤ (shAll q p q.length).2.2.1 := by
  by_cases h0 : (shAll p q p.length).2.2.1 = 0
  · omega
  · rcases (sh_spec (p := p) (q := q)).2 with h1 | ⟨h1, h2, _⟩
    · rw [h1] at h0; exact absurd rfl h0
    · obtain ⟨a, b, h3⟩ := run_swap h1 (runB_len.2 (Nat.le_of_eq h2))
      exact Nat.le_trans (runB_len.1 h3) ((sh_spec (p := q) (q := p)).1 a b _)
theorem long_swap {p q : List Int} : (shAll p q p.length).2.2.1 = (shAll q p q.length).2.2.1 := Nat.le_antisymm long_le long_le
theorem long_min {p q : List Int} : (shAll p q p.length).2.2.1 ≤ min p.length q.length := by
  rcases (sh_spec (p := p) (q := q)).2 with h1 | ⟨h1, h2, _⟩
  · rw [h1]; exact Nat.zero_le _
  · rw [h2]; exact lenR_min
/-- What is found is a run. -/
theorem long_is {p q : List Int} : runB p q (shAll p q p.length).1 (shAll p q p.length).2.1 (shAll p q p.length).2.2.2 (shAll p q p.length).2.2.1 = true := by
  rcases (sh_spec (p := p) (q := q)).2 with h1 | ⟨h1, h2, _⟩
  · rw [h1]; exact decide_eq_true fun n hn => absurd hn (Nat.not_lt_zero n)
  · exact runB_len.2 (Nat.le_of_eq h2)
/-- Nothing that is tried is better. -/
theorem long_best {p q : List Int} {a b L : Nat} {k : Bool} (hL : 0 < L) (h : runB p q a b k L = true) : L ≤ (shAll p q p.length).2.2.1 ∧ (L = (shAll p q p.length).2.2.1 → ¬ ltR a b k (shAll p q p.length).1 (shAll p q p.length).2.1 (shAll p q p.length).2.2.2) := by
  have h1 := runB_len.1 h
  have h2 := (sh_spec (p := p) (q := q)).1 a b k
  refine ⟨by omega, fun e hlt => ?_⟩
  rcases (sh_spec (p := p) (q := q)).2 with h3 | ⟨_, _, h5⟩
  · rw [h3] at e; dsimp only at e; omega
  · have := h5 a b k hlt; omega
theorem own_run {p : List Int} (hp : 0 < p.length) : shAll p p p.length = (0, 0, p.length, false) := by
  refine sh_hit hp (decide_eq_true fun n hn => ?_) (fun a b k => ?_) (fun a b k hlt => ?_)
  · rw [runAt_iff]
    simp only [posI, Bool.false_eq_true, if_false]
    have e : (((0 : Nat) : Int) + (n : Int)).toNat = 0 + n := by omega
    rw [e]
    exact ⟨by omega, by omega, rfl⟩
  · cases h : runB p p a b k (p.length + 1) with
    | false => rfl
    | true =>
      have h1 := runB_len.1 h
      have h2 := lenR_min (p := p) (q := p) (a := a) (b := b) (k := k)
      omega
  · simp [ltR] at hlt
theorem turned_run {p : List Int} (hp : 0 < p.length) : (shAll p p.reverse p.length).2.2.1 = p.length := by
  have h1 : runB p p.reverse 0 (p.length - 1) true p.length = true := by
    refine decide_eq_true fun n hn => ?_
    rw [runAt_iff]
    simp only [posI, if_true, List.length_reverse]
    have e : (((p.length - 1 : Nat) : Int) - (n : Int)).toNat = p.length - 1 - n := by omega
    rw [e]
    refine ⟨by omega, by omega, ?_⟩
    rw [List.getD_eq_getElem?_getD, List.getD_eq_getElem?_getD, List.getElem?_reverse (by omega), Nat.zero_add, show p.length - 1 - (p.length - 1 - n) = n by omega]
  have h2 := (long_best hp h1).1
  have h3 := long_min (p := p) (q := p.reverse)
  omega
end Go.AM
