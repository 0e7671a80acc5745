/-
  Contracts: the reference's spots of a break, and where a part is excluded.
-/
import Derived.Test.YtlhmeoeamcgcmaaGreatE54
import Derived.Test.YtlhmeoeamcgcmaaGreatWJ
set_option linter.unusedSimpArgs false
set_option linter.unusedVariables false
namespace Go.AM
open Go.Proofs.Tryz
attribute [-go_sem] put_ne put_same
attribute [local go_sem ↓] put_if
def rowSp (L : Lom) (b : Int × Int × Int) (r : Int) (n : Nat) : List (Int × Int) := ((upto n).filter fun t => splR L b (r, t)).map fun t => (r, t)
def sptR (L : Lom) (b : Int × Int × Int) (n : Nat) : List (Int × Int) := (upto n).flatMap fun r => rowSp L b r L.T.toNat
theorem rowSp_len {L : Lom} {b : Int × Int × Int} {r : Int} {n : Nat} : (rowSp L b r n).length ≤ n := by
  have := List.length_filter_le (fun t : Int => splR L b (r, t)) (upto n)
  rw [upto_len] at this
  unfold rowSp
  rw [List.length_map]; exact this
theorem sptR_succ {L : Lom} {b : Int × Int × Int} {n : Nat} : sptR L b (n + 1) = sptR L b n ++ rowSp L b (n : Int) L.T.toNat := by
  unfold sptR
  rw [upto_succ, List.flatMap_append]
  simp
theorem sptR_len {L : Lom} {b : Int × Int × Int} : ∀ n, (sptR L b n).length ≤ n * L.T.toNat
  | 0 => by simp [sptR, upto, lst]
  | n + 1 => by
    have := sptR_len (L := L) (b := b) n
    have := rowSp_len (L := L) (b := b) (r := (n : Int)) (n := L.T.toNat)
    rw [sptR_succ, List.length_append, Nat.succ_mul]; omega
/-! ### Excluded -/
def exS (q : Prt) (t : Int) (s : Sgt) : Bool := !s.bad && (decide (s.lo ≤ t ∧ t ≤ s.hi) && wks q (s.rib, t))
def excR (L : Lom) (k : Nat) (n : Nat) : List Int := (upto n).filter fun t => L.ss.any (exS (L.ps.getD k prt0) t)
end Go.AM
/-
  Plain: what the reference says is what fault says.
-/
namespace Go.AM
theorem thr_iff {each ph : Int} {a : Nat} {x : Int} : ∀ n, x ∈ thr each ph a n ↔ ((a : Int) ≤ x ∧ x < ((a + n : Nat) : Int)) ∧ x.tmod each = ph
  | 0 => by simp [thr]; omega
  | n + 1 => by
    simp only [thr, List.mem_append, thr_iff n]
    split
    · rename_i h
      rw [List.mem_singleton]
      constructor
      · rintro (⟨h1, h2⟩ | rfl)
        · exact ⟨by omega, h2⟩
        · exact ⟨by omega, h⟩
      · rintro ⟨h1, h2⟩
        by_cases e : x = ((a + n : Nat) : Int)
        · exact .inr e
        · exact .inl ⟨by omega, h2⟩
    · rename_i h
      constructor
      · rintro (⟨h1, h2⟩ | h1)
        · exact ⟨by omega, h2⟩
        · cases h1
      · rintro ⟨h1, h2⟩
        by_cases e : x = ((a + n : Nat) : Int)
        · subst e; exact absurd h2 h
        · exact .inl ⟨by omega, h2⟩
theorem thr_sorted {each ph : Int} {a : Nat} : ∀ n, (thr each ph a n).Pairwise (· < ·)
  | 0 => List.Pairwise.nil
  | n + 1 => by
    simp only [thr]
    refine List.pairwise_append.2 ⟨thr_sorted n, ?_, fun x hx y hy => ?_⟩
    · split
      · exact List.pairwise_singleton _ _
      · exact List.Pairwise.nil
    · have := (thr_iff n).1 hx
      split at hy
      · rw [List.mem_singleton] at hy; subst hy; omega
      · cases hy
theorem flatMap_if {β : Type} (p : Int → Bool) (g : Int → List β) : ∀ l : List Int, (l.flatMap fun x => if p x = true then g x else []) = (l.filter p).flatMap g
  | [] => rfl
  | x :: l => by
    rw [List.flatMap_cons, List.filter_cons, flatMap_if p g l]
    by_cases h : p x = true
    · rw [if_pos h, if_pos h, List.flatMap_cons]
    · rw [if_neg h, if_neg h, List.nil_append]
theorem sptR_eq {L : Lom} {b : Int × Int × Int} (hc : chkM L = 0) (hk : brkM L b = 0) : sptR L b L.R.toNat = (splM L b).1 := by
  obtain ⟨k1, k2, k3, k4, k5, k6⟩ := chkM_ok hc
  obtain ⟨j1, j2, j3, j4⟩ := brkM_ok hk
  obtain ⟨q, eq⟩ : ∃ q, q = L.ps.getD b.1.toNat prt0 := ⟨_, rfl⟩
  have hqm : q ∈ L.ps := by rw [eq]; exact getD_in (by omega)
  have k5q := k5 q hqm
  unfold splM
  rw [if_neg (by simp [hc]), if_neg (by simp [hk])]
  show _ = spotsN (L.ps.getD b.1.toNat prt0) b.2.1.toNat (b.2.2 + 1 - b.2.1).toNat
  rw [← eq]
  have row : ∀ r, rowSp L b r L.T.toNat = if decide (r ∈ q.rib) = true then (thr q.each q.ph b.2.1.toNat (b.2.2 + 1 - b.2.1).toNat).map fun t => (r, t) else [] := fun r => by
    unfold rowSp splR wks
    rw [← eq]
    by_cases hr : r ∈ q.rib
    · rw [if_pos (decide_eq_true hr)]
      congr 1
      refine pair_ext ((upto_sorted _).filter _) (thr_sorted _) fun x => ?_
      rw [List.mem_filter, upto_mem, thr_iff]
      simp only [Bool.and_eq_true, decide_eq_true_eq, hr, and_true]
      constructor
      · rintro ⟨h1, h2, h3⟩; exact ⟨by omega, h3⟩
      · rintro ⟨h1, h3⟩; exact ⟨by omega, by omega, h3⟩
    · rw [if_neg (by simp [hr])]
      have : ((upto L.T.toNat).filter fun t => decide (b.2.1 ≤ (r, t).2 ∧ (r, t).2 ≤ b.2.2) && decide ((r, t).2.tmod q.each = q.ph ∧ (r, t).1 ∈ q.rib)) = [] := by
        rw [List.filter_eq_nil_iff]
        intro t _
        simp [hr]
      rw [this]
      rfl
  unfold sptR spotsN
  rw [show (fun r => rowSp L b r L.T.toNat) = fun r => if decide (r ∈ q.rib) = true then (thr q.each q.ph b.2.1.toNat (b.2.2 + 1 - b.2.1).toNat).map fun t => (r, t) else [] from funext row, flatMap_if (fun r => decide (r ∈ q.rib))]
  congr 1
  refine pair_ext ((upto_sorted _).filter _) (rise_pair k5q.2.2.2.2) fun x => ?_
  rw [List.mem_filter, upto_mem]
  simp only [decide_eq_true_eq]
  constructor
  · exact fun h => h.2
  · intro h
    have := k5q.2.2.2.1 x h
    exact ⟨by omega, h⟩
end Go.AM
