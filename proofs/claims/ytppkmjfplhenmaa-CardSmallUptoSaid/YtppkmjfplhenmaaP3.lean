/-
  Plain facts: the fewest cards of a kind, and of all.
-/
import Derived.Test.YtppkmjfplhenmaaR4
set_option linter.unusedSimpArgs false
set_option linter.unusedVariables false
namespace Go.AM
open Go.Proofs.Try

/-- The fewest cards of a kind and a step. -/
theorem only_is {w : Int} {l : List Int} (hc : chk w l = 0) (k s : Nat) : (1 ≤ onlyN w.toNat l k s ∧ onlyN w.toNat l k s ≤ l.length) ∧ (firstS w.toNat l k (onlyN w.toNat l k s) s).2.2 = false ∧ ∀ m, 1 ≤ m → m < onlyN w.toNat l k s → (firstS w.toNat l k m s).2.2 = true := by
  obtain ⟨hw, hp, hx⟩ := chk_ok hc
  unfold onlyN
  cases hf : findI (fun m => !(firstS w.toNat l k (m + 1) s).2.2) l.length with
  | some m =>
    obtain ⟨h1, h2, h3⟩ := findI_is hf
    simp only
    refine ⟨by omega, by simpa using h2, fun m' hm1 hm2 => ?_⟩
    have := h3 (m' - 1) (by omega)
    rw [show m' - 1 + 1 = m' by omega] at this
    simpa using this
  | none =>
    have h1 := findI_not hf (l.length - 1) (by omega)
    rw [show l.length - 1 + 1 = l.length by omega, first_all hc] at h1
    cases h1

theorem plan_of {k s w : Nat} (hk : k ≤ 2) (hs : s < w) (hst : stepOk k s w = true) : ∃ j, j < w + 1 ∧ planK j = k ∧ planT j = s := by
  rw [stepN] at hst
  by_cases h2 : k = 2
  · rw [if_pos h2] at hst
    refine ⟨s + 1, by omega, ?_, ?_⟩
    · unfold planK; rw [if_neg (by omega), if_neg (by omega)]; omega
    · unfold planT; rw [if_neg (by omega)]; omega
  · rw [if_neg h2] at hst
    refine ⟨k, by omega, ?_, ?_⟩
    · unfold planK
      have : k = 0 ∨ k = 1 := by omega
      rcases this with rfl | rfl <;> rfl
    · unfold planT; rw [if_pos (by omega)]; omega
theorem plan_val (j : Nat) : (j = 0 ∧ planK j = 0 ∧ planT j = 0) ∨ (j = 1 ∧ planK j = 1 ∧ planT j = 0) ∨ (2 ≤ j ∧ planK j = 2 ∧ planT j = (j : Int) - 1) := by
  by_cases h0 : j = 0
  · subst h0; exact .inl ⟨rfl, rfl, rfl⟩
  · by_cases h1 : j = 1
    · subst h1; exact .inr (.inl ⟨rfl, rfl, rfl⟩)
    · refine .inr (.inr ⟨by omega, ?_, ?_⟩)
      · unfold planK; rw [if_neg h0, if_neg h1]
      · unfold planT; rw [if_neg (by omega)]
theorem plan_is {j w : Nat} (hw : 1 ≤ w) (hj : j < w + 1) : (planK j).toNat ≤ 2 ∧ (planT j).toNat < w ∧ stepOk ((planK j).toNat : Nat) ((planT j).toNat : Nat) w = true ∧ planK j = ((planK j).toNat : Nat) ∧ planT j = ((planT j).toNat : Nat) := by
  rcases plan_val j with ⟨h, e1, e2⟩ | ⟨h, e1, e2⟩ | ⟨h, e1, e2⟩
  · rw [e1, e2]; exact ⟨by decide, by simp; omega, by rw [stepN]; simp, rfl, rfl⟩
  · rw [e1, e2]; exact ⟨by decide, by simp; omega, by rw [stepN]; simp, rfl, rfl⟩
  · rw [e1, e2]
    have : ((j : Int) - 1).toNat = j - 1 := by omega
    rw [this]
    refine ⟨by decide, by omega, ?_, rfl, by omega⟩
    rw [stepN, if_pos (by decide)]
    omega

/-- The fewest cards of all are the fewest of some plan, and no more than those of any. -/
theorem few_min {w : Int} {l : List Int} (hc : chk w l = 0) :
    (∃ k s : Nat, k ≤ 2 ∧ s < w.toNat ∧ stepOk k s w.toNat = true ∧ (fewestS w.toNat l).1 = k ∧ (fewestS w.toNat l).2.2 = s ∧ (fewestS w.toNat l).2.1 = onlyN w.toNat l k s ∧
      ∀ k' s' : Nat, (k' < k ∨ (k' = k ∧ s' < s)) → k' ≤ 2 → s' < w.toNat → stepOk k' s' w.toNat = true → (fewestS w.toNat l).2.1 < onlyN w.toNat l k' s') ∧
    ∀ k s : Nat, k ≤ 2 → s < w.toNat → stepOk k s w.toNat = true → (fewestS w.toNat l).2.1 ≤ onlyN w.toNat l k s := by
  obtain ⟨hw, hp, hx⟩ := chk_ok hc
  obtain ⟨m, j, h1, h2⟩ := fewN_some hc
  obtain ⟨a1, a2, a3⟩ := findI_is h1
  obtain ⟨b1, b2, b3⟩ := findI_is h2
  have ef : fewestS w.toNat l = (planK j, (m : Int) + 1, planT j) := by
    unfold fewestS
    rw [h1]
    simp only [h2]
  obtain ⟨p1, p2, p3, p4, p5⟩ := plan_is (w := w.toNat) (by omega) b1
  have none_lt : ∀ m', m' < m → ∀ j', j' < w.toNat + 1 → okP w.toNat l (m' + 1) j' = false := fun m' hm' j' hj' => by
    have := a3 m' hm'
    cases hf : fewJ w.toNat l (m' + 1) with
    | some x => rw [hf] at this; cases this
    | none => exact findI_not hf j' hj'
  have low : ∀ k s : Nat, k ≤ 2 → s < w.toNat → stepOk k s w.toNat = true → m + 1 ≤ onlyN w.toNat l k s := fun k s hk hs hst => by
    obtain ⟨j', hj', e1, e2⟩ := plan_of hk hs hst
    obtain ⟨o1, o2, o3⟩ := only_is hc k s
    rcases Nat.lt_or_ge (onlyN w.toNat l k s) (m + 1) with h | h
    · have := none_lt (onlyN w.toNat l k s - 1) (by omega) j' hj'
      rw [show onlyN w.toNat l k s - 1 + 1 = onlyN w.toNat l k s by omega] at this
      unfold okP at this
      rw [e1, e2, Int.toNat_natCast, Int.toNat_natCast, o2] at this
      cases this
    · exact h
  refine ⟨⟨_, _, p1, p2, p3, by rw [ef]; exact p4, by rw [ef]; exact p5, ?_, fun k' s' hlt hk' hs' hst' => ?_⟩, fun k s hk hs hst => ?_⟩
  · rw [ef]
    have h3 := low _ _ p1 p2 p3
    obtain ⟨o1, o2, o3⟩ := only_is hc (planK j).toNat (planT j).toNat
    have : onlyN w.toNat l (planK j).toNat (planT j).toNat ≤ m + 1 := by
      rcases Nat.lt_or_ge (m + 1) (onlyN w.toNat l (planK j).toNat (planT j).toNat) with h | h
      · have h4 := o3 (m + 1) (by omega) h
        unfold okP at b2
        rw [h4] at b2
        cases b2
      · exact h
    dsimp only
    omega
  · rw [ef]
    dsimp only
    have h3 := low k' s' hk' hs' hst'
    have hne : onlyN w.toNat l k' s' ≠ m + 1 := by
      intro e
      obtain ⟨j', hj', e1, e2⟩ := plan_of hk' hs' hst'
      have hjj : j' < j := by
        rcases Nat.lt_or_ge j' j with h | h
        · exact h
        · exfalso
          rcases plan_val j with ⟨h1, f1, f2⟩ | ⟨h1, f1, f2⟩ | ⟨h1, f1, f2⟩ <;> rcases plan_val j' with ⟨h2, g1, g2⟩ | ⟨h2, g1, g2⟩ | ⟨h2, g1, g2⟩ <;> rw [f1, f2] at hlt <;> rw [g1] at e1 <;> rw [g2] at e2 <;> (try simp only [Int.toNat_zero] at hlt) <;> omega
      have := b3 j' hjj
      unfold okP at this
      obtain ⟨o1, o2, o3⟩ := only_is hc k' s'
      rw [e1, e2, Int.toNat_natCast, Int.toNat_natCast, ← e, o2] at this
      cases this
    omega
  · rw [ef]
    dsimp only
    have := low k s hk hs hst
    omega

/-- What is known of the least number behind some plans: those of kinds below i, and of kind i with steps below j. -/
def LP (w : Nat) (l : List Int) (i j : Nat) (x : Int) : Prop := x ≤ l.length ∧
  (x = l.length ∨ ∃ k s : Nat, (k < i ∨ (k = i ∧ s < j)) ∧ k ≤ 2 ∧ s < w ∧ stepOk k s w = true ∧ x = onlyN w l k s) ∧
  ∀ k s : Nat, (k < i ∨ (k = i ∧ s < j)) → k ≤ 2 → s < w → stepOk k s w = true → x ≤ onlyN w l k s
theorem LP_zero {w : Nat} {l : List Int} : LP w l 0 0 l.length := ⟨Int.le_refl _, .inl rfl, fun k s h => by omega⟩
theorem LP_skip {w : Nat} {l : List Int} {i j : Nat} {x : Int} (h : LP w l i j x) (hn : ¬ stepOk i j w = true) : LP w l i (j + 1) x := by
  obtain ⟨h1, h2, h3⟩ := h
  refine ⟨h1, ?_, fun k s hb hk hs hst => ?_⟩
  · rcases h2 with h2 | ⟨k, s, hb, h2⟩
    · exact .inl h2
    · exact .inr ⟨k, s, by omega, h2⟩
  · by_cases e : k = i ∧ s = j
    · obtain ⟨rfl, rfl⟩ := e; exact absurd hst hn
    · exact h3 k s (by omega) hk hs hst
theorem LP_take {w : Nat} {l : List Int} {i j : Nat} {x : Int} (h : LP w l i j x) (hi : i ≤ 2) (hj : j < w) (hst : stepOk i j w = true) : LP w l i (j + 1) (min x (onlyN w l i j : Int)) := by
  obtain ⟨h1, h2, h3⟩ := h
  refine ⟨by omega, ?_, fun k s hb hk hs hst' => ?_⟩
  · by_cases hm : x ≤ (onlyN w l i j : Int)
    · rw [Int.min_eq_left hm]
      rcases h2 with h2 | ⟨k, s, hb, h2⟩
      · exact .inl h2
      · exact .inr ⟨k, s, by omega, h2⟩
    · rw [Int.min_eq_right (by omega)]
      exact .inr ⟨i, j, by omega, hi, hj, hst, rfl⟩
  · by_cases e : k = i ∧ s = j
    · obtain ⟨rfl, rfl⟩ := e; omega
    · have := h3 k s (by omega) hk hs hst'
      omega
theorem LP_row {w : Nat} {l : List Int} {i : Nat} {x : Int} (h : LP w l i w x) : LP w l (i + 1) 0 x := by
  obtain ⟨h1, h2, h3⟩ := h
  refine ⟨h1, ?_, fun k s hb hk hs hst => h3 k s (by omega) hk hs hst⟩
  rcases h2 with h2 | ⟨k, s, hb, h2⟩
  · exact .inl h2
  · exact .inr ⟨k, s, by omega, h2⟩
theorem LP_end {w : Int} {l : List Int} {x : Int} (hc : chk w l = 0) (h : LP w.toNat l 3 0 x) : (fewestS w.toNat l).2.1 = x := by
  obtain ⟨h1, h2, h3⟩ := h
  obtain ⟨⟨k, s, hk, hs, hst, _, _, he, _⟩, hmin⟩ := few_min hc
  have h4 := h3 k s (by omega) hk hs hst
  have hb := (fewest_bd hc).2
  rcases h2 with h2 | ⟨k', s', _, hk', hs', hst', h2⟩
  · omega
  · have := hmin k' s' hk' hs' hst'
    omega
end Go.AM
