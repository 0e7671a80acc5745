/-
  Plain: the weaver's sights, as the reference says them.
-/
import Derived.Test.YtlhmeoeamcgcmaaGreatE65
set_option linter.unusedSimpArgs false
set_option linter.unusedVariables false
namespace Go.AM

theorem selN_sub {l : List Int} {p : Nat → Bool} : ∀ n, n ≤ l.length → (selN p (fun k => l.getD k 0) n).Sublist (l.take n)
  | 0, _ => by simp [selN]
  | n + 1, h => by
    rw [selN, List.take_add_one, List.getElem?_eq_getElem (show n < l.length by omega)]
    refine (selN_sub n (by omega)).append ?_
    split
    · rw [getD_at (show n < l.length by omega)]; exact .refl _
    · exact List.nil_sublist _
theorem wvrM_sorted {L : Lom} : (wvrM L).1.Pairwise (· < ·) := by
  unfold wvrM
  split
  · exact .nil
  · have := selN_sub (l := (deskA L).1) (p := fun k => decide ((expA L (othF L (2 ^ k))).1 = 0)) _ (Nat.le_refl _)
    rw [List.take_length] at this
    exact deskA_sorted.sublist this
/-- No truth explains the loom. -/
theorem none_of {L : Lom} (hc : chkM L = 0) (h : trsR L = []) : tolE L false = 7 := by
  rw [tolE_no hc fun ⟨t, ht⟩ => by have := (trsR_mem hc).2 ht; rw [h] at this; cases this]
  rfl
theorem some_of {L : Lom} (hc : chkM L = 0) (h : trsR L ≠ []) : ∃ t, XpA L t := by
  obtain ⟨t, ht⟩ := List.exists_mem_of_ne_nil _ h
  exact ⟨t, (trsR_mem hc).1 ht⟩
theorem wvsR_eq {L : Lom} (hc : chkM L = 0) {t : List Brk} (ht : XpA L t) : wvsR L (trsR L) L.ss.length = (wvrM L).1 := by
  refine pair_ext ((upto_sorted _).filter _) wvrM_sorted fun x => ?_
  show x ∈ wvsR L (trsR L) L.ss.length ↔ _
  rw [(wvrM_mem hc ht).2]
  unfold wvsR wvsB
  rw [List.mem_filter, upto_mem, Bool.and_eq_true, List.all_eq_true]
  constructor
  · rintro ⟨h1, h2, h3⟩
    exact ⟨⟨h1, h2⟩, fun t ht => (wvB_iff ht.1.2).1 (h3 t ((trsR_mem hc).2 ht))⟩
  · rintro ⟨⟨h1, h2⟩, h3⟩
    exact ⟨h1, h2, fun t ht => (wvB_iff ((trsR_mem hc).1 ht).1.2).2 (h3 t ((trsR_mem hc).1 ht))⟩
theorem wvrM_no {L : Lom} (hc : chkM L = 0) (h : trsR L = []) : wvrM L = ([], 7) := by
  unfold wvrM
  rw [none_of hc h]
  rfl
theorem wvrM_bad {L : Lom} (hc : chkM L ≠ 0) : wvrM L = ([], chkM L) := by
  unfold wvrM tolE
  rw [if_pos hc, if_pos hc]
/-- The error of Other, as the reference says it. -/
def othR (L : Lom) (i : Int) : Int := if ¬ (0 ≤ i ∧ i < (L.ss.length : Int)) then 1 else if badI L i = false then 8 else if (wvrM L).2 ≠ 0 then (wvrM L).2 else if i ∈ (wvrM L).1 then 6 else 0
theorem othM_err {L : Lom} (hc : chkM L = 0) {i : Int} : (othM L i).2 = othR L i ∧ (othR L i ≠ 0 → (othM L i).1 = []) ∧ (othR L i = 0 → XpA L (othM L i).1 ∧ ¬ wvT L (othM L i).1 (sgtI L i)) := by
  by_cases c1 : 0 ≤ i ∧ i < (L.ss.length : Int)
  · by_cases c2 : badI L i = false
    · have e : othM L i = ([], 8) := by unfold othM; rw [if_neg (by simp [hc]), if_neg (by rw [sgtB_iff.2 c1]; simp), if_pos c2]
      have r : othR L i = 8 := by unfold othR; rw [if_neg (fun q => q c1), if_pos c2]
      rw [e, r]
      exact ⟨rfl, fun _ => rfl, fun q => by cases q⟩
    · have c2' : badI L i = true := by cases h : badI L i <;> simp_all
      by_cases c3 : trsR L = []
      · have w := wvrM_no hc c3
        have e : othM L i = ([], 7) := by unfold othM; rw [if_neg (by simp [hc]), if_neg (by rw [sgtB_iff.2 c1]; simp), if_neg c2, none_of hc c3]; rfl
        have r : othR L i = 7 := by unfold othR; rw [if_neg (fun q => q c1), if_neg c2, w]; rfl
        rw [e, r]
        exact ⟨rfl, fun _ => rfl, fun q => by cases q⟩
      · obtain ⟨t, ht⟩ := some_of hc c3
        have w := wvrM_mem hc ht
        have r : othR L i = if i ∈ (wvrM L).1 then 6 else 0 := by unfold othR; rw [if_neg (fun q => q c1), if_neg c2, if_neg (by simp [w.1])]
        rcases othM_truth hc ht c1 c2' with ⟨h1, h2⟩ | ⟨h1, h2, h3⟩
        · have hi : i ∈ (wvrM L).1 := (w.2 i).2 ⟨⟨c1, c2'⟩, h1⟩
          rw [r, if_pos hi, h2]
          exact ⟨rfl, fun _ => rfl, fun q => by cases q⟩
        · have hi : ¬ i ∈ (wvrM L).1 := fun q => h3 (((w.2 i).1 q).2 _ h2)
          rw [r, if_neg hi]
          exact ⟨h1, fun q => absurd rfl q, fun _ => ⟨h2, h3⟩⟩
  · have e : othM L i = ([], 1) := by
      unfold othM
      rw [if_neg (by simp [hc]), if_pos]
      rw [Bool.eq_false_iff]
      exact fun q => c1 (sgtB_iff.1 q)
    have r : othR L i = 1 := by unfold othR; rw [if_pos c1]
    rw [e, r]
    exact ⟨rfl, fun _ => rfl, fun q => by cases q⟩
end Go.AM
