/-
  Plain: the weaver's sights, as the reference says them.
-/
import Derived.Test.YtlhmeoeamcgcmaaGreatE65
set_option linter.unusedSimpArgs false
set_option linter.unusedVariables false
namespace Go.AM
/-- No truth explains the loom. -/
theorem none_of {L : Lom} (hc : chkM L = 0) (h : trsR L = []) : tolE L false = 7 := by
  rw [tolE_no hc fun ⟨t, ht⟩ => by have := (trsR_mem hc).2 ht; rw [h] at this; cases this]
  rfl
theorem some_of {L : Lom} (hc : chkM L = 0) (h : trsR L ≠ []) : ∃ t, XpA L t := by
  obtain ⟨t, ht⟩ := List.exists_mem_of_ne_nil _ h
  exact ⟨t, (trsR_mem hc).1 ht⟩
/-- The error of Other, as the reference says it. -/
def othR (L : Lom) (i : Int) : Int := if ¬ (0 ≤ i ∧ i < (L.ss.length : Int)) then 1 else if badI L i = false then 8 else if (wvrM L).2 ≠ 0 then (wvrM L).2 else if i ∈ (wvrM L).1 then 6 else 0
end Go.AM
