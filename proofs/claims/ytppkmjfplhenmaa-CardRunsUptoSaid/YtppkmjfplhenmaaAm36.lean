/-
  Two rows are kept.
-/
import Derived.Test.YtppkmjfplhenmaaAm35
set_option linter.unusedSimpArgs false
set_option linter.unusedVariables false
namespace Go.AM
section
variable {h T : Heap} {v : AVal} {c d : List AVal} {e f : TypeId} {row ro row' ro' : Bool} {i j u x : Nat}

theorem compact_two (hv : v.refs = [(h.length + i, u), (h.length + j, x)]) (hij : i ≠ j) (hb : T[i]? = some ⟨.cells c e row ro, u⟩) (hb' : T[j]? = some ⟨.cells d f row' ro', x⟩) (hc : plainL c = true) (hd : plainL d = true) :
    compact h.length v (h ++ T) = some (v.ren (newId h.length [h.length + i, h.length + j]), h ++ [⟨.cells c e row ro, 0⟩, ⟨.cells d f row' ro', 0⟩]) := by
  have get : ∀ k, (h ++ T)[h.length + k]? = T[k]? := fun k => by rw [List.getElem?_append_right (by omega), Nat.add_sub_cancel_left]
  have g1 := (get i).trans hb
  have g2 := (get j).trans hb'
  have hr : reach (h ++ T) h.length 64 [h.length + i, h.length + j] [] = [h.length + i, h.length + j] := by
    have n1 : ¬ (h.length + i < h.length ∨ ([] : List Nat).contains (h.length + i) = true) := by simp
    have n2 : ¬ (h.length + j < h.length ∨ ([h.length + i] : List Nat).contains (h.length + j) = true) := by
      simp
      exact fun e => hij e.symm
    show reach (h ++ T) h.length (63 + 1) [h.length + i, h.length + j] [] = _
    rw [reach, if_neg n1, g1]
    simp only [Option.map_some, ABody.refs, plainL_refs hc, List.map_nil, Option.getD_some, List.nil_append]
    show reach (h ++ T) h.length (62 + 1) [h.length + j] [h.length + i] = _
    rw [reach, if_neg n2, g2]
    simp only [Option.map_some, ABody.refs, plainL_refs hd, List.map_nil, Option.getD_some, List.append_nil]
    rfl
  unfold compact
  rw [hv]
  simp only [List.map_cons, List.map_nil]
  rw [hr]
  unfold compactBy
  rw [if_pos]
  · simp only [List.take_left, List.map_cons, List.map_nil, g1, g2, ABody.ren, renL_plain hc, renL_plain hd]
  · refine ⟨?_, by simp, by simp; exact hij, ?_⟩
    · rw [hv]
      simp [keptRef, g1, g2]
    · simp [g1, g2, ABody.isLoop, ABody.refs, plainL_refs hc, plainL_refs hd]
theorem newId_fst {n i j u : Nat} : newId n [n + i, n + j] (n + i) u = (n, 0) := by
  unfold newId
  rw [if_neg (by omega)]
  simp
theorem newId_snd {n i j u : Nat} (h : i ≠ j) : newId n [n + i, n + j] (n + j) u = (n + 1, 0) := by
  unfold newId
  rw [if_neg (by omega)]
  have : [n + i, n + j].idxOf (n + j) = 1 := by
    rw [List.idxOf_cons]
    have hb : (n + i == n + j) = false := by simp; exact h
    rw [hb]
    simp
  rw [this]
end
end Go.AM
