/-
  Parts of rows.
-/
import Derived.Test.YteanoaejoddnbaaU7
set_option linter.unusedSimpArgs false
set_option linter.unusedVariables false
namespace Go.AM
/-- A part of a slice. -/
def slcV (v : AVal) (lo hi : Nat) : AVal := match v with | .slice a _ k => .slice (a.map (·.add lo)) (hi - lo) (k - lo) | v => v
section
variable {P : Program} {h : Heap} {v : AVal} {l : List Int} {t e : TypeId} {zs : List AVal} {lo hi : Nat}
theorem Ints.slc (hI : Ints h v l) (h1 : lo ≤ hi) (h2 : hi ≤ l.length) : Ints h (slcV v lo hi) ((l.take hi).drop lo) := by
  have hlen : ((l.take hi).drop lo).length = hi - lo := by simp; omega
  have hb : ((l.take hi).drop lo).length < 2 ^ 60 := by
    rw [hlen]
    have := hI.1.1
    omega
  refine ⟨⟨hb, fun x hx => hI.1.2 x (List.mem_of_mem_take (List.mem_of_mem_drop hx))⟩, ?_⟩
  rcases hI.2 with ⟨rfl, rfl⟩ | ⟨rfl, rfl⟩ | ⟨r, k, c, e, row, ro, rfl, h3, h4, h5, h6⟩
  · simp only [List.length_nil] at h2
    have : hi = 0 := by omega
    subst this
    have : lo = 0 := by omega
    subst this
    exact .inl ⟨rfl, rfl⟩
  · exact .inr (.inl ⟨rfl, by simp⟩)
  · refine .inr (.inr ⟨r.add lo, k - lo, c, e, row, ro, ?_, h3, ?_, ?_, ?_⟩)
    · simp only [slcV, Option.map_some, hlen]
    · simp only [ARef.add, hlen]
      have : ints ((l.take hi).drop lo) = ((ints l).take hi).drop lo := by simp [ints, List.map_take, List.map_drop]
      rw [this, ← h4, List.take_take, Nat.min_eq_left h2, List.drop_take, List.drop_drop]
    · simp only [ARef.add, hlen]; omega
    · rw [hlen]; omega
theorem boundI {n : Int} {hi : Nat} (h0 : 0 ≤ n) (h1 : n ≤ hi) : boundA (.int .i64 n) hi = some n.toNat := by simp [boundA, h0, h1]
theorem sl_hi (ht : elS P t = some (e, 1, zs)) (ha : arT P t = none) {n : Int} (h0 : 0 ≤ n) (hI : Ints h v l) (h1 : n ≤ l.length) : sliceA P t v none (some (.int .i64 n)) none = some (slcV v 0 n.toNat) := by
  rcases hI.2 with ⟨rfl, rfl⟩ | ⟨rfl, rfl⟩ | ⟨r, k, c, e, row, ro, rfl, h3, h4, h5, h6⟩
  · simp only [List.length_nil] at h1
    simp only [sliceA, ha, ht, optB, boundI h0 h1]
    simp [slcV]
  · simp only [List.length_nil] at h1
    simp only [sliceA, ha, ht, optB, boundI h0 h1]
    simp [slcV]
  · simp only [sliceA, ha, ht, optB, boundI h0 (show n ≤ (k : Int) by omega)]
    simp [slcV]
end
end Go.AM
