/-
  What the outright laws share.
-/
import Derived.Test.YtppkmjfplhenmaaS6
import Derived.Test.YtppkmjfplhenmaaP3
set_option linter.unusedSimpArgs false
set_option linter.unusedVariables false
namespace Go.AM
open Go.Proofs.Try

theorem neB4 {a b : Bool} : binA prog .neq 4 (.bool a) (.bool b) = some (.bool (decide (a ≠ b))) := by cases a <;> cases b <;> kernel_rfl
theorem nlV_one {n : Nat} {l : List Int} : One (nlV n l) := by
  unfold nlV
  split
  · exact One.lit ⟨rfl, rfl, rfl⟩
  · exact newV_one
theorem nlV_ints {A : Heap} {l : List Int} {n : Nat} (hn : n = A.length) (hs : Small l) : Ints (A ++ newH l) (nlV n l) l := by
  unfold nlV
  split
  · rename_i e
    subst e
    exact ⟨⟨by simp, by simp⟩, .inl ⟨rfl, rfl⟩⟩
  · subst hn
    exact newV_ints hs

theorem cvt53 {x : Int} (h : 0 ≤ x ∧ x ≤ 255) : convA prog 3 5 (.int .u8 x) = some (.int .i64 x) := by
  simp only [convA, underlying5, Fc.ik3]
  rw [wrap64 (by omega) (by omega)]
theorem remN {x : Int} {n : Nat} (h : 0 ≤ x) (hn : 0 < n) : binA prog .rem 3 (.int .i64 x) (.int .i64 (n : Int)) = some (.int .i64 ((x.toNat % n : Nat) : Int)) := by
  obtain ⟨m, rfl⟩ := Int.eq_ofNat_of_zero_le h
  rw [bin_rem (by omega), tmodN]
  rfl
theorem small_chn {W K S : Int} {C : List Int} (hC : chkC W C K S = 0) : Small C := by
  obtain ⟨a, b, _, _, _, c⟩ := chkC_ok hC
  exact ⟨by omega, fun x hm => by have := c x hm; have := pow_256 a.1 a.2; omega⟩
theorem few_eq {W : Int} {L : List Int} (hL : chk W L = 0) : fewS W L = (W, L.take (fewestS W.toNat L).2.1.toNat, (fewestS W.toNat L).1, (fewestS W.toNat L).2.2, 0) := by unfold fewS; rw [if_neg (by simp [hL])]
theorem few_len {W : Int} {L : List Int} (hL : chk W L = 0) : ((L.take (fewestS W.toNat L).2.1.toNat).length : Int) = (fewestS W.toNat L).2.1 := by
  have := fewest_bd hL
  rw [List.length_take]; omega
end Go.AM
