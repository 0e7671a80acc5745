/-
  The examples of the chapter.
-/
import Derived.Test.YtppkmjfplhenmaaR4
import Derived.Test.YtppkmjfplhenmaaD18
set_option linter.unusedSimpArgs false
set_option linter.unusedVariables false
namespace Go.AM
open Go.Proofs.Try
theorem dschA1 {p : Prop} (h : p := by first | exact Nat.ne_of_beq_eq_false rfl | assumption | (apply asOne; (first | exact One.int | exact One.bool | exact newV_one | exact grV_one | exact cloneV_one | exact takF_one | assumption | exact Ints.one (by assumption) | exact One.lit ⟨rfl, rfl, rfl⟩)) | (apply asInts; (repeat first | assumption | (apply newV_ints' <;> first | assumption | (first | rfl | (simp only [List.length_append, List.length_cons, List.length_nil, List.length_set]; done) | (simp only [List.length_append, List.length_cons, List.length_nil, List.length_set]; omega))) | (apply grV_ints <;> first | assumption | (first | rfl | (simp only [List.length_append, List.length_cons, List.length_nil, List.length_set]; done) | (simp only [List.length_append, List.length_cons, List.length_nil, List.length_set]; omega))) | (apply row_ints <;> first | (first | rfl | (simp only [List.length_append, List.length_cons, List.length_nil, List.length_set]; done) | (simp only [List.length_append, List.length_cons, List.length_nil, List.length_set]; omega)) | decide) | apply Ints.app); done) | (apply asScal; (first | apply allS1 | apply allS2 | apply allS3 | apply allS4) <;> (first | exact One.int | exact One.bool | exact newV_one | exact grV_one | exact cloneV_one | exact takF_one | assumption | exact Ints.one (by assumption) | exact One.lit ⟨rfl, rfl, rfl⟩)) | exact litT rfl | exact litF rfl | omega | (simp only [List.length_append, List.length_cons, List.length_nil, lst_len, List.length_set, ints_length, List.length_reverse]; first | done | omega) | fail) : p := h

theorem row_ints {A : Heap} {l : List Int} {n k : Nat} (hn : n = A.length) (hk : k = l.length) (h1 : l.length < 2 ^ 30) (h2 : ∀ x ∈ l, -9223372036854775808 ≤ x ∧ x < 9223372036854775808) : Ints (A ++ [rowB l 0]) (.slice (some ⟨n, 0, 0⟩) k k) l := by
  subst hn hk
  exact Ints.fresh_row ⟨h1, h2⟩ (by simp [rowB]) (Nat.le_refl _)
theorem nlV_cons {n : Nat} {x : Int} {xs : List Int} : nlV n (x :: xs) = .slice (some ⟨n, 0, 0⟩) (xs.length + 1) (xs.length + 1) := by simp [nlV, newV]
theorem newH_row {x : Int} {xs : List Int} : newH (x :: xs) = [rowB (x :: xs) 0] := rfl

section
variable {lit : Bool} {H : Heap} {a b c d e f g : Int}
theorem bs2 (hl : lit = false) : bsA prog lit H 22 2 [(0, .int .i64 a), (1, .int .i64 b)] = some (.slice (some ⟨H.length, 0, 0⟩) 2 2, H ++ [rowB [a, b] 0]) := by
  subst hl; simp [bsA, rowOf, Fc.el22, fillA, repCells, AVal.isN, AVal.cells, splice, rowB, ints]
theorem bs3 (hl : lit = false) : bsA prog lit H 22 3 [(0, .int .i64 a), (1, .int .i64 b), (2, .int .i64 c)] = some (.slice (some ⟨H.length, 0, 0⟩) 3 3, H ++ [rowB [a, b, c] 0]) := by
  subst hl; simp [bsA, rowOf, Fc.el22, fillA, repCells, AVal.isN, AVal.cells, splice, rowB, ints]
theorem bs5 (hl : lit = false) : bsA prog lit H 22 5 [(0, .int .i64 a), (1, .int .i64 b), (2, .int .i64 c), (3, .int .i64 d), (4, .int .i64 e)] = some (.slice (some ⟨H.length, 0, 0⟩) 5 5, H ++ [rowB [a, b, c, d, e] 0]) := by
  subst hl; simp [bsA, rowOf, Fc.el22, fillA, repCells, AVal.isN, AVal.cells, splice, rowB, ints]
theorem bs6 (hl : lit = false) : bsA prog lit H 22 6 [(0, .int .i64 a), (1, .int .i64 b), (2, .int .i64 c), (3, .int .i64 d), (4, .int .i64 e), (5, .int .i64 f)] = some (.slice (some ⟨H.length, 0, 0⟩) 6 6, H ++ [rowB [a, b, c, d, e, f] 0]) := by
  subst hl; simp [bsA, rowOf, Fc.el22, fillA, repCells, AVal.isN, AVal.cells, splice, rowB, ints]
theorem bs7 (hl : lit = false) : bsA prog lit H 22 7 [(0, .int .i64 a), (1, .int .i64 b), (2, .int .i64 c), (3, .int .i64 d), (4, .int .i64 e), (5, .int .i64 f), (6, .int .i64 g)] = some (.slice (some ⟨H.length, 0, 0⟩) 7 7, H ++ [rowB [a, b, c, d, e, f, g] 0]) := by
  subst hl; simp [bsA, rowOf, Fc.el22, fillA, repCells, AVal.isN, AVal.cells, splice, rowB, ints]
end

theorem ex1 : fewS 4 [1, 2, 4, 8, 1, 2] = (4, [1], 2, 1, 0) := by kernel_rfl
theorem ex2 : fewS 3 [1, 3, 7, 3, 1, 3, 7] = (3, [1, 3, 7], 1, 0, 0) := by kernel_rfl
theorem ex3 : onlyS 4 [1, 2, 4, 8, 1, 2] 1 0 = (6, 0) := by kernel_rfl
theorem ex4 : exclS 3 [1, 3, 7, 3, 1, 3, 7] 0 3 0 = (0, 3, 0) := by kernel_rfl
theorem ex5 : perS 4 [1, 2] 2 1 = (8, 0) := by kernel_rfl
theorem ex6 : floatS 4 [1, 2] 2 1 = (6, 0) := by kernel_rfl
theorem ex7 : shareS 4 [1, 2, 4, 4, 2] 4 [4, 4, 2, 1, 8] = ((0, 3, 4, true), 0) := by kernel_rfl
theorem ex8 : bestS 2 [1, 2, 1, 2, 1, 3] = (5, 0, 1, 0) := by kernel_rfl

set_option maxRecDepth 100000 in
set_option maxHeartbeats 4000000 in
theorem run20 {base : Nat} {h : Heap} : callL prog raw base (.fn 20 [] []) [] h = some (.bool true, h) := by
  refine callL_run func20 rfl rfl ?_
  have hsp := @Nat.succ_ne_zero; repeat' (first | simp (disch := first | exact dschA1 | fail) only [go_sem, hsp, bs2, bs3, bs5, bs6, bs7, ex1, ex2, ex3, ex4, ex5, ex6, ex7, ex8, tup2, tup3, tup4, nlV_cons, newH_row, run79, run80, run24, run29, runW, runV] | refine WP_drw ?_ | refine cnd_intro (fun hsp => ?_) fun hsp => ?_)
  exact fin_pl rfl rfl (by repeat' first | exact Ext.refl | refine Ext.app ?_)
end Go.AM
