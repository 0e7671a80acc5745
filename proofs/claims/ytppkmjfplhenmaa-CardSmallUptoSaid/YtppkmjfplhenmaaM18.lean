/-
  The law CardSmall.
-/
import Derived.Test.YtppkmjfplhenmaaM0
import Derived.Test.YtppkmjfplhenmaaA7
import Derived.Test.YtppkmjfplhenmaaP9
import Derived.Test.YtppkmjfplhenmaaL3
import Derived.Test.YtppkmjfplhenmaaL8
import Derived.Test.YtppkmjfplhenmaaL911
import Derived.Test.YtppkmjfplhenmaaL17
set_option linter.unusedSimpArgs false
set_option linter.unusedVariables false
namespace Go.AM
open Go.Proofs.Try
theorem dschM18 {p : Prop} (h : p := by first | exact Nat.ne_of_beq_eq_false rfl | assumption | (apply asOne; (first | exact One.int | exact One.bool | exact newV_one | exact nlV_one | exact grV_one | exact cloneV_one | exact takF_one | assumption | exact Ints.one (by assumption) | exact slcV_one (by assumption) | exact Bytes.one (by assumption) | exact One.lit ⟨rfl, rfl, rfl⟩)) | (apply asSp; (repeat first | assumption | apply SpAt.set | (refine SpAt.new ?_ (by (first | rfl | (simp only [List.length_append, List.length_cons, List.length_nil, List.length_set]; done) | (simp only [List.length_append, List.length_cons, List.length_nil, List.length_set]; omega)))) | apply SpAt.app | apply Bytes.app); done) | (apply asBytes; (repeat first | assumption | apply Bytes.app); done) | (apply asInts; first | ((repeat first | assumption | (apply nlV_ints <;> first | assumption | (first | rfl | (simp only [List.length_append, List.length_cons, List.length_nil, List.length_set]; done) | (simp only [List.length_append, List.length_cons, List.length_nil, List.length_set]; omega))) | exact ints_nil | (apply newV_ints' <;> first | assumption | (first | rfl | (simp only [List.length_append, List.length_cons, List.length_nil, List.length_set]; done) | (simp only [List.length_append, List.length_cons, List.length_nil, List.length_set]; omega))) | (apply grV_ints <;> first | assumption | (first | rfl | (simp only [List.length_append, List.length_cons, List.length_nil, List.length_set]; done) | (simp only [List.length_append, List.length_cons, List.length_nil, List.length_set]; omega))) | (apply Ints.slc <;> first | (repeat first | assumption | apply Ints.app); done | omega) | apply Ints.app); done) | ((repeat first | (apply slice_row <;> first | assumption | (first | rfl | (simp only [List.length_append, List.length_cons, List.length_nil, List.length_set]; done) | (simp only [List.length_append, List.length_cons, List.length_nil, List.length_set]; omega))) | apply Ints.app); done)) | (apply asTak; (repeat first | assumption | (refine TakAt.new ?_; (first | rfl | (simp only [List.length_append, List.length_cons, List.length_nil, List.length_set]; done) | (simp only [List.length_append, List.length_cons, List.length_nil, List.length_set]; omega))) | apply TakAt.app); done) | (apply asScal; (first | apply allS1 | apply allS2 | apply allS3 | apply allS4) <;> (first | exact One.int | exact One.bool | exact newV_one | exact nlV_one | exact grV_one | exact cloneV_one | exact takF_one | assumption | exact Ints.one (by assumption) | exact slcV_one (by assumption) | exact Bytes.one (by assumption) | exact One.lit ⟨rfl, rfl, rfl⟩)) | exact litT rfl | exact litF rfl | omega | (simp only [List.length_append, List.length_cons, List.length_nil, lst_len, List.length_set, ints_length, List.length_reverse]; first | done | omega) | fail) : p := h
attribute [-go_sem] put_ne put_same
attribute [local go_sem ↓] put_if


theorem run81 (hA : Awake) {base : Nat} {h : Heap} {v1 v2 v3 v4 : AVal} {l1 l2 l3 l4 : List Int} {w1 w2 w3 w4 k3 s3 k4 s4 t m n a b c : Int} {y : Bool} (h1 : Ints h v1 l1) (h2 : Ints h v2 l2) (h3 : Ints h v3 l3) (h4 : Ints h v4 l4)
    (e1 : l1.length ≤ 1048576) (e2 : l2.length ≤ 1048576) (e3 : l3.length ≤ 1048576) (e4 : l4.length ≤ 1048576) :
    callL prog raw base (.fn 81 [] []) [pap w1 v1, pap w2 v2, chn w3 v3 k3 s3, chn w4 v4 k4 s4, .int .i64 t, .int .i64 m, .int .i64 n, runV a b c y] h = some (.bool true, h) := by
  have r17 : ∀ {base : Nat} {H : Heap} {v v' : AVal} {l m : List Int} {w w' k s t n : Int}, Ints H v l → Ints H v' m → l.length ≤ 1048576 → m.length ≤ 1048576 → callL prog raw base (.fn 17 [] []) [pap w v, chn w' v' k s, .int .i64 t, .int .i64 n] H = some (.bool true, H) := fun a b c d => run17 hA a b c d
  have r3 : ∀ {base : Nat} {H : Heap} {v : AVal} {l : List Int} {w k s : Int}, Ints H v l → l.length ≤ 1048576 → callL prog raw base (.fn 3 [] []) [pap w v, .int .i64 k, .int .i64 s] H = some (.bool true, H) := fun a b => run3 hA a b
  have r8 : ∀ {base : Nat} {H : Heap} {v : AVal} {l : List Int} {w k n s a b : Int}, Ints H v l → l.length ≤ 1048576 → callL prog raw base (.fn 8 [] []) [pap w v, .int .i64 k, .int .i64 n, .int .i64 s, .int .i64 a, .int .i64 b] H = some (.bool true, H) := fun a b => run8 hA a b
  have r9 : ∀ {base : Nat} {H : Heap} {v v' : AVal} {a b : List Int} {w k s w' k' s' : Int}, Ints H v a → Ints H v' b → a.length ≤ 1048576 → b.length ≤ 1048576 → callL prog raw base (.fn 9 [] []) [chn w v k s, chn w' v' k' s'] H = some (.bool true, H) := fun a b c d => run9 hA a b c d
  have r10 : ∀ {base : Nat} {H : Heap} {v v' : AVal} {p q : List Int} {w w' a b long : Int} {k : Bool}, Ints H v p → Ints H v' q → p.length ≤ 1048576 → q.length ≤ 1048576 → callL prog raw base (.fn 10 [] []) [pap w v, pap w' v', runV a b long k] H = some (.bool true, H) := fun a b c d => run10 hA a b c d
  have r11 : ∀ {base : Nat} {H : Heap} {v : AVal} {l : List Int} {w t k : Int}, Ints H v l → l.length ≤ 1048576 → callL prog raw base (.fn 11 [] []) [pap w v, .int .i64 t, .int .i64 k] H = some (.bool true, H) := fun a b => run11 hA a b
  refine callL_run func81 rfl rfl ?_
  have hsp := @Nat.succ_ne_zero; repeat' (first | simp (disch := first | exact dschM18 | fail) only [go_sem, ↓reduceIte, hsp, chn, pap, runV, r17, r3, r8, r9, r10, r11] | refine WP_drw ?_ | refine cnd_intro (fun hsp => ?_) fun hsp => ?_)
  all_goals exact fin_pl rfl rfl (by repeat' first | exact Ext.refl | refine Ext.app ?_)
theorem bs2 {lit : Bool} {H : Heap} {a b : Int} (hl : lit = false) : bsA prog lit H 22 2 [(0, .int .i64 a), (1, .int .i64 b)] = some (.slice (some ⟨H.length, 0, 0⟩) 2 2, H ++ [rowB [a, b] 0]) := by
  subst hl; simp [bsA, rowOf, Fc.el22, fillA, repCells, AVal.isN, AVal.cells, splice, rowB, ints]
theorem bs3 {lit : Bool} {H : Heap} {a b c : Int} (hl : lit = false) : bsA prog lit H 22 3 [(0, .int .i64 a), (1, .int .i64 b), (2, .int .i64 c)] = some (.slice (some ⟨H.length, 0, 0⟩) 3 3, H ++ [rowB [a, b, c] 0]) := by
  subst hl; simp [bsA, rowOf, Fc.el22, fillA, repCells, AVal.isN, AVal.cells, splice, rowB, ints]
theorem bs4 {lit : Bool} {H : Heap} {a b c d : Int} (hl : lit = false) : bsA prog lit H 22 4 [(0, .int .i64 a), (1, .int .i64 b), (2, .int .i64 c), (3, .int .i64 d)] = some (.slice (some ⟨H.length, 0, 0⟩) 4 4, H ++ [rowB [a, b, c, d] 0]) := by
  subst hl; simp [bsA, rowOf, Fc.el22, fillA, repCells, AVal.isN, AVal.cells, splice, rowB, ints]
theorem bs5 {lit : Bool} {H : Heap} {a b c d e : Int} (hl : lit = false) : bsA prog lit H 22 5 [(0, .int .i64 a), (1, .int .i64 b), (2, .int .i64 c), (3, .int .i64 d), (4, .int .i64 e)] = some (.slice (some ⟨H.length, 0, 0⟩) 5 5, H ++ [rowB [a, b, c, d, e] 0]) := by
  subst hl; simp [bsA, rowOf, Fc.el22, fillA, repCells, AVal.isN, AVal.cells, splice, rowB, ints]
theorem bs6 {lit : Bool} {H : Heap} {a b c d e f : Int} (hl : lit = false) : bsA prog lit H 22 6 [(0, .int .i64 a), (1, .int .i64 b), (2, .int .i64 c), (3, .int .i64 d), (4, .int .i64 e), (5, .int .i64 f)] = some (.slice (some ⟨H.length, 0, 0⟩) 6 6, H ++ [rowB [a, b, c, d, e, f] 0]) := by
  subst hl; simp [bsA, rowOf, Fc.el22, fillA, repCells, AVal.isN, AVal.cells, splice, rowB, ints]
theorem bs7 {lit : Bool} {H : Heap} {a b c d e f g : Int} (hl : lit = false) : bsA prog lit H 22 7 [(0, .int .i64 a), (1, .int .i64 b), (2, .int .i64 c), (3, .int .i64 d), (4, .int .i64 e), (5, .int .i64 f), (6, .int .i64 g)] = some (.slice (some ⟨H.length, 0, 0⟩) 7 7, H ++ [rowB [a, b, c, d, e, f, g] 0]) := by
  subst hl; simp [bsA, rowOf, Fc.el22, fillA, repCells, AVal.isN, AVal.cells, splice, rowB, ints]
theorem bs8 {lit : Bool} {H : Heap} {a b c d e f g h : Int} (hl : lit = false) : bsA prog lit H 22 8 [(0, .int .i64 a), (1, .int .i64 b), (2, .int .i64 c), (3, .int .i64 d), (4, .int .i64 e), (5, .int .i64 f), (6, .int .i64 g), (7, .int .i64 h)] = some (.slice (some ⟨H.length, 0, 0⟩) 8 8, H ++ [rowB [a, b, c, d, e, f, g, h] 0]) := by
  subst hl; simp [bsA, rowOf, Fc.el22, fillA, repCells, AVal.isN, AVal.cells, splice, rowB, ints]
theorem bsS {lit : Bool} {H : Heap} {r0 r1 r2 r3 r4 r5 r6 r7 r8 r9 r10 r11 r12 r13 r14 : ARef} {n0 k0 n1 k1 n2 k2 n3 k3 n4 k4 n5 k5 n6 k6 n7 k7 n8 k8 n9 k9 n10 k10 n11 k11 n12 k12 n13 k13 n14 k14 : Nat} (hl : lit = false) : bsA prog lit H 115 15 [(0, .slice (some r0) n0 k0), (1, .slice (some r1) n1 k1), (2, .slice (some r2) n2 k2), (3, .slice (some r3) n3 k3), (4, .slice (some r4) n4 k4), (5, .slice (some r5) n5 k5), (6, .slice (some r6) n6 k6), (7, .slice (some r7) n7 k7), (8, .slice (some r8) n8 k8), (9, .slice (some r9) n9 k9), (10, .slice (some r10) n10 k10), (11, .slice (some r11) n11 k11), (12, .slice (some r12) n12 k12), (13, .slice (some r13) n13 k13), (14, .slice (some r14) n14 k14)] = some (.slice (some ⟨H.length, 0, 0⟩) 15 15, H ++ [⟨.cells [.slice (some r0) n0 k0, .slice (some r1) n1 k1, .slice (some r2) n2 k2, .slice (some r3) n3 k3, .slice (some r4) n4 k4, .slice (some r5) n5 k5, .slice (some r6) n6 k6, .slice (some r7) n7 k7, .slice (some r8) n8 k8, .slice (some r9) n9 k9, .slice (some r10) n10 k10, .slice (some r11) n11 k11, .slice (some r12) n12 k12, .slice (some r13) n13 k13, .slice (some r14) n14 k14] 22 true false, 0⟩]) := by
  subst hl; simp [bsA, rowOf, Fc.el115, fillA, repCells, AVal.isN, AVal.cells, splice]
theorem bsP {lit : Bool} {H : Heap} {r0 r1 r2 r3 r4 r5 r6 r7 r8 r9 r10 r11 r12 r13 r14 : ARef} (hl : lit = false) : bsA prog lit H 119 15 [(0, .ptr (some r0)), (1, .ptr (some r1)), (2, .ptr (some r2)), (3, .ptr (some r3)), (4, .ptr (some r4)), (5, .ptr (some r5)), (6, .ptr (some r6)), (7, .ptr (some r7)), (8, .ptr (some r8)), (9, .ptr (some r9)), (10, .ptr (some r10)), (11, .ptr (some r11)), (12, .ptr (some r12)), (13, .ptr (some r13)), (14, .ptr (some r14))] = some (.slice (some ⟨H.length, 0, 0⟩) 15 15, H ++ [⟨.cells [.ptr (some r0), .ptr (some r1), .ptr (some r2), .ptr (some r3), .ptr (some r4), .ptr (some r5), .ptr (some r6), .ptr (some r7), .ptr (some r8), .ptr (some r9), .ptr (some r10), .ptr (some r11), .ptr (some r12), .ptr (some r13), .ptr (some r14)] 118 true false, 0⟩]) := by
  subst hl; simp [bsA, rowOf, Fc.el119, fillA, repCells, AVal.isN, AVal.cells, splice]
theorem bsB {lit : Bool} {H : Heap} {b0 b1 : Bool} (hl : lit = false) : bsA prog lit H 120 2 [(0, .bool b0), (1, .bool b1)] = some (.slice (some ⟨H.length, 0, 0⟩) 2 2, H ++ [⟨.cells [.bool b0, .bool b1] 4 true false, 0⟩]) := by
  subst hl; simp [bsA, rowOf, Fc.el120, fillA, repCells, AVal.isN, AVal.cells, splice]

theorem app_row {base id : Nat} {H : Heap} {l m : List Int} {v : AVal} {n : Nat} (hg : H[id]? = some (rowB l 0)) (hn : n = l.length) (hI : Ints H v m) (hm : 0 < m.length) (hl : 0 < l.length) (hs : l.length + m.length < 1073741824) (hb : base ≤ id) :
    appendA prog base H 22 (.slice (some ⟨id, 0, 0⟩) n n) v = some (.slice (some ⟨id, 1, 0⟩) (n + m.length) (n + m.length), H.set id (rowB (l ++ m) 1)) := by
  subst hn
  simp only [appendA, Fc.el22, hI.lenA', hI.firstN' rfl, ints_scalar, if_true]
  rw [if_neg (by omega), hg]
  simp only [rowB, ints_length, Nat.mul_one]
  rw [if_pos ⟨trivial, trivial, trivial, trivial, by omega, by omega, .inl hb⟩]
  rw [List.take_of_length_le (by rw [ints_length]; omega)]
  simp [ints]
/-- An element of a row of cells. -/
theorem ld_cell {H : Heap} {id i : Nat} {c : List AVal} {e t : TypeId} {row ro : Bool} {x : AVal} (hg : H[id]? = some ⟨.cells c e row ro, 0⟩) (ht : tyA prog t = some (false, 1)) (hx : c[i]? = some x) : loadP prog H t (.ptr (some ⟨id, 0, i⟩)) = some x := by
  have hi := (List.getElem?_eq_some_iff.1 hx).1
  simp only [loadP, loadA, ht, loadN, cellsAt, hg, if_true, show i + 1 ≤ c.length from hi, Option.bind_some, Bool.false_eq_true, if_false]
  rw [List.drop_eq_getElem_cons hi, (List.getElem?_eq_some_iff.1 hx).2]
  rfl
theorem small_app {l m : List Int} (h1 : Small l) (h2 : Small m) (h : l.length + m.length < 1073741824) : Small (l ++ m) :=
  ⟨by rw [List.length_append]; exact h, fun x hx => (List.mem_append.1 hx).elim (h1.2 x) (h2.2 x)⟩

def limT : List (List Int) := [[0, 1, 2, 3, 8, 9], [-1, 0, 7, 8, 255, 256], [0, 2, 3, 4, 9], [-1, 0, 15, 16], [-1, 0, 1, 3, 4], [-1, 0, 1, 2, 3], [0, 1, 4, 8, 9], [-1, 0, 1, 2, 3], [-1, 0, 1, 2, 3], [-1, 0, 5, 6, 48, 1000000, 1000001], [-1, 0, 3, 4], [-1, 0, 1, 5, 6, 7, 48, 49], [-1, 0, 3, 5, 6, 48], [-1, 0, 3, 4, 5], [0, 1, 4, 5, 48, 49]]
theorem limT_ok : (limT.all fun l => decide (0 < l.length ∧ l.length ≤ 8) && l.all fun x => decide (-9223372036854775808 ≤ x ∧ x < 9223372036854775808)) = true := by kernel_rfl
theorem lim_small {l : List Int} (h : l ∈ limT) : (0 < l.length ∧ l.length ≤ 8) ∧ Small l := by
  have h1 := List.all_eq_true.1 limT_ok l h
  rw [Bool.and_eq_true] at h1
  have h2 := of_decide_eq_true h1.1
  exact ⟨h2, by omega, fun x hx => of_decide_eq_true (List.all_eq_true.1 h1.2 x hx)⟩

theorem quoN {m n : Nat} (hn : 0 < n) (hm : m < 100) : binA prog .quo 3 (.int .i64 (m : Int)) (.int .i64 (n : Int)) = some (.int .i64 ((m / n : Nat) : Int)) := by
  rw [bin_quo (by omega), Int.tdiv_eq_ediv_of_nonneg (by omega), ← Int.natCast_ediv]
  have : m / n ≤ m := Nat.div_le_self _ _
  generalize m / n = q at *
  rw [wrap64 (by omega) (by omega)]
theorem share_any {w w' : Int} {p q : List Int} : ∃ a b c d e, shareS w p w' q = ((a, b, c, d), e) ∧ c ≤ p.length := by
  by_cases h : bothS w p w' q = 0
  · by_cases h2 : (shAll p q p.length).2.2.1 = 0
    · unfold shareS
      rw [if_neg (by simp [h]), if_pos h2]
      exact ⟨_, _, _, _, _, rfl, Nat.zero_le _⟩
    · have := long_min (p := p) (q := q)
      unfold shareS
      rw [if_neg (by simp [h]), if_neg h2]
      exact ⟨_, _, _, _, _, rfl, Nat.le_trans this (Nat.min_le_left _ _)⟩
  · unfold shareS
    rw [if_pos h]
    exact ⟨_, _, _, _, _, rfl, Nat.zero_le _⟩
theorem app_row1 {base id : Nat} {H : Heap} {l : List Int} {n : Nat} {x : Int} (hg : H[id]? = some (rowB l 0)) (hn : n = l.length) (hl : 0 < l.length) (hs : l.length < 1073741824) (hb : base ≤ id) :
    appendA prog base H 22 (.slice (some ⟨id, 0, 0⟩) n n) (.vals [.int .i64 x]) = some (.slice (some ⟨id, 1, 0⟩) (n + 1) (n + 1), H.set id (rowB (l ++ [x]) 1)) := by
  subst hn
  simp only [appendA, Fc.el22, lenA, if_true, List.length_cons, List.length_nil, Nat.zero_add, firstN_vals, List.all_cons, List.all_nil, AVal.scalar, Bool.and_self]
  rw [if_neg (by omega), hg]
  simp only [rowB, ints_length, Nat.mul_one]
  rw [if_pos ⟨trivial, trivial, trivial, trivial, by omega, by omega, .inl hb⟩]
  rw [List.take_of_length_le (by rw [ints_length]; omega)]
  simp [ints]
theorem ints_row {H : Heap} {r ver n : Nat} {l : List Int} (hg : H[r]? = some (rowB l ver)) (hn : n = l.length) (hs : Small l) : Ints H (.slice (some ⟨r, ver, 0⟩) n n) l := by
  subst hn
  have h1 := hs.1
  exact ⟨⟨by omega, hs.2⟩, .inr (.inr ⟨⟨r, ver, 0⟩, l.length, ints l, 3, true, false, rfl, hg, by simp only [List.drop_zero]; rw [List.take_of_length_le (by rw [ints_length]; omega)], by rw [ints_length]; exact Nat.le_of_eq (Nat.zero_add _), Nat.le_refl _⟩)⟩
theorem get_set_ne' {H : Heap} {i j : Nat} {b : ABlk} {x : Option ABlk} (h : i ≠ j) (hx : H[j]? = x) : (H.set i b)[j]? = x := by rw [List.getElem?_set_ne h]; exact hx
theorem st_row {base r : Nat} {l : List Int} {i : Nat} {x : Int} {k : ABlk → Heap} (hb : base ≤ r) (hi : i < l.length) : stQ base r (some (rowB l 0)) 0 i [.int .i64 x] k = some (k (rowB (l.set i x) 0)) := by
  simp only [rowB, stQ]
  rw [if_pos ⟨trivial, by simp [ints_length]; omega, by simp [AVal.scalar], .inl hb⟩]
  simp [splice, ints, List.map_set]
theorem small_set {l : List Int} {i : Nat} {x : Int} (h : Small l) (hx : -9223372036854775808 ≤ x ∧ x < 9223372036854775808) : Small (l.set i x) :=
  ⟨by rw [List.length_set]; exact h.1, fun y hy => by
    rcases List.mem_or_eq_of_mem_set hy with h1 | h1
    · exact h.2 y h1
    · rw [h1]; exact hx⟩
theorem modL_sm {m n : Nat} (hm : 0 < m) (h4 : m ≤ 4) (hn : n ≤ 51) : Small (lst (fun t => ((t % m : Nat) : Int)) n) := ⟨by rw [lst_len]; omega, fun x hx => by
  obtain ⟨t, _, rfl⟩ := List.mem_map.1 hx
  have := Nat.mod_lt t hm
  show -9223372036854775808 ≤ ((t % m : Nat) : Int) ∧ ((t % m : Nat) : Int) < 9223372036854775808
  generalize t % m = q at *
  omega⟩
theorem modL_in {m n : Nat} (hm : 0 < m) (h4 : m ≤ 4) : ∀ x ∈ lst (fun t => ((t % m : Nat) : Int)) n, 0 ≤ x ∧ x ≤ 2 ^ (2 : Int).toNat - 1 := fun x hx => by
  obtain ⟨t, _, rfl⟩ := List.mem_map.1 hx
  have := Nat.mod_lt t hm
  show 0 ≤ ((t % m : Nat) : Int) ∧ ((t % m : Nat) : Int) ≤ 4 - 1
  generalize t % m = q at *
  omega
theorem grH_row {l : List Int} (h : l ≠ []) : grH l = [rowB l (l.length - 1)] := by cases l with | nil => exact absurd rfl h | cons _ _ => rfl
theorem grH_len {l : List Int} (h : l ≠ []) : (grH l).length = 1 := by rw [grH_row h]; rfl
theorem ne_self {b : Bool} : (b ≠ b) = False := eq_false fun h => h rfl
theorem nlV_nil' {n : Nat} : nlV n [] = .slice none 0 0 := rfl
theorem newH_nil' : newH [] = [] := rfl
theorem weave_any {w k s : Int} {l : List Int} {n : Nat} (hn : 1 ≤ n ∧ n ≤ 48) : ∃ w1 l1 e1, weaveS w l k s (n : Int) = (w1, l1, e1) ∧ (l1 = [] ∨ (chk w1 l1 = 0 ∧ l1.length = n)) := by
  unfold weaveS
  by_cases h : chkC w l k s = 0
  · rw [if_neg (by simp [h]), if_neg (by omega), Int.toNat_natCast]
    exact ⟨_, _, _, rfl, .inr ⟨wov_ok h hn, by unfold wov; rw [lst_len]⟩⟩
  · rw [if_pos h]
    exact ⟨_, _, _, rfl, .inl rfl⟩
theorem few_any {w : Int} {l : List Int} : ∃ w1 l1 k1 s1 e1, fewS w l = (w1, l1, k1, s1, e1) ∧ Small l1 ∧ l1.length ≤ 48 := by
  by_cases h : chk w l = 0
  · refine ⟨_, _, _, _, _, few_eq h, small_take (small_of h), ?_⟩
    have := (chk_ok h).2.1
    rw [List.length_take]; omega
  · unfold fewS
    rw [if_pos h]
    exact ⟨_, _, _, _, _, rfl, ⟨by simp, by simp⟩, by simp⟩
theorem turn_any {w : Int} {l : List Int} : ∃ w1 l1 e1, turnS w l = (w1, l1, e1) ∧ Small l1 ∧ l1.length ≤ 48 := by
  by_cases h : chk w l = 0
  · have h1 := small_of h
    have := (chk_ok h).2.1
    unfold turnS
    rw [if_neg (by simp [h])]
    exact ⟨_, _, _, rfl, ⟨by rw [List.length_reverse]; exact h1.1, fun x hx => h1.2 x (List.mem_reverse.1 hx)⟩, by rw [List.length_reverse]; omega⟩
  · unfold turnS
    rw [if_pos h]
    exact ⟨_, _, _, rfl, ⟨by simp, by simp⟩, by simp⟩
theorem st18m {base : Nat} {l : List Oper} {s : St} {Q : AExit → St → Prop} : WP prog raw base (.region 55 l.toArray true) s Q = WPS prog raw base (.region 55 l.toArray true) s Q := WP_stop
attribute [local go_sem ↓ 3000] st18m
theorem st18a {base : Nat} {l : List Oper} {s : St} {Q : AExit → St → Prop} : WP prog raw base (.region 2 l.toArray false) s Q = WPS prog raw base (.region 2 l.toArray false) s Q := WP_stop
attribute [local go_sem ↓ 3000] st18a
theorem st18d {base : Nat} {l : List Oper} {s : St} {Q : AExit → St → Prop} : WP prog raw base (.region 28 l.toArray false) s Q = WPS prog raw base (.region 28 l.toArray false) s Q := WP_stop
attribute [local go_sem ↓ 3000] st18d
theorem st18f {base : Nat} {l : List Oper} {s : St} {Q : AExit → St → Prop} : WP prog raw base (.region 35 l.toArray false) s Q = WPS prog raw base (.region 35 l.toArray false) s Q := WP_stop
attribute [local go_sem ↓ 3000] st18f
theorem st18g {base : Nat} {l : List Oper} {s : St} {Q : AExit → St → Prop} : WP prog raw base (.region 36 l.toArray false) s Q = WPS prog raw base (.region 36 l.toArray false) s Q := WP_stop
attribute [local go_sem ↓ 3000] st18g
theorem st18h {base : Nat} {l : List Oper} {s : St} {Q : AExit → St → Prop} : WP prog raw base (.region 38 l.toArray false) s Q = WPS prog raw base (.region 38 l.toArray false) s Q := WP_stop
attribute [local go_sem ↓ 3000] st18h
theorem st18i {base : Nat} {l : List Oper} {s : St} {Q : AExit → St → Prop} : WP prog raw base (.region 39 l.toArray false) s Q = WPS prog raw base (.region 39 l.toArray false) s Q := WP_stop
attribute [local go_sem ↓ 3000] st18i
theorem st18j {base : Nat} {l : List Oper} {s : St} {Q : AExit → St → Prop} : WP prog raw base (.region 40 l.toArray false) s Q = WPS prog raw base (.region 40 l.toArray false) s Q := WP_stop
attribute [local go_sem ↓ 3000] st18j
theorem st18k {base : Nat} {l : List Oper} {s : St} {Q : AExit → St → Prop} : WP prog raw base (.region 42 l.toArray false) s Q = WPS prog raw base (.region 42 l.toArray false) s Q := WP_stop
attribute [local go_sem ↓ 3000] st18k
theorem st18l {base : Nat} {l : List Oper} {s : St} {Q : AExit → St → Prop} : WP prog raw base (.region 43 l.toArray false) s Q = WPS prog raw base (.region 43 l.toArray false) s Q := WP_stop
attribute [local go_sem ↓ 3000] st18l
theorem st18b {base : Nat} {l : List Oper} {s : St} {Q : AExit → St → Prop} : WP prog raw base (.region 12 l.toArray false) s Q = WPS prog raw base (.region 12 l.toArray false) s Q := WP_stop
attribute [local go_sem ↓ 3000] st18b
set_option maxRecDepth 100000 in
set_option maxHeartbeats 20000000 in
theorem run18 (hA : Awake) {base : Nat} {h : Heap} : callL prog raw base (.fn 18 [] []) [] h = some (.bool true, h) := by
  have r81 : ∀ {base : Nat} {h : Heap} {v1 v2 v3 v4 : AVal} {l1 l2 l3 l4 : List Int} {w1 w2 w3 w4 k3 s3 k4 s4 t m n a b c : Int} {y : Bool}, Ints h v1 l1 → Ints h v2 l2 → Ints h v3 l3 → Ints h v4 l4 →
    l1.length ≤ 1048576 → l2.length ≤ 1048576 → l3.length ≤ 1048576 → l4.length ≤ 1048576 →
    callL prog raw base (.fn 81 [] []) [.agg [.int .i64 w1, v1], .agg [.int .i64 w2, v2], .agg [.int .i64 w3, v3, .int .i64 k3, .int .i64 s3], .agg [.int .i64 w4, v4, .int .i64 k4, .int .i64 s4], .int .i64 t, .int .i64 m, .int .i64 n, .agg [.int .i64 a, .int .i64 b, .int .i64 c, .bool y]] h = some (.bool true, h) := fun a b c d e f g i => run81 hA a b c d e f g i
  unfold Awake at hA
  refine callL_run func18 rfl rfl ?_
  have hsp := @Nat.succ_ne_zero; repeat' (first | simp (disch := first | exact dschM18 | fail) only [go_sem, ↓reduceIte, hsp, bs4, bs5, bs6, bs7, bs8, bsS] | refine WP_drw ?_ | refine cnd_intro (fun hsp => ?_) fun hsp => ?_)
  refine WPS_rest fun F G eF eG => ?_
  rw [WP_region]
  have kF1 := congrFun eF 1
  try simp (disch := first | exact dschM18 | fail) only [go_sem, ↓reduceIte] at kF1
  have gF1 := congrArg (fun X => atP X (F 1)) eG
  try simp only [kF1, atP_ptr] at gF1
  have lG := congrArg List.length eG
  try simp (disch := first | exact dschM18 | fail) only [go_sem, ↓reduceIte] at gF1 lG
  have xG : Ext h G := by rw [eG]; repeat' first | exact Ext.refl | refine Ext.app ?_
  have eT := congrArg (fun X => X[h.length + 1 + 1 + 1 + 1 + 1 + 1 + 1 + 1 + 1 + 1 + 1 + 1 + 1 + 1 + 1]?) eG
  try dsimp only at eT
  rw [get_eq (by simp only [List.length_append, List.length_cons, List.length_nil])] at eT
  obtain ⟨tb, cs, kt, gt, hcs⟩ : ∃ tb cs, F 1 = .slice (some ⟨tb, 0, 0⟩) 15 15 ∧ G[tb]? = some ⟨.cells cs 22 true false, 0⟩ ∧ ∀ i, i < 15 → ∃ s l, cs[i]? = some s ∧ Ints G s l ∧ l ∈ limT := by
    refine ⟨_, _, kF1, eT, fun i hi => ?_⟩
    rw [eG]
    match i, hi with
    | 0, _ => exact ⟨_, [0, 1, 2, 3, 8, 9], rfl, (slice_row (by simp only [List.length_append, List.length_cons, List.length_nil]) rfl (lim_small (by simp [limT])).2).app.app.app.app.app.app.app.app.app.app.app.app.app.app.app, by simp [limT]⟩
    | 1, _ => exact ⟨_, [-1, 0, 7, 8, 255, 256], rfl, (slice_row (by simp only [List.length_append, List.length_cons, List.length_nil]) rfl (lim_small (by simp [limT])).2).app.app.app.app.app.app.app.app.app.app.app.app.app.app, by simp [limT]⟩
    | 2, _ => exact ⟨_, [0, 2, 3, 4, 9], rfl, (slice_row (by simp only [List.length_append, List.length_cons, List.length_nil]) rfl (lim_small (by simp [limT])).2).app.app.app.app.app.app.app.app.app.app.app.app.app, by simp [limT]⟩
    | 3, _ => exact ⟨_, [-1, 0, 15, 16], rfl, (slice_row (by simp only [List.length_append, List.length_cons, List.length_nil]) rfl (lim_small (by simp [limT])).2).app.app.app.app.app.app.app.app.app.app.app.app, by simp [limT]⟩
    | 4, _ => exact ⟨_, [-1, 0, 1, 3, 4], rfl, (slice_row (by simp only [List.length_append, List.length_cons, List.length_nil]) rfl (lim_small (by simp [limT])).2).app.app.app.app.app.app.app.app.app.app.app, by simp [limT]⟩
    | 5, _ => exact ⟨_, [-1, 0, 1, 2, 3], rfl, (slice_row (by simp only [List.length_append, List.length_cons, List.length_nil]) rfl (lim_small (by simp [limT])).2).app.app.app.app.app.app.app.app.app.app, by simp [limT]⟩
    | 6, _ => exact ⟨_, [0, 1, 4, 8, 9], rfl, (slice_row (by simp only [List.length_append, List.length_cons, List.length_nil]) rfl (lim_small (by simp [limT])).2).app.app.app.app.app.app.app.app.app, by simp [limT]⟩
    | 7, _ => exact ⟨_, [-1, 0, 1, 2, 3], rfl, (slice_row (by simp only [List.length_append, List.length_cons, List.length_nil]) rfl (lim_small (by simp [limT])).2).app.app.app.app.app.app.app.app, by simp [limT]⟩
    | 8, _ => exact ⟨_, [-1, 0, 1, 2, 3], rfl, (slice_row (by simp only [List.length_append, List.length_cons, List.length_nil]) rfl (lim_small (by simp [limT])).2).app.app.app.app.app.app.app, by simp [limT]⟩
    | 9, _ => exact ⟨_, [-1, 0, 5, 6, 48, 1000000, 1000001], rfl, (slice_row (by simp only [List.length_append, List.length_cons, List.length_nil]) rfl (lim_small (by simp [limT])).2).app.app.app.app.app.app, by simp [limT]⟩
    | 10, _ => exact ⟨_, [-1, 0, 3, 4], rfl, (slice_row (by simp only [List.length_append, List.length_cons, List.length_nil]) rfl (lim_small (by simp [limT])).2).app.app.app.app.app, by simp [limT]⟩
    | 11, _ => exact ⟨_, [-1, 0, 1, 5, 6, 7, 48, 49], rfl, (slice_row (by simp only [List.length_append, List.length_cons, List.length_nil]) rfl (lim_small (by simp [limT])).2).app.app.app.app, by simp [limT]⟩
    | 12, _ => exact ⟨_, [-1, 0, 3, 5, 6, 48], rfl, (slice_row (by simp only [List.length_append, List.length_cons, List.length_nil]) rfl (lim_small (by simp [limT])).2).app.app.app, by simp [limT]⟩
    | 13, _ => exact ⟨_, [-1, 0, 3, 4, 5], rfl, (slice_row (by simp only [List.length_append, List.length_cons, List.length_nil]) rfl (lim_small (by simp [limT])).2).app.app, by simp [limT]⟩
    | 14, _ => exact ⟨_, [0, 1, 4, 5, 48, 49], rfl, (slice_row (by simp only [List.length_append, List.length_cons, List.length_nil]) rfl (lim_small (by simp [limT])).2).app, by simp [limT]⟩
  clear eG lG eF eT kF1
  have hG := xG.len
  have hsp := @Nat.succ_ne_zero; repeat' (first | simp (disch := first | exact dschM18 | fail) only [go_sem, ↓reduceIte, hsp, kt, Fc.ln115] | refine WP_drw ?_ | refine cnd_intro (fun hsp => ?_) fun hsp => ?_)
  refine WP_count [(2, 3), (5, 16), (18, 18), (53, 124)] 0 15 (Nat.zero_le _) (fun H i fr h => fr 53 = .int .i64 (i : Int) ∧ Ext G h) ?_ ?_ ?_
  · exact ⟨by (simp (disch := first | exact dschM18 | fail) only [go_sem, ↓reduceIte, Int.natCast_zero]; first | done | rfl), .refl⟩
  · rintro i fr H hi0 hi hA1 ⟨r53, xH⟩
    have p51 := hA1 51 rfl; simp (disch := first | exact dschM18 | fail) only [go_sem, ↓reduceIte, kt] at p51
    have p52 := hA1 52 rfl; simp (disch := first | exact dschM18 | fail) only [go_sem, ↓reduceIte, kt] at p52
    obtain ⟨s, l, hs, hI, hl⟩ := hcs i hi
    obtain ⟨hl8, hsm⟩ := lim_small hl
    replace hI := hI.ext xH
    have gH := xH.get gt
    have hlt : ((i : Int) < 15) = True := eq_true (by omega)
    have hld := ld_cell (i := i) gH Fc.ty22 hs
    obtain ⟨m, em⟩ : ∃ m, [9223372036854775807, -9223372036854775808] ++ l = m := ⟨_, rfl⟩
    have hml : m.length = 2 + l.length := by rw [← em, List.length_append]; rfl
    have hms : Small m := by rw [← em]; exact small_app ⟨by simp, fun x hx => by simp at hx; omega⟩ hsm (by simp; omega)
    have happ := app_row (base := h.length) (id := H.length) (H := H ++ [rowB [9223372036854775807, -9223372036854775808] 0]) (l := [9223372036854775807, -9223372036854775808]) (n := 2) (get_eq rfl) rfl hI.app (by omega) (by simp) (by simp; omega) (Nat.le_trans hG xH.len)
    rw [em, ← hml] at happ
    have hIm : Ints (H ++ [rowB m 1]) (.slice (some ⟨H.length, 1, 0⟩) m.length m.length) m := ⟨⟨by omega, hms.2⟩, .inr (.inr ⟨⟨H.length, 1, 0⟩, m.length, ints m, 3, true, false, rfl, get_eq rfl, by simp only [List.drop_zero]; rw [List.take_of_length_le (by rw [ints_length]; omega)], by rw [ints_length]; exact Nat.le_of_eq (Nat.zero_add _), Nat.le_refl _⟩)⟩
    have hsp := @Nat.succ_ne_zero; repeat' (first | simp (disch := first | exact dschM18 | fail) only [go_sem, ↓reduceIte, hsp, r53, p51, p52, hlt, hld, bs2, happ, Fc.as115, Fc.ln22, Int.toNat_natCast] | refine WP_drw ?_ | refine cnd_intro (fun hsp => ?_) fun hsp => ?_)
    refine WP_count [(5, 16), (18, 18), (62, 123)] 0 m.length (Nat.zero_le _) (fun H i fr h => fr 62 = .int .i64 (i : Int) ∧ Ext H h) ?_ ?_ ?_
    · exact ⟨by (simp (disch := first | exact dschM18 | fail) only [go_sem, ↓reduceIte, Int.natCast_zero]; first | done | rfl), .refl⟩
    · rintro j fr2 H2 hj0 hj hA2 ⟨r62, xH2⟩
      have q2 := hA2 2 rfl
      have q60 := hA2 60 rfl
      have q61 := hA2 61 rfl
      try simp (disch := first | exact dschM18 | fail) only [go_sem, ↓reduceIte] at q2 q60 q61
      have hI2 := hIm.ext xH2
      have xG2 : Ext G H2 := Ext.trans (Ext.app xH) xH2
      have hG2 := xG2.len
      have hlt2 : ((j : Int) < (m.length : Int)) = True := eq_true (by omega)
      have hj2 : (j : Int) < (m.length : Int) := by omega
      obtain ⟨x, ex⟩ : ∃ x, m.getD j 0 = x := ⟨_, rfl⟩
      have hx := hms.2 _ (getD_mem hj)
      rw [ex] at hx
      have z1 : Small [1, 2, 4, 8, 1, 2] := ⟨by simp, fun x hx => by simp at hx; omega⟩
      have z2 : Small [2, 4, 8, 3, 1] := ⟨by simp, fun x hx => by simp at hx; omega⟩
      have z3 : Small [1, 2] := ⟨by simp, fun x hx => by simp at hx; omega⟩
      have z4 : Small [1, 3, 7] := ⟨by simp, fun x hx => by simp at hx; omega⟩
      have gm := xH2.get (get_eq (A := H) (b := rowB m 1) rfl)
      have hsp := @Nat.succ_ne_zero; repeat' (first | simp (disch := first | exact dschM18 | fail) only [go_sem, ↓reduceIte, hsp, pap, chn, run79, run80, gm, ldB_row, r62, q2, q60, q61, hlt2, ex, bs2, bs3, bs5, bs6, bsP, Fc.as22, Int.toNat_natCast] | refine WP_drw ?_ | refine cnd_intro (fun hsp => ?_) fun hsp => ?_)
      obtain ⟨R2, eR2, hA2'⟩ := hA2.name
      rw [← eR2]
      refine WPS_restF fun Z eZ => ?_
      rw [WP_region]
      have kZ2 := congrFun eZ 2
      have kZ5 := congrFun eZ 5
      have kZ6 := congrFun eZ 6
      have kZ7 := congrFun eZ 7
      have kZ8 := congrFun eZ 8
      have kZ9 := congrFun eZ 9
      have kZ10 := congrFun eZ 10
      have kZ11 := congrFun eZ 11
      have kZ12 := congrFun eZ 12
      have kZ13 := congrFun eZ 13
      have kZ14 := congrFun eZ 14
      have kZ15 := congrFun eZ 15
      have kZ16 := congrFun eZ 16
      have kZ60 := congrFun eZ 60
      have kZ61 := congrFun eZ 61
      have kZ62 := congrFun eZ 62
      try simp (disch := first | exact dschM18 | fail) only [go_sem, ↓reduceIte, q2, q60, q61] at kZ2 kZ5 kZ6 kZ7 kZ8 kZ9 kZ10 kZ11 kZ12 kZ13 kZ14 kZ15 kZ16 kZ60 kZ61 kZ62
      have aZ : Agree [(5, 16), (18, 18), (62, 123)] Z R2 := by rw [eZ]; (repeat first | exact Agree.refl | assumption | refine Agree.put rfl ?_ | refine Agree.put0 ?_ | refine Agree.sub rfl (by assumption) ?_)
      clear eZ
      refine OPS_meet (fun fr h => Agree [(94, 99)] fr Z ∧ ∃ (l1 l2 : List Int) (w1 w2 w3 c3 k1 k2 d3 x10 x11 x12 a b c : Int), (l1.length = 6 ∧ l2.length = 5) ∧ (Small l1 ∧ Small l2) ∧ h = H2 ++ [rowB l1 0] ++ [rowB l2 0] ++ [rowB [1, 2] 0] ++ [rowB [1, 3, 7] 0] ++ [⟨.cells [.int .i64 w1, .slice (some ⟨H2.length, 0, 0⟩) 6 6] 24 false false, 0⟩] ++ [⟨.cells [.int .i64 w2, .slice (some ⟨H2.length + 1, 0, 0⟩) 5 5] 24 false false, 0⟩] ++ [⟨.cells [.int .i64 w3, .slice (some ⟨H2.length + 1 + 1, 0, 0⟩) 2 2, .int .i64 2, .int .i64 c3] 34 false false, 0⟩] ++ [⟨.cells [.int .i64 4, .slice (some ⟨H2.length + 1 + 1 + 1, 0, 0⟩) 3 3, .int .i64 1, .int .i64 d3] 34 false false, 0⟩] ++ [⟨.cells [.int .i64 x10] 3 false false, 0⟩] ++ [⟨.cells [.int .i64 x11] 3 false false, 0⟩] ++ [⟨.cells [.int .i64 x12] 3 false false, 0⟩] ++ [⟨.cells [.int .i64 a, .int .i64 b, .int .i64 c, .bool false] 82 false false, 0⟩] ++ [⟨.cells [.int .i64 k1] 3 false false, 0⟩] ++ [⟨.cells [.int .i64 k2] 3 false false, 0⟩] ++ [⟨.cells [.ptr (some ⟨H2.length + 1 + 1 + 1 + 1, 0, 0⟩), .ptr (some ⟨H2.length, 0, 2⟩), .ptr (some ⟨H2.length + 1 + 1 + 1 + 1 + 1, 0, 0⟩), .ptr (some ⟨H2.length + 1, 0, 4⟩), .ptr (some ⟨H2.length + 1 + 1 + 1 + 1 + 1 + 1 + 1 + 1 + 1 + 1 + 1 + 1, 0, 0⟩), .ptr (some ⟨H2.length + 1 + 1 + 1 + 1 + 1 + 1, 0, 3⟩), .ptr (some ⟨H2.length + 1 + 1 + 1 + 1 + 1 + 1, 0, 0⟩), .ptr (some ⟨H2.length + 1 + 1 + 1 + 1 + 1 + 1 + 1 + 1 + 1 + 1 + 1 + 1 + 1, 0, 0⟩), .ptr (some ⟨H2.length + 1 + 1 + 1 + 1 + 1 + 1 + 1, 0, 3⟩), .ptr (some ⟨H2.length + 1 + 1 + 1 + 1 + 1 + 1 + 1 + 1, 0, 0⟩), .ptr (some ⟨H2.length + 1 + 1 + 1 + 1 + 1 + 1 + 1 + 1 + 1, 0, 0⟩), .ptr (some ⟨H2.length + 1 + 1 + 1 + 1 + 1 + 1 + 1 + 1 + 1 + 1, 0, 0⟩), .ptr (some ⟨H2.length + 1 + 1 + 1 + 1 + 1 + 1 + 1 + 1 + 1 + 1 + 1, 0, 0⟩), .ptr (some ⟨H2.length + 1 + 1 + 1 + 1 + 1 + 1 + 1 + 1 + 1 + 1 + 1, 0, 1⟩), .ptr (some ⟨H2.length + 1 + 1 + 1 + 1 + 1 + 1 + 1 + 1 + 1 + 1 + 1, 0, 2⟩)] 118 true false, 0⟩]) ?_ ?_
      · match i, hi, kZ2 with
        | 0, _, kZ2 =>
          have kk : Z 2 = .int .i64 0 := kZ2
          have hsp := @Nat.succ_ne_zero; repeat' (first | simp (disch := first | exact dschM18 | fail) only [go_sem, ↓reduceIte, hsp, kk, kZ5, kZ16, nck, Fc.as119, Int.toNat_natCast] | refine WP_drw ?_ | refine cnd_intro (fun hsp => ?_) fun hsp => ?_)
          exact ⟨by (repeat first | exact Agree.refl | assumption | refine Agree.put rfl ?_ | refine Agree.put0 ?_ | refine Agree.sub rfl (by assumption) ?_), [1, 2, 4, 8, 1, 2], [2, 4, 8, 3, 1], x, 4, 4, 1, 2, 1, 0, 3, 2, 4, 1, 0, 3, ⟨rfl, rfl⟩, ⟨⟨by simp, fun y hy => by simp at hy; omega⟩, ⟨by simp, fun y hy => by simp at hy; omega⟩⟩, rfl⟩
        | 1, _, kZ2 =>
          have kk : Z 2 = .int .i64 1 := kZ2
          have hsp := @Nat.succ_ne_zero; repeat' (first | simp (disch := first | exact dschM18 | fail) only [go_sem, ↓reduceIte, hsp, kk, kZ5, kZ16, nck, Fc.as119, Int.toNat_natCast] | refine WP_drw ?_ | refine cnd_intro (fun hsp => ?_) fun hsp => ?_)
          exact ⟨by (repeat first | exact Agree.refl | assumption | refine Agree.put rfl ?_ | refine Agree.put0 ?_ | refine Agree.sub rfl (by assumption) ?_), [1, 2, x, 8, 1, 2], [2, 4, 8, 3, 1], 4, 4, 4, 1, 2, 1, 0, 3, 2, 4, 1, 0, 3, ⟨rfl, rfl⟩, ⟨⟨by simp, fun y hy => by simp at hy; omega⟩, ⟨by simp, fun y hy => by simp at hy; omega⟩⟩, rfl⟩
        | 2, _, kZ2 =>
          have kk : Z 2 = .int .i64 2 := kZ2
          have hsp := @Nat.succ_ne_zero; repeat' (first | simp (disch := first | exact dschM18 | fail) only [go_sem, ↓reduceIte, hsp, kk, kZ5, kZ16, nck, Fc.as119, Int.toNat_natCast] | refine WP_drw ?_ | refine cnd_intro (fun hsp => ?_) fun hsp => ?_)
          exact ⟨by (repeat first | exact Agree.refl | assumption | refine Agree.put rfl ?_ | refine Agree.put0 ?_ | refine Agree.sub rfl (by assumption) ?_), [1, 2, 4, 8, 1, 2], [2, 4, 8, 3, 1], 4, x, 4, 1, 2, 1, 0, 3, 2, 4, 1, 0, 3, ⟨rfl, rfl⟩, ⟨⟨by simp, fun y hy => by simp at hy; omega⟩, ⟨by simp, fun y hy => by simp at hy; omega⟩⟩, rfl⟩
        | 3, _, kZ2 =>
          have kk : Z 2 = .int .i64 3 := kZ2
          have hsp := @Nat.succ_ne_zero; repeat' (first | simp (disch := first | exact dschM18 | fail) only [go_sem, ↓reduceIte, hsp, kk, kZ5, kZ16, nck, Fc.as119, Int.toNat_natCast] | refine WP_drw ?_ | refine cnd_intro (fun hsp => ?_) fun hsp => ?_)
          exact ⟨by (repeat first | exact Agree.refl | assumption | refine Agree.put rfl ?_ | refine Agree.put0 ?_ | refine Agree.sub rfl (by assumption) ?_), [1, 2, 4, 8, 1, 2], [2, 4, 8, 3, x], 4, 4, 4, 1, 2, 1, 0, 3, 2, 4, 1, 0, 3, ⟨rfl, rfl⟩, ⟨⟨by simp, fun y hy => by simp at hy; omega⟩, ⟨by simp, fun y hy => by simp at hy; omega⟩⟩, rfl⟩
        | 4, _, kZ2 =>
          have kk : Z 2 = .int .i64 4 := kZ2
          have hsp := @Nat.succ_ne_zero; repeat' (first | simp (disch := first | exact dschM18 | fail) only [go_sem, ↓reduceIte, hsp, kk, kZ5, kZ16, nck, Fc.as119, Int.toNat_natCast] | refine WP_drw ?_ | refine cnd_intro (fun hsp => ?_) fun hsp => ?_)
          exact ⟨by (repeat first | exact Agree.refl | assumption | refine Agree.put rfl ?_ | refine Agree.put0 ?_ | refine Agree.sub rfl (by assumption) ?_), [1, 2, 4, 8, 1, 2], [2, 4, 8, 3, 1], 4, 4, 4, 1, x, 1, 0, 3, 2, 4, 1, 0, 3, ⟨rfl, rfl⟩, ⟨⟨by simp, fun y hy => by simp at hy; omega⟩, ⟨by simp, fun y hy => by simp at hy; omega⟩⟩, rfl⟩
        | 5, _, kZ2 =>
          have kk : Z 2 = .int .i64 5 := kZ2
          have hsp := @Nat.succ_ne_zero; repeat' (first | simp (disch := first | exact dschM18 | fail) only [go_sem, ↓reduceIte, hsp, kk, kZ5, kZ16, nck, Fc.as119, Int.toNat_natCast] | refine WP_drw ?_ | refine cnd_intro (fun hsp => ?_) fun hsp => ?_)
          exact ⟨by (repeat first | exact Agree.refl | assumption | refine Agree.put rfl ?_ | refine Agree.put0 ?_ | refine Agree.sub rfl (by assumption) ?_), [1, 2, 4, 8, 1, 2], [2, 4, 8, 3, 1], 4, 4, 4, x, 2, 1, 0, 3, 2, 4, 1, 0, 3, ⟨rfl, rfl⟩, ⟨⟨by simp, fun y hy => by simp at hy; omega⟩, ⟨by simp, fun y hy => by simp at hy; omega⟩⟩, rfl⟩
        | 6, _, kZ2 =>
          have kk : Z 2 = .int .i64 6 := kZ2
          have hsp := @Nat.succ_ne_zero; repeat' (first | simp (disch := first | exact dschM18 | fail) only [go_sem, ↓reduceIte, hsp, kk, kZ5, kZ16, nck, Fc.as119, Int.toNat_natCast] | refine WP_drw ?_ | refine cnd_intro (fun hsp => ?_) fun hsp => ?_)
          exact ⟨by (repeat first | exact Agree.refl | assumption | refine Agree.put rfl ?_ | refine Agree.put0 ?_ | refine Agree.sub rfl (by assumption) ?_), [1, 2, 4, 8, 1, 2], [2, 4, 8, 3, 1], 4, 4, x, 1, 2, 1, 0, 3, 2, 4, 1, 0, 3, ⟨rfl, rfl⟩, ⟨⟨by simp, fun y hy => by simp at hy; omega⟩, ⟨by simp, fun y hy => by simp at hy; omega⟩⟩, rfl⟩
        | 7, _, kZ2 =>
          have kk : Z 2 = .int .i64 7 := kZ2
          have hsp := @Nat.succ_ne_zero; repeat' (first | simp (disch := first | exact dschM18 | fail) only [go_sem, ↓reduceIte, hsp, kk, kZ5, kZ16, nck, Fc.as119, Int.toNat_natCast] | refine WP_drw ?_ | refine cnd_intro (fun hsp => ?_) fun hsp => ?_)
          exact ⟨by (repeat first | exact Agree.refl | assumption | refine Agree.put rfl ?_ | refine Agree.put0 ?_ | refine Agree.sub rfl (by assumption) ?_), [1, 2, 4, 8, 1, 2], [2, 4, 8, 3, 1], 4, 4, 4, 1, 2, x, 0, 3, 2, 4, 1, 0, 3, ⟨rfl, rfl⟩, ⟨⟨by simp, fun y hy => by simp at hy; omega⟩, ⟨by simp, fun y hy => by simp at hy; omega⟩⟩, rfl⟩
        | 8, _, kZ2 =>
          have kk : Z 2 = .int .i64 8 := kZ2
          have hsp := @Nat.succ_ne_zero; repeat' (first | simp (disch := first | exact dschM18 | fail) only [go_sem, ↓reduceIte, hsp, kk, kZ5, kZ16, nck, Fc.as119, Int.toNat_natCast] | refine WP_drw ?_ | refine cnd_intro (fun hsp => ?_) fun hsp => ?_)
          exact ⟨by (repeat first | exact Agree.refl | assumption | refine Agree.put rfl ?_ | refine Agree.put0 ?_ | refine Agree.sub rfl (by assumption) ?_), [1, 2, 4, 8, 1, 2], [2, 4, 8, 3, 1], 4, 4, 4, 1, 2, 1, x, 3, 2, 4, 1, 0, 3, ⟨rfl, rfl⟩, ⟨⟨by simp, fun y hy => by simp at hy; omega⟩, ⟨by simp, fun y hy => by simp at hy; omega⟩⟩, rfl⟩
        | 9, _, kZ2 =>
          have kk : Z 2 = .int .i64 9 := kZ2
          have hsp := @Nat.succ_ne_zero; repeat' (first | simp (disch := first | exact dschM18 | fail) only [go_sem, ↓reduceIte, hsp, kk, kZ5, kZ16, nck, Fc.as119, Int.toNat_natCast] | refine WP_drw ?_ | refine cnd_intro (fun hsp => ?_) fun hsp => ?_)
          exact ⟨by (repeat first | exact Agree.refl | assumption | refine Agree.put rfl ?_ | refine Agree.put0 ?_ | refine Agree.sub rfl (by assumption) ?_), [1, 2, 4, 8, 1, 2], [2, 4, 8, 3, 1], 4, 4, 4, 1, 2, 1, 0, x, 2, 4, 1, 0, 3, ⟨rfl, rfl⟩, ⟨⟨by simp, fun y hy => by simp at hy; omega⟩, ⟨by simp, fun y hy => by simp at hy; omega⟩⟩, rfl⟩
        | 10, _, kZ2 =>
          have kk : Z 2 = .int .i64 10 := kZ2
          have hsp := @Nat.succ_ne_zero; repeat' (first | simp (disch := first | exact dschM18 | fail) only [go_sem, ↓reduceIte, hsp, kk, kZ5, kZ16, nck, Fc.as119, Int.toNat_natCast] | refine WP_drw ?_ | refine cnd_intro (fun hsp => ?_) fun hsp => ?_)
          exact ⟨by (repeat first | exact Agree.refl | assumption | refine Agree.put rfl ?_ | refine Agree.put0 ?_ | refine Agree.sub rfl (by assumption) ?_), [1, 2, 4, 8, 1, 2], [2, 4, 8, 3, 1], 4, 4, 4, 1, 2, 1, 0, 3, x, 4, 1, 0, 3, ⟨rfl, rfl⟩, ⟨⟨by simp, fun y hy => by simp at hy; omega⟩, ⟨by simp, fun y hy => by simp at hy; omega⟩⟩, rfl⟩
        | 11, _, kZ2 =>
          have kk : Z 2 = .int .i64 11 := kZ2
          have hsp := @Nat.succ_ne_zero; repeat' (first | simp (disch := first | exact dschM18 | fail) only [go_sem, ↓reduceIte, hsp, kk, kZ5, kZ16, nck, Fc.as119, Int.toNat_natCast] | refine WP_drw ?_ | refine cnd_intro (fun hsp => ?_) fun hsp => ?_)
          exact ⟨by (repeat first | exact Agree.refl | assumption | refine Agree.put rfl ?_ | refine Agree.put0 ?_ | refine Agree.sub rfl (by assumption) ?_), [1, 2, 4, 8, 1, 2], [2, 4, 8, 3, 1], 4, 4, 4, 1, 2, 1, 0, 3, 2, x, 1, 0, 3, ⟨rfl, rfl⟩, ⟨⟨by simp, fun y hy => by simp at hy; omega⟩, ⟨by simp, fun y hy => by simp at hy; omega⟩⟩, rfl⟩
        | 12, _, kZ2 =>
          have kk : Z 2 = .int .i64 12 := kZ2
          have hsp := @Nat.succ_ne_zero; repeat' (first | simp (disch := first | exact dschM18 | fail) only [go_sem, ↓reduceIte, hsp, kk, kZ5, kZ16, nck, Fc.as119, Int.toNat_natCast] | refine WP_drw ?_ | refine cnd_intro (fun hsp => ?_) fun hsp => ?_)
          exact ⟨by (repeat first | exact Agree.refl | assumption | refine Agree.put rfl ?_ | refine Agree.put0 ?_ | refine Agree.sub rfl (by assumption) ?_), [1, 2, 4, 8, 1, 2], [2, 4, 8, 3, 1], 4, 4, 4, 1, 2, 1, 0, 3, 2, 4, x, 0, 3, ⟨rfl, rfl⟩, ⟨⟨by simp, fun y hy => by simp at hy; omega⟩, ⟨by simp, fun y hy => by simp at hy; omega⟩⟩, rfl⟩
        | 13, _, kZ2 =>
          have kk : Z 2 = .int .i64 13 := kZ2
          have hsp := @Nat.succ_ne_zero; repeat' (first | simp (disch := first | exact dschM18 | fail) only [go_sem, ↓reduceIte, hsp, kk, kZ5, kZ16, nck, Fc.as119, Int.toNat_natCast] | refine WP_drw ?_ | refine cnd_intro (fun hsp => ?_) fun hsp => ?_)
          exact ⟨by (repeat first | exact Agree.refl | assumption | refine Agree.put rfl ?_ | refine Agree.put0 ?_ | refine Agree.sub rfl (by assumption) ?_), [1, 2, 4, 8, 1, 2], [2, 4, 8, 3, 1], 4, 4, 4, 1, 2, 1, 0, 3, 2, 4, 1, x, 3, ⟨rfl, rfl⟩, ⟨⟨by simp, fun y hy => by simp at hy; omega⟩, ⟨by simp, fun y hy => by simp at hy; omega⟩⟩, rfl⟩
        | 14, _, kZ2 =>
          have kk : Z 2 = .int .i64 14 := kZ2
          have hsp := @Nat.succ_ne_zero; repeat' (first | simp (disch := first | exact dschM18 | fail) only [go_sem, ↓reduceIte, hsp, kk, kZ5, kZ16, nck, Fc.as119, Int.toNat_natCast] | refine WP_drw ?_ | refine cnd_intro (fun hsp => ?_) fun hsp => ?_)
          exact ⟨by (repeat first | exact Agree.refl | assumption | refine Agree.put rfl ?_ | refine Agree.put0 ?_ | refine Agree.sub rfl (by assumption) ?_), [1, 2, 4, 8, 1, 2], [2, 4, 8, 3, 1], 4, 4, 4, 1, 2, 1, 0, 3, 2, 4, 1, 0, x, ⟨rfl, rfl⟩, ⟨⟨by simp, fun y hy => by simp at hy; omega⟩, ⟨by simp, fun y hy => by simp at hy; omega⟩⟩, rfl⟩
      · rintro fr3 H3 ⟨hA3, l1, l2, w1, w2, w3, c3, k1, k2, d3, x10, x11, x12, a, b, c, ⟨hl1, hl2⟩, ⟨hs1, hs2⟩, rfl⟩
        have m5 := hA3 5 rfl
        have m6 := hA3 6 rfl
        have m7 := hA3 7 rfl
        have m8 := hA3 8 rfl
        have m9 := hA3 9 rfl
        have m10 := hA3 10 rfl
        have m11 := hA3 11 rfl
        have m12 := hA3 12 rfl
        have m13 := hA3 13 rfl
        have m14 := hA3 14 rfl
        have m15 := hA3 15 rfl
        have m16 := hA3 16 rfl
        have m62 := hA3 62 rfl
        try simp (disch := first | exact dschM18 | fail) only [go_sem, ↓reduceIte, kZ5, kZ6, kZ7, kZ8, kZ9, kZ10, kZ11, kZ12, kZ13, kZ14, kZ15, kZ16, kZ62] at m5 m6 m7 m8 m9 m10 m11 m12 m13 m14 m15 m16 m62
        have hl1' := hl1.symm
        have hl2' := hl2.symm
        have hsp := @Nat.succ_ne_zero; repeat' (first | simp (disch := first | exact dschM18 | fail) only [go_sem, ↓reduceIte, hsp, m5, m6, m7, m8, m9, m10, m11, m12, m13, m14, m15, m16, m62, bsB, Fc.ln120] | refine WP_drw ?_ | refine cnd_intro (fun hsp => ?_) fun hsp => ?_)
        refine WP_count [(18, 18), (106, 122)] 0 2 (Nat.zero_le _) (fun H i fr h => fr 106 = .int .i64 (i : Int) ∧ ∃ y, h = H2 ++ [rowB l1 0] ++ [rowB l2 0] ++ [rowB [1, 2] 0] ++ [rowB [1, 3, 7] 0] ++ [⟨.cells [.int .i64 w1, .slice (some ⟨H2.length, 0, 0⟩) 6 6] 24 false false, 0⟩] ++ [⟨.cells [.int .i64 w2, .slice (some ⟨H2.length + 1, 0, 0⟩) 5 5] 24 false false, 0⟩] ++ [⟨.cells [.int .i64 w3, .slice (some ⟨H2.length + 1 + 1, 0, 0⟩) 2 2, .int .i64 k1, .int .i64 c3] 34 false false, 0⟩] ++ [⟨.cells [.int .i64 4, .slice (some ⟨H2.length + 1 + 1 + 1, 0, 0⟩) 3 3, .int .i64 k2, .int .i64 d3] 34 false false, 0⟩] ++ [⟨.cells [.int .i64 x10] 3 false false, 0⟩] ++ [⟨.cells [.int .i64 x11] 3 false false, 0⟩] ++ [⟨.cells [.int .i64 x12] 3 false false, 0⟩] ++ [⟨.cells [.int .i64 a, .int .i64 b, .int .i64 c, .bool y] 82 false false, 0⟩] ++ [⟨.cells [.int .i64 k1] 3 false false, 0⟩] ++ [⟨.cells [.int .i64 k2] 3 false false, 0⟩] ++ [⟨.cells [.ptr (some ⟨H2.length + 1 + 1 + 1 + 1, 0, 0⟩), .ptr (some ⟨H2.length, 0, 2⟩), .ptr (some ⟨H2.length + 1 + 1 + 1 + 1 + 1, 0, 0⟩), .ptr (some ⟨H2.length + 1, 0, 4⟩), .ptr (some ⟨H2.length + 1 + 1 + 1 + 1 + 1 + 1 + 1 + 1 + 1 + 1 + 1 + 1, 0, 0⟩), .ptr (some ⟨H2.length + 1 + 1 + 1 + 1 + 1 + 1, 0, 3⟩), .ptr (some ⟨H2.length + 1 + 1 + 1 + 1 + 1 + 1, 0, 0⟩), .ptr (some ⟨H2.length + 1 + 1 + 1 + 1 + 1 + 1 + 1 + 1 + 1 + 1 + 1 + 1 + 1, 0, 0⟩), .ptr (some ⟨H2.length + 1 + 1 + 1 + 1 + 1 + 1 + 1, 0, 3⟩), .ptr (some ⟨H2.length + 1 + 1 + 1 + 1 + 1 + 1 + 1 + 1, 0, 0⟩), .ptr (some ⟨H2.length + 1 + 1 + 1 + 1 + 1 + 1 + 1 + 1 + 1, 0, 0⟩), .ptr (some ⟨H2.length + 1 + 1 + 1 + 1 + 1 + 1 + 1 + 1 + 1 + 1, 0, 0⟩), .ptr (some ⟨H2.length + 1 + 1 + 1 + 1 + 1 + 1 + 1 + 1 + 1 + 1 + 1, 0, 0⟩), .ptr (some ⟨H2.length + 1 + 1 + 1 + 1 + 1 + 1 + 1 + 1 + 1 + 1 + 1, 0, 1⟩), .ptr (some ⟨H2.length + 1 + 1 + 1 + 1 + 1 + 1 + 1 + 1 + 1 + 1 + 1, 0, 2⟩)] 118 true false, 0⟩] ++ [⟨.cells [.bool false, .bool true] 4 true false, 0⟩]) ?_ ?_ ?_
        · exact ⟨by (simp (disch := first | exact dschM18 | fail) only [go_sem, ↓reduceIte, Int.natCast_zero]; first | done | rfl), false, rfl⟩
        · rintro n fr4 H4 hn0 hn hA4 ⟨r106, y, rfl⟩
          have p6 := hA4 6 rfl
          have p7 := hA4 7 rfl
          have p8 := hA4 8 rfl
          have p9 := hA4 9 rfl
          have p10 := hA4 10 rfl
          have p11 := hA4 11 rfl
          have p12 := hA4 12 rfl
          have p13 := hA4 13 rfl
          have p104 := hA4 104 rfl
          have p105 := hA4 105 rfl
          try simp (disch := first | exact dschM18 | fail) only [go_sem, ↓reduceIte, m6, m7, m8, m9, m10, m11, m12, m13] at p6 p7 p8 p9 p10 p11 p12 p13 p104 p105
          obtain rfl | rfl : n = 0 ∨ n = 1 := by omega
          · have hlt3 : (((0 : Nat) : Int) < 2) = True := eq_true (by omega)
            have hsp := @Nat.succ_ne_zero; repeat' (first | simp (disch := first | exact dschM18 | fail) only [go_sem, ↓reduceIte, hsp, chn, pap, p6, p7, p8, p9, p10, p11, p12, p13, p104, p105, r106, hlt3, r81, Fc.as120, Int.natCast_zero, Int.toNat_natCast, Int.toNat_zero] | refine WP_drw ?_ | refine cnd_intro (fun hsp => ?_) fun hsp => ?_)
            first | exact ⟨by (repeat first | exact Agree.refl | assumption | refine Agree.put rfl ?_ | refine Agree.put0 ?_ | refine Agree.sub rfl (by assumption) ?_), by first | rfl | omega | (simp (disch := first | exact dschM18 | fail) only [go_sem, ↓reduceIte, Int.natCast_zero]; first | done | rfl), _, rfl⟩ | exact ⟨by (repeat first | exact Agree.refl | assumption | refine Agree.put rfl ?_ | refine Agree.put0 ?_ | refine Agree.sub rfl (by assumption) ?_), _, rfl⟩
          · have hlt3 : (((1 : Nat) : Int) < 2) = True := eq_true (by omega)
            have hsp := @Nat.succ_ne_zero; repeat' (first | simp (disch := first | exact dschM18 | fail) only [go_sem, ↓reduceIte, hsp, chn, pap, p6, p7, p8, p9, p10, p11, p12, p13, p104, p105, r106, hlt3, r81, Fc.as120, Int.natCast_one, Int.toNat_natCast, Int.toNat_one] | refine WP_drw ?_ | refine cnd_intro (fun hsp => ?_) fun hsp => ?_)
            first | exact ⟨by (repeat first | exact Agree.refl | assumption | refine Agree.put rfl ?_ | refine Agree.put0 ?_ | refine Agree.sub rfl (by assumption) ?_), by first | rfl | omega | (simp (disch := first | exact dschM18 | fail) only [go_sem, ↓reduceIte, Int.natCast_zero]; first | done | rfl), _, rfl⟩ | exact ⟨by (repeat first | exact Agree.refl | assumption | refine Agree.put rfl ?_ | refine Agree.put0 ?_ | refine Agree.sub rfl (by assumption) ?_), _, rfl⟩
        · rintro fr4 H4 hA4 ⟨r106, y, rfl⟩
          have p262 := hA4 62 rfl
          have p2105 := hA4 105 rfl
          try simp (disch := first | exact dschM18 | fail) only [go_sem, ↓reduceIte, m62] at p262 p2105
          have hlt3 : (((2 : Nat) : Int) < 2) = False := eq_false (by omega)
          have hsp := @Nat.succ_ne_zero; repeat' (first | simp (disch := first | exact dschM18 | fail) only [go_sem, ↓reduceIte, hsp, p262, p2105, r62, r106, hlt3] | refine WP_drw ?_ | refine cnd_intro (fun hsp => ?_) fun hsp => ?_)
          first | exact ⟨by (repeat first | exact Agree.refl | assumption | refine Agree.put rfl ?_ | refine Agree.put0 ?_ | refine Agree.sub rfl (by assumption) ?_), by first | rfl | omega | (simp (disch := first | exact dschM18 | fail) only [go_sem, ↓reduceIte, Int.natCast_zero]; first | done | rfl), by repeat' first | exact xH2 | refine Ext.app ?_⟩ | exact ⟨by (repeat first | exact Agree.refl | assumption | refine Agree.put rfl ?_ | refine Agree.put0 ?_ | refine Agree.sub rfl (by assumption) ?_), by repeat' first | exact xH2 | refine Ext.app ?_⟩
    · rintro fr2 H2 hA2 ⟨r62, xH2⟩
      have q353 := hA2 53 rfl
      have q361 := hA2 61 rfl
      try simp (disch := first | exact dschM18 | fail) only [go_sem, ↓reduceIte] at q353 q361
      have hlt2 : ((m.length : Int) < (m.length : Int)) = False := eq_false (by omega)
      have hsp := @Nat.succ_ne_zero; repeat' (first | simp (disch := first | exact dschM18 | fail) only [go_sem, ↓reduceIte, hsp, r53, r62, q353, q361, hlt2] | refine WP_drw ?_ | refine cnd_intro (fun hsp => ?_) fun hsp => ?_)
      first | exact ⟨by (repeat first | exact Agree.refl | assumption | refine Agree.put rfl ?_ | refine Agree.put0 ?_ | refine Agree.sub rfl (by assumption) ?_), by first | rfl | omega | (simp (disch := first | exact dschM18 | fail) only [go_sem, ↓reduceIte, Int.natCast_zero]; first | done | rfl), Ext.trans (Ext.app xH) xH2⟩ | exact ⟨by (repeat first | exact Agree.refl | assumption | refine Agree.put rfl ?_ | refine Agree.put0 ?_ | refine Agree.sub rfl (by assumption) ?_), Ext.trans (Ext.app xH) xH2⟩
  · rintro fr H hA1 ⟨r53, xH⟩
    have p52 := hA1 52 rfl; simp (disch := first | exact dschM18 | fail) only [go_sem, ↓reduceIte, kt] at p52
    have hlt : (((15 : Nat) : Int) < 15) = False := eq_false (by omega)
    have hsp := @Nat.succ_ne_zero; repeat' (first | simp (disch := first | exact dschM18 | fail) only [go_sem, ↓reduceIte, hsp, r53, p52, hlt] | refine WP_drw ?_ | refine cnd_intro (fun hsp => ?_) fun hsp => ?_)
    refine WP_count [(19, 30), (125, 246)] 0 60 (Nat.zero_le _) (fun H i fr h => fr 125 = .int .i64 (i : Int) ∧ Ext H h) ?_ ?_ ?_
    · exact ⟨by (simp (disch := first | exact dschM18 | fail) only [go_sem, ↓reduceIte, Int.natCast_zero]; first | done | rfl), .refl⟩
    · rintro n fr5 H0 hn0 hn hA5 ⟨r125, xH0⟩
      have xG0 : Ext G H0 := Ext.trans xH xH0
      have hG0 := xG0.len
      have hlt5 : ((n : Int) < 60) = True := eq_true (by omega)
      have m4 : ∀ m : Nat, binA prog .rem 3 (.int .i64 (m : Int)) (.int .i64 4) = some (.int .i64 ((m % 4 : Nat) : Int)) := fun m => remN (n := 4) (by omega) (by omega)
      have m3 : ∀ m : Nat, binA prog .rem 3 (.int .i64 (m : Int)) (.int .i64 3) = some (.int .i64 ((m % 3 : Nat) : Int)) := fun m => remN (n := 3) (by omega) (by omega)
      have m2 : ∀ m : Nat, binA prog .rem 3 (.int .i64 (m : Int)) (.int .i64 2) = some (.int .i64 ((m % 2 : Nat) : Int)) := fun m => remN (n := 2) (by omega) (by omega)
      have m5 : ∀ m : Nat, binA prog .rem 3 (.int .i64 (m : Int)) (.int .i64 5) = some (.int .i64 ((m % 5 : Nat) : Int)) := fun m => remN (n := 5) (by omega) (by omega)
      have m6 : ∀ m : Nat, binA prog .rem 3 (.int .i64 (m : Int)) (.int .i64 6) = some (.int .i64 ((m % 6 : Nat) : Int)) := fun m => remN (n := 6) (by omega) (by omega)
      have d3 : ∀ m : Nat, m < 100 → binA prog .quo 3 (.int .i64 (m : Int)) (.int .i64 3) = some (.int .i64 ((m / 3 : Nat) : Int)) := fun m hm => quoN (n := 3) (by omega) hm
      have d4 : ∀ m : Nat, m < 100 → binA prog .quo 3 (.int .i64 (m : Int)) (.int .i64 4) = some (.int .i64 ((m / 4 : Nat) : Int)) := fun m hm => quoN (n := 4) (by omega) hm
      have d2 : ∀ m : Nat, m < 100 → binA prog .quo 3 (.int .i64 (m : Int)) (.int .i64 2) = some (.int .i64 ((m / 2 : Nat) : Int)) := fun m hm => quoN (n := 2) (by omega) hm
      obtain ⟨w, ew, hw⟩ : ∃ w : Nat, (1 : Int) + ((n % 4 : Nat) : Int) = (w : Int) ∧ (1 ≤ w ∧ w ≤ 4) := ⟨1 + n % 4, by omega, by omega⟩
      obtain ⟨k, ek⟩ : ∃ k, n % 3 = k := ⟨_, rfl⟩
      have m3n := m3 n
      rw [ek] at m3n
      have hsp := @Nat.succ_ne_zero; repeat' (first | simp (disch := first | exact dschM18 | fail) only [go_sem, ↓reduceIte, hsp, r125, hlt5, m4, m3n, ew] | refine WP_drw ?_ | refine cnd_intro (fun hsp => ?_) fun hsp => ?_)
      obtain ⟨R5, eR5, hA5'⟩ := hA5.name
      rw [← eR5]
      have z125 := r125
      
      refine WPS_restF fun Z eZ => ?_
      rw [← WP_seq]
      have kZ19 := congrFun eZ 19
      have kZ20 := congrFun eZ 20
      have kZ21 := congrFun eZ 21
      have kZ125 := congrFun eZ 125
      try simp (disch := first | exact dschM18 | fail) only [go_sem, ↓reduceIte, z125] at kZ19 kZ20 kZ21 kZ125
      have aZ : Agree [(19, 30), (125, 246)] Z R5 := by rw [eZ]; (repeat first | exact Agree.refl | assumption | refine Agree.put rfl ?_ | refine Agree.put0 ?_ | refine Agree.sub rfl (by assumption) ?_)
      clear eZ
      refine WP_meet (fun fr h => Agree [(135, 143)] fr Z ∧ ∃ s : Int, h = H0 ++ [⟨.cells [.int .i64 (w : Int), .slice none 0 0, .int .i64 (k : Int), .int .i64 s] 34 false false, 0⟩]) ?_ ?_
      · rw [WP_seq, WP_region]
        by_cases k2 : k = 2
        · have k2' : ((k : Int) = 2) = True := eq_true (by omega)
          have mx : max 1 (w : Int) = (w : Int) := by omega
          have mw := remN (x := ((n / 3 : Nat) : Int)) (n := w) (by omega) (by omega)
          have hsp := @Nat.succ_ne_zero; repeat' (first | simp (disch := first | exact dschM18 | fail) only [go_sem, ↓reduceIte, hsp, kZ19, kZ20, kZ21, kZ125, m3n, k2', mx, mw, d3] | refine WP_drw ?_ | refine cnd_intro (fun hsp => ?_) fun hsp => ?_)
          exact ⟨by (repeat first | exact Agree.refl | assumption | refine Agree.put rfl ?_ | refine Agree.put0 ?_ | refine Agree.sub rfl (by assumption) ?_), _, rfl⟩
        · have k2' : ((k : Int) = 2) = False := eq_false (by omega)
          have hsp := @Nat.succ_ne_zero; repeat' (first | simp (disch := first | exact dschM18 | fail) only [go_sem, ↓reduceIte, hsp, kZ19, kZ20, kZ21, kZ125, m3n, k2'] | refine WP_drw ?_ | refine cnd_intro (fun hsp => ?_) fun hsp => ?_)
          exact ⟨by (repeat first | exact Agree.refl | assumption | refine Agree.put rfl ?_ | refine Agree.put0 ?_ | refine Agree.sub rfl (by assumption) ?_), _, rfl⟩
      · rintro fr6 H6 ⟨hA6, s, rfl⟩
        have y19 := hA6 19 rfl
        have y20 := hA6 20 rfl
        have y21 := hA6 21 rfl
        have y125 := hA6 125 rfl
        try simp (disch := first | exact dschM18 | fail) only [go_sem, ↓reduceIte, kZ19, kZ20, kZ21, kZ125] at y19 y20 y21 y125
        obtain ⟨nc, enc, hnc⟩ : ∃ nc : Nat, (1 : Int) + ((n / 4 % 3 : Nat) : Int) = (nc : Int) ∧ (1 ≤ nc ∧ nc ≤ 3) := ⟨1 + n / 4 % 3, by omega, by omega⟩
        obtain ⟨B, hB⟩ : ∃ B : Nat, 2 ^ w = B := ⟨_, rfl⟩
        have hB2 : 1 ≤ B ∧ B ≤ 16 := ⟨by rw [← hB]; exact Nat.pow_pos (by decide), by rw [← hB]; exact Nat.le_trans (Nat.pow_le_pow_right (by decide) hw.2) (by decide)⟩
        have hshl : ∀ {t : TypeId}, binA prog .shl t (.int .i64 1) (.int .i64 (w : Int)) = some (.int .i64 (B : Int)) := fun {t} => by
          rw [bin_shl (by omega)]
          have e1 : min ((w : Int)).toNat IntKind.i64.bits = w := by simp [IntKind.bits]; omega
          have e2 : ((2 : Int) ^ w) = ((2 ^ w : Nat) : Int) := by simp
          rw [e1, Int.one_mul, e2, hB, wrap64 (by omega) (by omega)]
        have mB : ∀ x : Int, 0 ≤ x → binA prog .rem 3 (.int .i64 x) (.int .i64 (B : Int)) = some (.int .i64 ((x.toNat % B : Nat) : Int)) := fun x hx => remN hx (by omega)
        obtain ⟨f, ef⟩ : ∃ f : Nat → Int, f = fun i => (((((n * (i + 3) : Nat) : Int) + (i : Int)).toNat % B : Nat) : Int) := ⟨_, rfl⟩
        have hfb : ∀ i, 0 ≤ f i ∧ f i ≤ 16 := fun i => by
          rw [ef]
          dsimp only
          have := Nat.mod_lt (((n * (i + 3) : Nat) : Int) + (i : Int)).toNat (show B > 0 by omega)
          generalize (((n * (i + 3) : Nat) : Int) + (i : Int)).toNat % B = q at *
          omega
        obtain ⟨cl, ecl⟩ : ∃ cl : Nat → List Int, cl = fun i => lst f i := ⟨_, rfl⟩
        have cl0 : cl 0 = [] := by rw [ecl]; rfl
        have cls : ∀ i, cl (i + 1) = cl i ++ [f i] := fun i => by rw [ecl]; exact lst_succ
        have cll : ∀ i, (cl i).length = i := fun i => by rw [ecl]; exact lst_len
        have clm : ∀ i, ∀ x ∈ cl i, 0 ≤ x ∧ x ≤ 16 := fun i x hx => by
          rw [ecl] at hx
          obtain ⟨t, _, rfl⟩ := List.mem_map.1 hx
          exact hfb t
        have m3q := m3 (n / 4)
        have d4n := d4 n (by omega)
        have hsp := @Nat.succ_ne_zero; repeat' (first | simp (disch := first | exact dschM18 | fail) only [go_sem, ↓reduceIte, hsp, y19, y20, y21, y125, m3q, d4n, enc] | refine WP_drw ?_ | refine cnd_intro (fun hsp => ?_) fun hsp => ?_)
        refine WP_count [(22, 22), (148, 165)] 0 nc (Nat.zero_le _) (fun H i fr h => fr 148 = .int .i64 (i : Int) ∧ h = H0 ++ [⟨.cells [.int .i64 (w : Int), grV (H0.length + 1) (cl i), .int .i64 (k : Int), .int .i64 s] 34 false false, 0⟩] ++ grH (cl i)) ?_ ?_ ?_
        · exact ⟨by (simp (disch := first | exact dschM18 | fail) only [go_sem, ↓reduceIte, Int.natCast_zero]; first | done | rfl), by rw [cl0, grV_nil, grH_nil, List.append_nil]⟩
        · rintro i2 fr7 H7 hi20 hi2 hA7 ⟨r148, rfl⟩
          have x19 := hA7 19 rfl
          have x20 := hA7 20 rfl
          have x21 := hA7 21 rfl
          have x125 := hA7 125 rfl
          have x147 := hA7 147 rfl
          try simp (disch := first | exact dschM18 | fail) only [go_sem, ↓reduceIte, y19, y20, y21, y125] at x19 x20 x21 x125 x147
          have hlt6 : ((i2 : Int) < (nc : Int)) = True := eq_true (by omega)
          have hb1 : n * (i2 + 3) ≤ 60 * 6 := Nat.mul_le_mul (by omega) (by omega)
          have hmul : binA prog .mul 3 (.int .i64 (n : Int)) (.int .i64 ((i2 : Int) + 3)) = some (.int .i64 ((n * (i2 + 3) : Nat) : Int)) := by
            rw [bin_mul, show (n : Int) * ((i2 : Int) + 3) = ((n * (i2 + 3) : Nat) : Int) by simp, wrap64 (by omega) (by omega)]
          have hrem := mB (((n * (i2 + 3) : Nat) : Int) + (i2 : Int)) (by omega)
          rw [show ((((((n * (i2 + 3) : Nat) : Int) + (i2 : Int)).toNat % B : Nat) : Int)) = f i2 by rw [ef]] at hrem
          have hfi := hfb i2
          have htl : (cl i2).length < 1073741824 := by rw [cll]; omega
          have hb3 : ((n * (i2 + 3) : Nat) : Int) + (i2 : Int) ≤ 400 ∧ 0 ≤ ((n * (i2 + 3) : Nat) : Int) + (i2 : Int) := by omega
          generalize ((n * (i2 + 3) : Nat) : Int) = yy at *
          have hsp := @Nat.succ_ne_zero; repeat' (first | simp (disch := first | exact dschM18 | fail) only [go_sem, ↓reduceIte, hsp, x19, x20, x21, x125, x147, r148, hlt6, hmul, hshl, hrem] | refine WP_drw ?_ | refine cnd_intro (fun hsp => ?_) fun hsp => ?_)
          refine ⟨by (repeat first | exact Agree.refl | assumption | refine Agree.put rfl ?_ | refine Agree.put0 ?_ | refine Agree.sub rfl (by assumption) ?_), ?_⟩
          rw [cls]
          first | exact ⟨by omega, rfl⟩ | rfl | (refine ⟨by first | rfl | omega | (simp (disch := first | exact dschM18 | fail) only [go_sem, ↓reduceIte, Int.natCast_zero]; first | done | rfl), ?_⟩; simp (disch := first | exact dschM18 | fail) only [go_sem, ↓reduceIte])
        · rintro fr7 H7 hA7 ⟨r148, rfl⟩
          have x19 := hA7 19 rfl
          have x20 := hA7 20 rfl
          have x21 := hA7 21 rfl
          have x125 := hA7 125 rfl
          have x147 := hA7 147 rfl
          try simp (disch := first | exact dschM18 | fail) only [go_sem, ↓reduceIte, y19, y20, y21, y125] at x19 x20 x21 x125 x147
          have hlt6 : ((nc : Int) < (nc : Int)) = False := eq_false (by omega)
          have hsp := @Nat.succ_ne_zero; repeat' (first | simp (disch := first | exact dschM18 | fail) only [go_sem, ↓reduceIte, hsp, x19, x20, x21, x125, x147, r148, hlt6] | refine WP_drw ?_ | refine cnd_intro (fun hsp => ?_) fun hsp => ?_)
          refine WPS_rest fun Y Hc eY eHc => ?_
          rw [WP_region]
          have kY19 := congrFun eY 19
          have kY20 := congrFun eY 20
          have kY21 := congrFun eY 21
          have kY125 := congrFun eY 125
          try simp (disch := first | exact dschM18 | fail) only [go_sem, ↓reduceIte, x19, x20, x21, x125] at kY19 kY20 kY21 kY125
          have gY21 := congrArg (fun X => atP X (Y 21)) eHc
          try simp only [kY21, atP_ptr] at gY21
          have lHc := congrArg List.length eHc
          try simp (disch := first | exact dschM18 | fail) only [go_sem, ↓reduceIte] at gY21 lHc
          have aY : Agree [(19, 30), (125, 246)] Y R5 := by rw [eY]; (repeat first | exact Agree.refl | assumption | refine Agree.put rfl ?_ | refine Agree.put0 ?_ | refine Agree.sub rfl (by assumption) ?_)
          have hsc : Small (cl nc) := ⟨by rw [cll]; omega, fun x hx => by have := clm nc x hx; omega⟩
          have IC : Ints Hc (grV (H0.length + 1) (cl nc)) (cl nc) := by rw [eHc]; exact dschM18
          have xHc : Ext H0 Hc := by rw [eHc]; repeat' first | exact Ext.refl | refine Ext.app ?_
          generalize grV (H0.length + 1) (cl nc) = VC at *
          have hcl := cll nc
          generalize cl nc = C at *
          have hC48 : C.length ≤ 48 := by omega
          clear eY lHc eHc
          have hHc := xHc.len
          have m5n := m5 n
          obtain ⟨N, eN, hN⟩ : ∃ N : Nat, (4 : Int) + ((n % 5 : Nat) : Int) = (N : Int) ∧ (4 ≤ N ∧ N ≤ 8) := ⟨4 + n % 5, by omega, by omega⟩
          refine OPS_meet (fun fr h => Agree [(23, 24), (166, 173)] fr Y ∧ Ext Hc h ∧ ∃ (a : Nat) (w1 : Int) (v1 : AVal) (l1 : List Int), fr 23 = .ptr (some ⟨a, 0, 0⟩) ∧ h[a]? = some ⟨.cells [.int .i64 w1, v1] 24 false false, 0⟩ ∧ Ints h v1 l1 ∧ l1.length ≤ 48 ∧ (l1 = [] ∨ (chk w1 l1 = 0 ∧ 4 ≤ l1.length ∧ ∃ r, v1 = .slice (some ⟨r, 0, 0⟩) l1.length l1.length ∧ h[r]? = some (rowB l1 0) ∧ Hc.length ≤ r ∧ r ≠ a))) ?_ ?_
          · obtain ⟨w1, l1, e1, e35, hw1⟩ := weave_any (w := (w : Int)) (k := (k : Int)) (s := s) (l := C) (n := N) (by omega)
            rcases hw1 with rfl | ⟨hc1, hl1⟩
            · have hsp := @Nat.succ_ne_zero; repeat' (first | simp (disch := first | exact dschM18 | fail) only [go_sem, ↓reduceIte, hsp, kY19, kY20, kY21, kY125, gY21, chn, pap, gY21, m5n, eN, e35, tup3, nlV_nil', newH_nil'] | refine WP_drw ?_ | refine cnd_intro (fun hsp => ?_) fun hsp => ?_)
              exact ⟨by (repeat first | exact Agree.refl | assumption | refine Agree.put rfl ?_ | refine Agree.put0 ?_ | refine Agree.sub rfl (by assumption) ?_), (by repeat' first | exact Ext.refl | assumption | refine Ext.app ?_), Hc.length, w1, .slice none 0 0, [], by (simp (disch := first | exact dschM18 | fail) only [go_sem, ↓reduceIte, Int.natCast_zero]; first | done | rfl), get_eq rfl, ints_nil, by simp, .inl rfl⟩
            · have hne : l1 ≠ [] := by intro e; rw [e, List.length_nil] at hl1; omega
              have hs1 := small_of hc1
              have n1 : ∀ {n : Nat}, nlV n l1 = .slice (some ⟨n, 0, 0⟩) l1.length l1.length := fun {n} => nlV_ne hne
              have n2 : newH l1 = [rowB l1 0] := newH_ne hne
              have hsp := @Nat.succ_ne_zero; repeat' (first | simp (disch := first | exact dschM18 | fail) only [go_sem, ↓reduceIte, hsp, kY19, kY20, kY21, kY125, gY21, chn, pap, gY21, m5n, eN, e35, tup3, n1, n2] | refine WP_drw ?_ | refine cnd_intro (fun hsp => ?_) fun hsp => ?_)
              exact ⟨by (repeat first | exact Agree.refl | assumption | refine Agree.put rfl ?_ | refine Agree.put0 ?_ | refine Agree.sub rfl (by assumption) ?_), (by repeat' first | exact Ext.refl | assumption | refine Ext.app ?_), Hc.length + 1, w1, .slice (some ⟨Hc.length, 0, 0⟩) l1.length l1.length, l1, by (simp (disch := first | exact dschM18 | fail) only [go_sem, ↓reduceIte, Int.natCast_zero]; first | done | rfl), get_eq (by simp), (slice_row rfl rfl hs1).app, by omega, .inr ⟨hc1, by omega, Hc.length, rfl, get_app (get_eq rfl), Nat.le_refl _, by omega⟩⟩
          · rintro frA H35 ⟨hAA, xHc5, a23, w1, v1, l1, aa23, g23, I1, n1, hcase⟩
            have aa19 := hAA 19 rfl
            have aa20 := hAA 20 rfl
            have aa21 := hAA 21 rfl
            have aa125 := hAA 125 rfl
            try simp (disch := first | exact dschM18 | fail) only [go_sem, ↓reduceIte, kY19, kY20, kY21, kY125] at aa19 aa20 aa21 aa125
            have gc35 := xHc5.get gY21
            have hH35 := xHc5.len
            have hbHx := hHc
            
            have hbH : h.length ≤ Hc.length := by omega
            have hsp := @Nat.succ_ne_zero; repeat' (first | simp (disch := first | exact dschM18 | fail) only [go_sem, ↓reduceIte, hsp] | refine WP_drw ?_ | refine cnd_intro (fun hsp => ?_) fun hsp => ?_)
            refine WPS_restF fun BB eBB => ?_
            rw [← WP_seq]
            have kBB19 := congrFun eBB 19
            have kBB20 := congrFun eBB 20
            have kBB21 := congrFun eBB 21
            have kBB23 := congrFun eBB 23
            have kBB125 := congrFun eBB 125
            try simp (disch := first | exact dschM18 | fail) only [go_sem, ↓reduceIte, aa19, aa20, aa21, aa23, aa125] at kBB19 kBB20 kBB21 kBB23 kBB125
            have aBB : Agree [(19, 30), (125, 246)] BB R5 := by rw [eBB]; (repeat first | exact Agree.refl | assumption | refine Agree.put rfl ?_ | refine Agree.put0 ?_ | refine Agree.sub rfl (by assumption) ?_)
            clear eBB
            refine WP_meet (fun fr h => Agree [(174, 190)] fr BB ∧ Ext Hc h ∧ ∃ (w1 : Int) (v1 : AVal) (l1 : List Int), h[a23]? = some ⟨.cells [.int .i64 w1, v1] 24 false false, 0⟩ ∧ Ints h v1 l1 ∧ l1.length ≤ 48) ?_ ?_
            · rw [WP_seq, WP_region]
              rcases hcase with rfl | ⟨hc1, hl1, r, rfl, gr, hr1, hr2⟩
              · have c1 : ((0 : Int) > 3) = False := eq_false (by omega)
                have hsp := @Nat.succ_ne_zero; repeat' (first | simp (disch := first | exact dschM18 | fail) only [go_sem, ↓reduceIte, hsp, kBB19, kBB20, kBB21, kBB23, kBB125, g23, lenI I1, c1, List.length_nil, Int.natCast_zero] | refine WP_drw ?_ | refine cnd_intro (fun hsp => ?_) fun hsp => ?_)
                exact ⟨by (repeat first | exact Agree.refl | assumption | refine Agree.put rfl ?_ | refine Agree.put0 ?_ | refine Agree.sub rfl (by assumption) ?_), xHc5, w1, v1, [], by first | rfl | exact g23, I1, by simp⟩
              · have c1 : ((l1.length : Int) > 3) = True := eq_true (by omega)
                have m2n := m2 n
                by_cases hpar : n % 2 = 0
                · have c2 : (((n % 2 : Nat) : Int) = 0) = True := eq_true (by omega)
                  have d2n := d2 n (by omega)
                  have mBn := mB ((n / 2 : Nat) : Int) (by omega)
                  have hx2 := Nat.mod_lt (((n / 2 : Nat) : Int)).toNat (show B > 0 by omega)
                  rw [Int.toNat_natCast] at mBn hx2
                  generalize n / 2 % B = xx at *
                  have hrow : stQ h.length r (some (rowB l1 0)) 0 3 [.int .i64 (xx : Int)] (fun b => H35.set r b) = some (H35.set r (rowB (l1.set 3 (xx : Int)) 0)) := st_row (by omega) (by omega)
                  have hsp := @Nat.succ_ne_zero; repeat' (first | simp (disch := first | exact dschM18 | fail) only [go_sem, ↓reduceIte, hsp, kBB19, kBB20, kBB21, kBB23, kBB125, g23, lenI I1, c1, c2, m2n, d2n, mBn, hshl, gr, hrow, Fc.as22, Fc.ln22] | refine WP_drw ?_ | refine cnd_intro (fun hsp => ?_) fun hsp => ?_)
                  exact ⟨by (repeat first | exact Agree.refl | assumption | refine Agree.put rfl ?_ | refine Agree.put0 ?_ | refine Agree.sub rfl (by assumption) ?_), xHc5.set hr1, w1, _, l1.set 3 (xx : Int), by first | rfl | exact get_set_ne' hr2 g23, ints_row (by rw [List.getElem?_set_self (lt_of_get gr)]) (by rw [List.length_set]) (small_set (small_of hc1) (by omega)), by rw [List.length_set]; omega⟩
                · have c2 : (((n % 2 : Nat) : Int) = 0) = False := eq_false (by omega)
                  have hsp := @Nat.succ_ne_zero; repeat' (first | simp (disch := first | exact dschM18 | fail) only [go_sem, ↓reduceIte, hsp, kBB19, kBB20, kBB21, kBB23, kBB125, g23, lenI I1, c1, c2, m2n, Fc.ln22] | refine WP_drw ?_ | refine cnd_intro (fun hsp => ?_) fun hsp => ?_)
                  exact ⟨by (repeat first | exact Agree.refl | assumption | refine Agree.put rfl ?_ | refine Agree.put0 ?_ | refine Agree.sub rfl (by assumption) ?_), xHc5, w1, _, l1, by first | rfl | exact g23, I1, by omega⟩
            · clear hcase I1 g23
              rintro frB H37 ⟨hAB, xHc7, w1, v1, l1, g23, I1, n1⟩
              have ba19 := hAB 19 rfl
              have ba20 := hAB 20 rfl
              have ba21 := hAB 21 rfl
              have ba23 := hAB 23 rfl
              have ba125 := hAB 125 rfl
              try simp (disch := first | exact dschM18 | fail) only [go_sem, ↓reduceIte, kBB19, kBB20, kBB21, kBB23, kBB125] at ba19 ba20 ba21 ba23 ba125
              have gc37 := xHc7.get gY21
              have hH37 := xHc7.len
              have hsp := @Nat.succ_ne_zero; repeat' (first | simp (disch := first | exact dschM18 | fail) only [go_sem, ↓reduceIte, hsp] | refine WP_drw ?_ | refine cnd_intro (fun hsp => ?_) fun hsp => ?_)
              refine WPS_restF fun C1 eC1 => ?_
              rw [WP_region]
              have kC119 := congrFun eC1 19
              have kC120 := congrFun eC1 20
              have kC121 := congrFun eC1 21
              have kC123 := congrFun eC1 23
              have kC1125 := congrFun eC1 125
              try simp (disch := first | exact dschM18 | fail) only [go_sem, ↓reduceIte, ba19, ba20, ba21, ba23, ba125] at kC119 kC120 kC121 kC123 kC1125
              have aC1 : Agree [(19, 30), (125, 246)] C1 R5 := by rw [eC1]; (repeat first | exact Agree.refl | assumption | refine Agree.put rfl ?_ | refine Agree.put0 ?_ | refine Agree.sub rfl (by assumption) ?_)
              clear eC1
              refine OPS_meet (fun fr h => Agree [(25, 26), (191, 195)] fr C1 ∧ Ext H37 h ∧ ∃ (a : Nat) (w2 k2 s2 : Int) (v2 : AVal) (l2 : List Int), fr 25 = .ptr (some ⟨a, 0, 0⟩) ∧ h[a]? = some ⟨.cells [.int .i64 w2, v2, .int .i64 k2, .int .i64 s2] 34 false false, 0⟩ ∧ Ints h v2 l2 ∧ l2.length ≤ 48) ?_ ?_
              · obtain ⟨w2, l2, k2, s2, e2, e38, hs2, hl2⟩ := few_any (w := w1) (l := l1)
                by_cases hz : l2 = []
                · subst hz
                  have hsp := @Nat.succ_ne_zero; repeat' (first | simp (disch := first | exact dschM18 | fail) only [go_sem, ↓reduceIte, hsp, kC119, kC120, kC121, kC123, kC1125, pap, chn, g23, e38, nlV_nil', newH_nil', List.append_nil] | refine WP_drw ?_ | refine cnd_intro (fun hsp => ?_) fun hsp => ?_)
                  exact ⟨by (repeat first | exact Agree.refl | assumption | refine Agree.put rfl ?_ | refine Agree.put0 ?_ | refine Agree.sub rfl (by assumption) ?_), (by repeat' first | exact Ext.refl | assumption | refine Ext.app ?_), H37.length, w2, k2, s2, .slice none 0 0, [], by (simp (disch := first | exact dschM18 | fail) only [go_sem, ↓reduceIte, Int.natCast_zero]; first | done | rfl), get_eq rfl, ints_nil, by simp⟩
                · have n1 : ∀ {n : Nat}, nlV n l2 = .slice (some ⟨n, 0, 0⟩) l2.length l2.length := fun {n} => nlV_ne hz
                  have n2 : newH l2 = [rowB l2 0] := newH_ne hz
                  have hsp := @Nat.succ_ne_zero; repeat' (first | simp (disch := first | exact dschM18 | fail) only [go_sem, ↓reduceIte, hsp, kC119, kC120, kC121, kC123, kC1125, pap, chn, g23, e38, n1, n2] | refine WP_drw ?_ | refine cnd_intro (fun hsp => ?_) fun hsp => ?_)
                  exact ⟨by (repeat first | exact Agree.refl | assumption | refine Agree.put rfl ?_ | refine Agree.put0 ?_ | refine Agree.sub rfl (by assumption) ?_), (by repeat' first | exact Ext.refl | assumption | refine Ext.app ?_), H37.length + 1, w2, k2, s2, .slice (some ⟨H37.length, 0, 0⟩) l2.length l2.length, l2, by (simp (disch := first | exact dschM18 | fail) only [go_sem, ↓reduceIte, Int.natCast_zero]; first | done | rfl), get_eq (by simp), (slice_row rfl rfl hs2).app, hl2⟩
              · rintro frC H38 ⟨hAC, xHc8, a25, w2, k2, s2, v2, l2, ca25, g25, I2, n2⟩
                have ca19 := hAC 19 rfl
                have ca20 := hAC 20 rfl
                have ca21 := hAC 21 rfl
                have ca23 := hAC 23 rfl
                have ca125 := hAC 125 rfl
                try simp (disch := first | exact dschM18 | fail) only [go_sem, ↓reduceIte, kC119, kC120, kC121, kC123, kC1125] at ca19 ca20 ca21 ca23 ca125
                
                have gc38 := xHc8.get gc37
                have g23c := xHc8.get g23
                have I1c := I1.ext xHc8
                have hH38 := xHc8.len
                have sm1 := small_ints I1 (show l1.length ≤ 1048576 by omega)
                have hsp := @Nat.succ_ne_zero; repeat' (first | simp (disch := first | exact dschM18 | fail) only [go_sem, ↓reduceIte, hsp] | refine WP_drw ?_ | refine cnd_intro (fun hsp => ?_) fun hsp => ?_)
                refine WPS_restF fun D1 eD1 => ?_
                rw [WP_region]
                have kD119 := congrFun eD1 19
                have kD120 := congrFun eD1 20
                have kD121 := congrFun eD1 21
                have kD123 := congrFun eD1 23
                have kD125 := congrFun eD1 25
                have kD1125 := congrFun eD1 125
                try simp (disch := first | exact dschM18 | fail) only [go_sem, ↓reduceIte, ca19, ca20, ca21, ca23, ca25, ca125] at kD119 kD120 kD121 kD123 kD125 kD1125
                have aD1 : Agree [(19, 30), (125, 246)] D1 R5 := by rw [eD1]; (repeat first | exact Agree.refl | assumption | refine Agree.put rfl ?_ | refine Agree.put0 ?_ | refine Agree.sub rfl (by assumption) ?_)
                clear eD1
                refine OPS_meet (fun fr h => Agree [(27, 28), (196, 200)] fr D1 ∧ Ext H38 h ∧ ∃ (a : Nat) (w3 : Int) (v3 : AVal) (l3 : List Int), fr 27 = .ptr (some ⟨a, 0, 0⟩) ∧ H38.length ≤ a ∧ h[a]? = some ⟨.cells [.int .i64 w3, v3] 24 false false, 0⟩ ∧ Ints h v3 l3 ∧ Small l3 ∧ l3.length ≤ 48 ∧ ((l3 = [] ∧ v3 = .slice none 0 0) ∨ (0 < l3.length ∧ ∃ r, v3 = .slice (some ⟨r, 0, 0⟩) l3.length l3.length ∧ h[r]? = some (rowB l3 0) ∧ H38.length ≤ r ∧ r ≠ a))) ?_ ?_
                · obtain ⟨w3, l3, e3, e39, hs3, hl3⟩ := turn_any (w := w1) (l := l1)
                  by_cases hz : l3 = []
                  · subst hz
                    have hsp := @Nat.succ_ne_zero; repeat' (first | simp (disch := first | exact dschM18 | fail) only [go_sem, ↓reduceIte, hsp, kD119, kD120, kD121, kD123, kD125, kD1125, pap, chn, g23c, e39, tup3, nlV_nil', newH_nil', List.append_nil] | refine WP_drw ?_ | refine cnd_intro (fun hsp => ?_) fun hsp => ?_)
                    exact ⟨by (repeat first | exact Agree.refl | assumption | refine Agree.put rfl ?_ | refine Agree.put0 ?_ | refine Agree.sub rfl (by assumption) ?_), (by repeat' first | exact Ext.refl | assumption | refine Ext.app ?_), H38.length, w3, .slice none 0 0, [], by (simp (disch := first | exact dschM18 | fail) only [go_sem, ↓reduceIte, Int.natCast_zero]; first | done | rfl), Nat.le_refl _, get_eq rfl, ints_nil, hs3, by simp, .inl ⟨rfl, rfl⟩⟩
                  · have n1 : ∀ {n : Nat}, nlV n l3 = .slice (some ⟨n, 0, 0⟩) l3.length l3.length := fun {n} => nlV_ne hz
                    have n2 : newH l3 = [rowB l3 0] := newH_ne hz
                    have hp : 0 < l3.length := by cases l3 with | nil => exact absurd rfl hz | cons _ _ => simp
                    have hsp := @Nat.succ_ne_zero; repeat' (first | simp (disch := first | exact dschM18 | fail) only [go_sem, ↓reduceIte, hsp, kD119, kD120, kD121, kD123, kD125, kD1125, pap, chn, g23c, e39, tup3, n1, n2] | refine WP_drw ?_ | refine cnd_intro (fun hsp => ?_) fun hsp => ?_)
                    exact ⟨by (repeat first | exact Agree.refl | assumption | refine Agree.put rfl ?_ | refine Agree.put0 ?_ | refine Agree.sub rfl (by assumption) ?_), (by repeat' first | exact Ext.refl | assumption | refine Ext.app ?_), H38.length + 1, w3, .slice (some ⟨H38.length, 0, 0⟩) l3.length l3.length, l3, by (simp (disch := first | exact dschM18 | fail) only [go_sem, ↓reduceIte, Int.natCast_zero]; first | done | rfl), by omega, get_eq (by simp), (slice_row rfl rfl hs3).app, hs3, hl3, .inr ⟨hp, H38.length, rfl, get_app (get_eq rfl), Nat.le_refl _, by omega⟩⟩
                · rintro frD H39 ⟨hAD, xHc9, a27, w3, v3, l3, da27, ha27, g27, I3, hs3, n3, hcase⟩
                  have da19 := hAD 19 rfl
                  have da20 := hAD 20 rfl
                  have da21 := hAD 21 rfl
                  have da23 := hAD 23 rfl
                  have da25 := hAD 25 rfl
                  have da125 := hAD 125 rfl
                  try simp (disch := first | exact dschM18 | fail) only [go_sem, ↓reduceIte, kD119, kD120, kD121, kD123, kD125, kD1125] at da19 da20 da21 da23 da25 da125
                  
                  have hH39 := xHc9.len
                  have hsp := @Nat.succ_ne_zero; repeat' (first | simp (disch := first | exact dschM18 | fail) only [go_sem, ↓reduceIte, hsp] | refine WP_drw ?_ | refine cnd_intro (fun hsp => ?_) fun hsp => ?_)
                  refine WPS_restF fun E1 eE1 => ?_
                  rw [← WP_seq]
                  have kE119 := congrFun eE1 19
                  have kE120 := congrFun eE1 20
                  have kE121 := congrFun eE1 21
                  have kE123 := congrFun eE1 23
                  have kE125 := congrFun eE1 25
                  have kE127 := congrFun eE1 27
                  have kE1125 := congrFun eE1 125
                  try simp (disch := first | exact dschM18 | fail) only [go_sem, ↓reduceIte, da19, da20, da21, da23, da25, da27, da125] at kE119 kE120 kE121 kE123 kE125 kE127 kE1125
                  have aE1 : Agree [(19, 30), (125, 246)] E1 R5 := by rw [eE1]; (repeat first | exact Agree.refl | assumption | refine Agree.put rfl ?_ | refine Agree.put0 ?_ | refine Agree.sub rfl (by assumption) ?_)
                  clear eE1
                  refine WP_meet (fun fr h => Agree [(201, 212)] fr E1 ∧ Ext H38 h ∧ ∃ (w3 : Int) (v3 : AVal) (l3 : List Int), h[a27]? = some ⟨.cells [.int .i64 w3, v3] 24 false false, 0⟩ ∧ Ints h v3 l3 ∧ l3.length ≤ 49) ?_ ?_
                  · rw [WP_seq, WP_region]
                    have m5n := m5 n
                    by_cases hpar : n % 5 = 0
                    · have c2 : (((n % 5 : Nat) : Int) = 0) = True := eq_true (by omega)
                      have mBn := mB ((n : Nat) : Int) (by omega)
                      have hx2 := Nat.mod_lt ((n : Int)).toNat (show B > 0 by omega)
                      generalize ((n : Int)).toNat % B = xx at *
                      rcases hcase with ⟨rfl, rfl⟩ | ⟨hp, r, rfl, gr, hr1, hr2⟩
                      · have hap : ∀ {base : Nat}, appendA prog base H39 22 (.slice none 0 0) (.vals [.int .i64 (xx : Int)]) = some (.slice (some ⟨H39.length, 0, 0⟩) 1 1, H39 ++ [rowB [(xx : Int)] 0]) := fun {base} => app_nil
                        have hsx : Small [(xx : Int)] := ⟨by simp, fun y hy => by simp at hy; omega⟩
                        have h27 := lt_of_get g27
                        have hsp := @Nat.succ_ne_zero; repeat' (first | simp (disch := first | exact dschM18 | fail) only [go_sem, ↓reduceIte, hsp, kE119, kE120, kE121, kE123, kE125, kE127, kE1125, g27, c2, m5n, mBn, hshl, hap] | refine WP_drw ?_ | refine cnd_intro (fun hsp => ?_) fun hsp => ?_)
                        exact ⟨by (repeat first | exact Agree.refl | assumption | refine Agree.put rfl ?_ | refine Agree.put0 ?_ | refine Agree.sub rfl (by assumption) ?_), Ext.app (Ext.set xHc9 ha27), w3, .slice (some ⟨H39.length, 0, 0⟩) 1 1, [(xx : Int)], by first | rfl | exact get_app (by rw [List.getElem?_set_self h27]), ints_row (get_eq (by simp)) rfl hsx, by simp⟩
                      · have hap := app_row1 (base := h.length) (x := (xx : Int)) gr rfl hp (by omega) (by omega)
                        have hsx : Small (l3 ++ [(xx : Int)]) := small_app hs3 ⟨by simp, fun y hy => by simp at hy; omega⟩ (by simp; omega)
                        have hsp := @Nat.succ_ne_zero; repeat' (first | simp (disch := first | exact dschM18 | fail) only [go_sem, ↓reduceIte, hsp, kE119, kE120, kE121, kE123, kE125, kE127, kE1125, g27, c2, m5n, mBn, hshl, hap] | refine WP_drw ?_ | refine cnd_intro (fun hsp => ?_) fun hsp => ?_)
                        exact ⟨by (repeat first | exact Agree.refl | assumption | refine Agree.put rfl ?_ | refine Agree.put0 ?_ | refine Agree.sub rfl (by assumption) ?_), Ext.set (Ext.set xHc9 hr1) ha27, w3, .slice (some ⟨r, 1, 0⟩) (l3.length + 1) (l3.length + 1), l3 ++ [(xx : Int)], by first | rfl | (rw [List.getElem?_set_self (by rw [List.length_set]; exact lt_of_get g27)]), ints_row (get_set_ne' (fun e => hr2 e.symm) (by rw [List.getElem?_set_self (lt_of_get gr)])) (by simp) hsx, by simp; omega⟩
                    · have c2 : (((n % 5 : Nat) : Int) = 0) = False := eq_false (by omega)
                      have hsp := @Nat.succ_ne_zero; repeat' (first | simp (disch := first | exact dschM18 | fail) only [go_sem, ↓reduceIte, hsp, kE119, kE120, kE121, kE123, kE125, kE127, kE1125, c2, m5n] | refine WP_drw ?_ | refine cnd_intro (fun hsp => ?_) fun hsp => ?_)
                      exact ⟨by (repeat first | exact Agree.refl | assumption | refine Agree.put rfl ?_ | refine Agree.put0 ?_ | refine Agree.sub rfl (by assumption) ?_), xHc9, w3, v3, l3, by first | rfl | exact g27, I3, by omega⟩
                  · clear hcase I3 g27
                    rintro frE H41 ⟨hAE, xHc1, w3, v3, l3, g27, I3, n3⟩
                    have ea19 := hAE 19 rfl
                    have ea20 := hAE 20 rfl
                    have ea21 := hAE 21 rfl
                    have ea23 := hAE 23 rfl
                    have ea25 := hAE 25 rfl
                    have ea27 := hAE 27 rfl
                    have ea125 := hAE 125 rfl
                    try simp (disch := first | exact dschM18 | fail) only [go_sem, ↓reduceIte, kE119, kE120, kE121, kE123, kE125, kE127, kE1125] at ea19 ea20 ea21 ea23 ea25 ea27 ea125
                    have gc41 := xHc1.get gc38
                    have g23d := xHc1.get g23c
                    have I1d := I1c.ext xHc1
                    have g25d := xHc1.get g25
                    have I2d := I2.ext xHc1
                    have hH41 := xHc1.len
                    have hsp := @Nat.succ_ne_zero; repeat' (first | simp (disch := first | exact dschM18 | fail) only [go_sem, ↓reduceIte, hsp] | refine WP_drw ?_ | refine cnd_intro (fun hsp => ?_) fun hsp => ?_)
                    refine WPS_restF fun S1 eS1 => ?_
                    rw [WP_region]
                    have kS119 := congrFun eS1 19
                    have kS120 := congrFun eS1 20
                    have kS121 := congrFun eS1 21
                    have kS123 := congrFun eS1 23
                    have kS125 := congrFun eS1 25
                    have kS127 := congrFun eS1 27
                    have kS1125 := congrFun eS1 125
                    try simp (disch := first | exact dschM18 | fail) only [go_sem, ↓reduceIte, ea19, ea20, ea21, ea23, ea25, ea27, ea125] at kS119 kS120 kS121 kS123 kS125 kS127 kS1125
                    have aS1 : Agree [(19, 30), (125, 246)] S1 R5 := by rw [eS1]; (repeat first | exact Agree.refl | assumption | refine Agree.put rfl ?_ | refine Agree.put0 ?_ | refine Agree.sub rfl (by assumption) ?_)
                    clear eS1
                    refine OPS_meet (fun fr h => Agree [(29, 30), (213, 218)] fr S1 ∧ Ext H41 h ∧ ∃ (a b c d : Nat) (y : Bool), fr 29 = .ptr (some ⟨d, 0, 0⟩) ∧ H41.length ≤ d ∧ h[d]? = some ⟨.cells [.int .i64 (a : Int), .int .i64 (b : Int), .int .i64 (c : Int), .bool y] 82 false false, 0⟩ ∧ c ≤ 48) ?_ ?_
                    · obtain ⟨ra, rb, rc, ry, e4, e42, hrc⟩ := share_any (w := w1) (w' := w3) (p := l1) (q := l3)
                      have hsp := @Nat.succ_ne_zero; repeat' (first | simp (disch := first | exact dschM18 | fail) only [go_sem, ↓reduceIte, hsp, kS119, kS120, kS121, kS123, kS125, kS127, kS1125, pap, chn, runW, runV, g23d, g27, e42, tup2] | refine WP_drw ?_ | refine cnd_intro (fun hsp => ?_) fun hsp => ?_)
                      exact ⟨by (repeat first | exact Agree.refl | assumption | refine Agree.put rfl ?_ | refine Agree.put0 ?_ | refine Agree.sub rfl (by assumption) ?_), (by repeat' first | exact Ext.refl | assumption | refine Ext.app ?_), ra, rb, rc, H41.length, ry, by (simp (disch := first | exact dschM18 | fail) only [go_sem, ↓reduceIte, Int.natCast_zero]; first | done | rfl), Nat.le_refl _, get_eq rfl, by omega⟩
                    · rintro frF H42 ⟨hAF, xHc2, ra, rb, rc, a29, ry, fa29, ha29, g29, hrc⟩
                      have fa19 := hAF 19 rfl
                      have fa20 := hAF 20 rfl
                      have fa21 := hAF 21 rfl
                      have fa23 := hAF 23 rfl
                      have fa25 := hAF 25 rfl
                      have fa27 := hAF 27 rfl
                      have fa125 := hAF 125 rfl
                      try simp (disch := first | exact dschM18 | fail) only [go_sem, ↓reduceIte, kS119, kS120, kS121, kS123, kS125, kS127, kS1125] at fa19 fa20 fa21 fa23 fa25 fa27 fa125
                      
                      have hH42 := xHc2.len
                      have h29 := lt_of_get g29
                      have hsp := @Nat.succ_ne_zero; repeat' (first | simp (disch := first | exact dschM18 | fail) only [go_sem, ↓reduceIte, hsp] | refine WP_drw ?_ | refine cnd_intro (fun hsp => ?_) fun hsp => ?_)
                      refine WPS_restF fun T1 eT1 => ?_
                      rw [← WP_seq]
                      have kT119 := congrFun eT1 19
                      have kT120 := congrFun eT1 20
                      have kT121 := congrFun eT1 21
                      have kT123 := congrFun eT1 23
                      have kT125 := congrFun eT1 25
                      have kT127 := congrFun eT1 27
                      have kT129 := congrFun eT1 29
                      have kT1125 := congrFun eT1 125
                      try simp (disch := first | exact dschM18 | fail) only [go_sem, ↓reduceIte, fa19, fa20, fa21, fa23, fa25, fa27, fa29, fa125] at kT119 kT120 kT121 kT123 kT125 kT127 kT129 kT1125
                      have aT1 : Agree [(19, 30), (125, 246)] T1 R5 := by rw [eT1]; (repeat first | exact Agree.refl | assumption | refine Agree.put rfl ?_ | refine Agree.put0 ?_ | refine Agree.sub rfl (by assumption) ?_)
                      clear eT1
                      refine WP_meet (fun fr h => Agree [(219, 225)] fr T1 ∧ Ext H41 h ∧ ∃ (c : Int), h[a29]? = some ⟨.cells [.int .i64 (ra : Int), .int .i64 (rb : Int), .int .i64 c, .bool ry] 82 false false, 0⟩) ?_ ?_
                      · rw [WP_seq, WP_region]
                        by_cases k0 : k = 0
                        · have k0' : ((k : Int) = 0) = True := eq_true (by omega)
                          have hsp := @Nat.succ_ne_zero; repeat' (first | simp (disch := first | exact dschM18 | fail) only [go_sem, ↓reduceIte, hsp, kT119, kT120, kT121, kT123, kT125, kT127, kT129, kT1125, m3n, k0', g29] | refine WP_drw ?_ | refine cnd_intro (fun hsp => ?_) fun hsp => ?_)
                          exact ⟨by (repeat first | exact Agree.refl | assumption | refine Agree.put rfl ?_ | refine Agree.put0 ?_ | refine Agree.sub rfl (by assumption) ?_), Ext.set xHc2 ha29, (rc : Int) + 1, by first | rfl | (rw [List.getElem?_set_self h29])⟩
                        · have k0' : ((k : Int) = 0) = False := eq_false (by omega)
                          have hsp := @Nat.succ_ne_zero; repeat' (first | simp (disch := first | exact dschM18 | fail) only [go_sem, ↓reduceIte, hsp, kT119, kT120, kT121, kT123, kT125, kT127, kT129, kT1125, m3n, k0', g29] | refine WP_drw ?_ | refine cnd_intro (fun hsp => ?_) fun hsp => ?_)
                          exact ⟨by (repeat first | exact Agree.refl | assumption | refine Agree.put rfl ?_ | refine Agree.put0 ?_ | refine Agree.sub rfl (by assumption) ?_), xHc2, (rc : Int), by first | rfl | exact g29⟩
                      · clear g29
                        rintro frG H44 ⟨hAG, xHc3, rc', g29⟩
                        have ga19 := hAG 19 rfl
                        have ga20 := hAG 20 rfl
                        have ga21 := hAG 21 rfl
                        have ga23 := hAG 23 rfl
                        have ga25 := hAG 25 rfl
                        have ga27 := hAG 27 rfl
                        have ga29 := hAG 29 rfl
                        have ga125 := hAG 125 rfl
                        try simp (disch := first | exact dschM18 | fail) only [go_sem, ↓reduceIte, kT119, kT120, kT121, kT123, kT125, kT127, kT129, kT1125] at ga19 ga20 ga21 ga23 ga25 ga27 ga29 ga125
                        have gc44 := xHc3.get gc41
                        have g23e := xHc3.get g23d
                        have I1e := I1d.ext xHc3
                        have g25e := xHc3.get g25d
                        have I2e := I2d.ext xHc3
                        have g27e := xHc3.get g27
                        have I3e := I3.ext xHc3
                        have ICe := ((((IC.ext xHc7).ext xHc8).ext xHc1).ext xHc3)
                        have m6n := m6 n
                        have m4n := m4 n
                        have r9 : ∀ {base : Nat} {H : Heap} {v v' : AVal} {a b : List Int} {w k s w' k' s' : Int}, Ints H v a → Ints H v' b → a.length ≤ 1048576 → b.length ≤ 1048576 → callL prog raw base (.fn 9 [] []) [.agg [.int .i64 w, v, .int .i64 k, .int .i64 s], .agg [.int .i64 w', v', .int .i64 k', .int .i64 s']] H = some (.bool true, H) := fun a b c d => run9 hA a b c d
                        have hsp := @Nat.succ_ne_zero; repeat' (first | simp (disch := first | exact dschM18 | fail) only [go_sem, ↓reduceIte, hsp, ga19, ga20, ga21, ga23, ga25, ga27, ga29, ga125, gc44, g23e, g25e, g27e, g29, m6n, m4n, r81, r9] | refine WP_drw ?_ | refine cnd_intro (fun hsp => ?_) fun hsp => ?_)
                        first | exact ⟨by (repeat first | exact Agree.refl | assumption | refine Agree.put rfl ?_ | refine Agree.put0 ?_ | refine Agree.sub rfl (by assumption) ?_), by first | rfl | omega | (simp (disch := first | exact dschM18 | fail) only [go_sem, ↓reduceIte, Int.natCast_zero]; first | done | rfl), Ext.trans xH0 (Ext.trans xHc (Ext.trans xHc7 (Ext.trans xHc8 (Ext.trans xHc1 xHc3))))⟩ | exact ⟨by (repeat first | exact Agree.refl | assumption | refine Agree.put rfl ?_ | refine Agree.put0 ?_ | refine Agree.sub rfl (by assumption) ?_), Ext.trans xH0 (Ext.trans xHc (Ext.trans xHc7 (Ext.trans xHc8 (Ext.trans xHc1 xHc3))))⟩
    · rintro fr5 H0 hA5 ⟨r125, xH0⟩
      have hlt5 : (((60 : Nat) : Int) < 60) = False := eq_false (by omega)
      have hsp := @Nat.succ_ne_zero; repeat' (first | simp (disch := first | exact dschM18 | fail) only [go_sem, ↓reduceIte, hsp, r125, hlt5] | refine WP_drw ?_ | refine cnd_intro (fun hsp => ?_) fun hsp => ?_)
      refine WP_count [(31, 34), (247, 326)] 0 51 (Nat.zero_le _) (fun H i fr h => fr 247 = .int .i64 (i : Int) ∧ Ext H h) ?_ ?_ ?_
      · exact ⟨by (simp (disch := first | exact dschM18 | fail) only [go_sem, ↓reduceIte, Int.natCast_zero]; first | done | rfl), .refl⟩
      · rintro n fr5 H1 hn0 hn hA5 ⟨r247, xH1⟩
        have xG1 : Ext G H1 := Ext.trans xH (Ext.trans xH0 xH1)
        have hG1 := xG1.len
        have hlt5 : ((n : Int) < 51) = True := eq_true (by omega)
        have m4 : ∀ m : Nat, binA prog .rem 3 (.int .i64 (m : Int)) (.int .i64 4) = some (.int .i64 ((m % 4 : Nat) : Int)) := fun m => remN (n := 4) (by omega) (by omega)
        have m3 : ∀ m : Nat, binA prog .rem 3 (.int .i64 (m : Int)) (.int .i64 3) = some (.int .i64 ((m % 3 : Nat) : Int)) := fun m => remN (n := 3) (by omega) (by omega)
        have m6 : ∀ m : Nat, binA prog .rem 3 (.int .i64 (m : Int)) (.int .i64 6) = some (.int .i64 ((m % 6 : Nat) : Int)) := fun m => remN (n := 6) (by omega) (by omega)
        obtain ⟨fa, efa⟩ : ∃ f : Nat → List Int, f = fun i => lst (fun t => ((t % 3 : Nat) : Int)) i := ⟨_, rfl⟩
        obtain ⟨fb, efb⟩ : ∃ f : Nat → List Int, f = fun i => lst (fun t => ((t % 4 : Nat) : Int)) i := ⟨_, rfl⟩
        have fa0 : fa 0 = [] := by rw [efa]; rfl
        have fb0 : fb 0 = [] := by rw [efb]; rfl
        have fas : ∀ i, fa (i + 1) = fa i ++ [((i % 3 : Nat) : Int)] := fun i => by rw [efa]; exact lst_succ
        have fbs : ∀ i, fb (i + 1) = fb i ++ [((i % 4 : Nat) : Int)] := fun i => by rw [efb]; exact lst_succ
        have fal : ∀ i, (fa i).length = i := fun i => by rw [efa]; exact lst_len
        have fbl : ∀ i, (fb i).length = i := fun i => by rw [efb]; exact lst_len
        have hsp := @Nat.succ_ne_zero; repeat' (first | simp (disch := first | exact dschM18 | fail) only [go_sem, ↓reduceIte, hsp, r247, hlt5] | refine WP_drw ?_ | refine cnd_intro (fun hsp => ?_) fun hsp => ?_)
        refine WP_count [(34, 34), (253, 270)] 0 n (Nat.zero_le _) (fun H i fr h => fr 253 = .int .i64 (i : Int) ∧ h = H1 ++ [⟨.cells [.int .i64 2, grV (H1.length + 1 + 1) (fa i)] 24 false false, 0⟩] ++ [⟨.cells [.int .i64 2, grV (H1.length + 1 + 1 + 1) (fb i), .int .i64 0, .int .i64 0] 34 false false, 0⟩] ++ grH (fa i) ++ grH (fb i)) ?_ ?_ ?_
        · exact ⟨by (simp (disch := first | exact dschM18 | fail) only [go_sem, ↓reduceIte, Int.natCast_zero]; first | done | rfl), by rw [fa0, fb0, grV_nil, grV_nil, grH_nil, List.append_nil, List.append_nil]⟩
        · rintro i fr6 H6 hi0 hi hA6 ⟨r253, rfl⟩
          have p32 := hA6 32 rfl; simp (disch := first | exact dschM18 | fail) only [go_sem, ↓reduceIte] at p32
          have p33 := hA6 33 rfl; simp (disch := first | exact dschM18 | fail) only [go_sem, ↓reduceIte] at p33
          have p252 := hA6 252 rfl; simp (disch := first | exact dschM18 | fail) only [go_sem, ↓reduceIte] at p252
          have hlt6 : ((i : Int) < (n : Int)) = True := eq_true (by omega)
          have m3i := m3 i
          have m4i := m4 i
          have hfa := fas i
          have hfb := fbs i
          by_cases hz : i = 0
          · subst hz
            have hap1 : ∀ {base : Nat} {H : Heap} {x : Int}, appendA prog base H 22 (.slice none 0 0) (.vals [.int .i64 x]) = some (.slice (some ⟨H.length, 0, 0⟩) 1 1, H ++ [rowB [x] 0]) := fun {base H x} => app_nil
            have hlt7 : ((0 : Int) < (n : Int)) = True := eq_true (by omega)
            rw [hfa, hfb, fa0, fb0]
            simp only [grV_nil, grH_nil, List.append_nil]
            have hsp := @Nat.succ_ne_zero; repeat' (first | simp (disch := first | exact dschM18 | fail) only [go_sem, ↓reduceIte, hsp, r253, p252, hlt7, Int.natCast_zero] | refine WP_drw ?_ | refine cnd_intro (fun hsp => ?_) fun hsp => ?_)
            refine WPS_go ?_
            refine WP_loose [⟨7, 22, 262, ⟨H1.length + 1, 0, 1⟩, .slice none 0 0, 11⟩] (by kernel_rfl) (by kernel_rfl) ⟨refsLow_nil, trivial⟩ fun K hK => ?_
            iterate 16
              rw [TRS_cons]
              refine ⟨by first | (simp (disch := first | exact dschM18 | fail) only [go_sem, ↓reduceIte, r253, p32, p33, m3i, m4i, hap1, ldsQ_cons, ldsQ_nil, if_true, Nat.reduceLeDiff]; done) | exact trivial, ?_⟩
              simp (disch := first | exact dschM18 | fail) only [go_sem, ↓reduceIte, r253, p32, p33, m3i, m4i, hap1]
            rw [TRS_nil]
            refine ⟨by first | (simp (disch := first | exact dschM18 | fail) only [go_sem, ↓reduceIte, r253, p32, p33, m3i, m4i, hap1, ldsQ_cons, ldsQ_nil, if_true, Nat.reduceLeDiff]; done) | exact trivial, ?_⟩
            subst hK
            have hsp := @Nat.succ_ne_zero; repeat' (first | simp (disch := first | exact dschM18 | fail) only [go_sem, ↓reduceIte, hsp, r253] | refine WP_drw ?_ | refine cnd_intro (fun hsp => ?_) fun hsp => ?_)
            first | exact ⟨by (repeat first | exact Agree.refl | assumption | refine Agree.put rfl ?_ | refine Agree.put0 ?_ | refine Agree.sub rfl (by assumption) ?_), rfl⟩ | exact ⟨by (repeat first | exact Agree.refl | assumption | refine Agree.put rfl ?_ | refine Agree.put0 ?_ | refine Agree.sub rfl (by assumption) ?_), rfl, rfl⟩ | exact ⟨by (repeat first | exact Agree.refl | assumption | refine Agree.put rfl ?_ | refine Agree.put0 ?_ | refine Agree.sub rfl (by assumption) ?_), by first | rfl | omega | (simp (disch := first | exact dschM18 | fail) only [go_sem, ↓reduceIte, Int.natCast_zero]; first | done | rfl), rfl⟩
          · have hai : fa i ≠ [] := by rw [← List.length_pos_iff, fal]; omega
            have hbi : fb i ≠ [] := by rw [← List.length_pos_iff, fbl]; omega
            have ga : grH (fa i) = [rowB (fa i) (i - 1)] := by rw [grH_row hai, fal]
            have gb : grH (fb i) = [rowB (fb i) (i - 1)] := by rw [grH_row hbi, fbl]
            have ga2 : grH (fa i ++ [((i % 3 : Nat) : Int)]) = [rowB (fa i ++ [((i % 3 : Nat) : Int)]) i] := by rw [grH_row (by simp), List.length_append, fal]; rfl
            have gb2 : grH (fb i ++ [((i % 4 : Nat) : Int)]) = [rowB (fb i ++ [((i % 4 : Nat) : Int)]) i] := by rw [grH_row (by simp), List.length_append, fbl]; rfl
            have hap1 : ∀ {H : Heap} {id : Nat} {x : Int}, H[id]? = some (rowB (fa i) (i - 1)) → h.length ≤ id → appendA prog h.length H 22 (grV id (fa i)) (.vals [.int .i64 x]) = some (grV id (fa i ++ [x]), H.set id (rowB (fa i ++ [x]) i)) := fun {H id x} hg hb => by
              have := app_at (base := h.length) (x := x) hai (by rw [fal]; exact hg) hb (by rw [fal]; omega)
              rwa [fal] at this
            have hap2 : ∀ {H : Heap} {id : Nat} {x : Int}, H[id]? = some (rowB (fb i) (i - 1)) → h.length ≤ id → appendA prog h.length H 22 (grV id (fb i)) (.vals [.int .i64 x]) = some (grV id (fb i ++ [x]), H.set id (rowB (fb i ++ [x]) i)) := fun {H id x} hg hb => by
              have := app_at (base := h.length) (x := x) hbi (by rw [fbl]; exact hg) hb (by rw [fbl]; omega)
              rwa [fbl] at this
            have hap1' := hap1 (H := H1 ++ [⟨.cells [.int .i64 2, grV (H1.length + 1 + 1) (fa i)] 24 false false, 0⟩] ++ [⟨.cells [.int .i64 2, grV (H1.length + 1 + 1 + 1) (fb i), .int .i64 0, .int .i64 0] 34 false false, 0⟩] ++ [rowB (fa i) (i - 1)] ++ [rowB (fb i) (i - 1)]) (id := H1.length + 1 + 1) (x := ((i % 3 : Nat) : Int)) (get_app (get_eq (by simp))) (by omega)
            have hap2' := hap2 (H := H1 ++ [⟨.cells [.int .i64 2, grV (H1.length + 1 + 1) (fa i)] 24 false false, 0⟩] ++ [⟨.cells [.int .i64 2, grV (H1.length + 1 + 1 + 1) (fb i), .int .i64 0, .int .i64 0] 34 false false, 0⟩] ++ [rowB (fa i ++ [((i % 3 : Nat) : Int)]) i] ++ [rowB (fb i) (i - 1)]) (id := H1.length + 1 + 1 + 1) (x := ((i % 4 : Nat) : Int)) (get_eq (by simp)) (by omega)
            rw [hfa, hfb, ga, gb, ga2, gb2]
            have hsp := @Nat.succ_ne_zero; repeat' (first | simp (disch := first | exact dschM18 | fail) only [go_sem, ↓reduceIte, hsp, r253, p252, hlt6] | refine WP_drw ?_ | refine cnd_intro (fun hsp => ?_) fun hsp => ?_)
            refine WPS_go ?_
            refine WP_loose [⟨7, 22, 262, ⟨H1.length + 1, 0, 1⟩, grV (H1.length + 1 + 1 + 1) (fb i), 11⟩] (by kernel_rfl) (by kernel_rfl) ⟨refsLow_grV (by simp only [List.length_append, List.length_cons, List.length_nil, gb]; omega), trivial⟩ fun K hK => ?_
            iterate 16
              rw [TRS_cons]
              refine ⟨by first | (simp (disch := first | exact dschM18 | fail) only [go_sem, ↓reduceIte, r253, p32, p33, m3i, m4i, hap1', hap2', ldsQ_cons, ldsQ_nil, if_true, Nat.reduceLeDiff]; done) | exact trivial, ?_⟩
              simp (disch := first | exact dschM18 | fail) only [go_sem, ↓reduceIte, r253, p32, p33, m3i, m4i, hap1', hap2']
            rw [TRS_nil]
            refine ⟨by first | (simp (disch := first | exact dschM18 | fail) only [go_sem, ↓reduceIte, r253, p32, p33, m3i, m4i, hap1', hap2', ldsQ_cons, ldsQ_nil, if_true, Nat.reduceLeDiff]; done) | exact trivial, ?_⟩
            subst hK
            have hsp := @Nat.succ_ne_zero; repeat' (first | simp (disch := first | exact dschM18 | fail) only [go_sem, ↓reduceIte, hsp, r253] | refine WP_drw ?_ | refine cnd_intro (fun hsp => ?_) fun hsp => ?_)
            first | exact ⟨by (repeat first | exact Agree.refl | assumption | refine Agree.put rfl ?_ | refine Agree.put0 ?_ | refine Agree.sub rfl (by assumption) ?_), by first | rfl | omega | (simp (disch := first | exact dschM18 | fail) only [go_sem, ↓reduceIte, Int.natCast_zero]; first | done | rfl)⟩ | exact ⟨by (repeat first | exact Agree.refl | assumption | refine Agree.put rfl ?_ | refine Agree.put0 ?_ | refine Agree.sub rfl (by assumption) ?_), by first | rfl | omega | (simp (disch := first | exact dschM18 | fail) only [go_sem, ↓reduceIte, Int.natCast_zero]; first | done | rfl), rfl⟩
        · rintro fr6 H6 hA6 ⟨r253, rfl⟩
          have p31 := hA6 31 rfl; simp (disch := first | exact dschM18 | fail) only [go_sem, ↓reduceIte] at p31
          have p32 := hA6 32 rfl; simp (disch := first | exact dschM18 | fail) only [go_sem, ↓reduceIte] at p32
          have p33 := hA6 33 rfl; simp (disch := first | exact dschM18 | fail) only [go_sem, ↓reduceIte] at p33
          have p247 := hA6 247 rfl; simp (disch := first | exact dschM18 | fail) only [go_sem, ↓reduceIte, r247] at p247
          have p252 := hA6 252 rfl; simp (disch := first | exact dschM18 | fail) only [go_sem, ↓reduceIte] at p252
          have hlt6 : ((n : Int) < (n : Int)) = False := eq_false (by omega)
          have hsa : Small (fa n) := by rw [efa]; exact modL_sm (by omega) (by omega) (by omega)
          have hsb : Small (fb n) := by rw [efb]; exact modL_sm (by omega) (by omega) (by omega)
          have hIa : Ints (H1 ++ [⟨.cells [.int .i64 2, grV (H1.length + 1 + 1) (fa n)] 24 false false, 0⟩] ++ [⟨.cells [.int .i64 2, grV (H1.length + 1 + 1 + 1) (fb n), .int .i64 0, .int .i64 0] 34 false false, 0⟩] ++ grH (fa n) ++ grH (fb n)) (grV (H1.length + 1 + 1) (fa n)) (fa n) := dschM18
          have hIb : Ints (H1 ++ [⟨.cells [.int .i64 2, grV (H1.length + 1 + 1) (fa n)] 24 false false, 0⟩] ++ [⟨.cells [.int .i64 2, grV (H1.length + 1 + 1 + 1) (fb n), .int .i64 0, .int .i64 0] 34 false false, 0⟩] ++ grH (fa n) ++ grH (fb n)) (grV (H1.length + 1 + 1 + 1) (fb n)) (fb n) := by
            by_cases hz : n = 0
            · subst hz; rw [fb0]; exact ints_nil
            · have := grH_len (l := fa n) (by rw [← List.length_pos_iff, fal]; omega)
              refine grV_ints ?_ hsb
              simp only [List.length_append, List.length_cons, List.length_nil, this]
          have ena : (fa n).length ≤ 1048576 := by rw [fal]; omega
          have enb : (fb n).length ≤ 1048576 := by rw [fbl]; omega
          have ka : (chk 2 (fa n) = 0) = (0 < n ∧ n < 49) := propext ⟨fun hc => by have := (chk_ok hc).2.1; rw [fal] at this; omega, fun hh => chk_iff (by omega) (by rw [fal]; omega) (by rw [efa]; exact modL_in (by omega) (by omega))⟩
          have kb : (chkC 2 (fb n) 0 0 = 0) = (0 < n ∧ n < 49) := propext ⟨fun hc => by have := (chkC_ok hc).2.1; rw [fbl] at this; omega, fun hh => chkC_of (by omega) (by rw [fbl]; omega) (by omega) (by rw [efb]; exact modL_in (by omega) (by omega)) rfl⟩
          have r17 : ∀ {base : Nat} {H : Heap} {v v' : AVal} {l m : List Int} {w w' k s t n : Int}, Ints H v l → Ints H v' m → l.length ≤ 1048576 → m.length ≤ 1048576 → callL prog raw base (.fn 17 [] []) [.agg [.int .i64 w, v], .agg [.int .i64 w', v', .int .i64 k, .int .i64 s], .int .i64 t, .int .i64 n] H = some (.bool true, H) := fun a b c d => run17 hA a b c d
          have r3 : ∀ {base : Nat} {H : Heap} {v : AVal} {l : List Int} {w k s : Int}, Ints H v l → l.length ≤ 1048576 → callL prog raw base (.fn 3 [] []) [.agg [.int .i64 w, v], .int .i64 k, .int .i64 s] H = some (.bool true, H) := fun a b => run3 hA a b
          have r8 : ∀ {base : Nat} {H : Heap} {v : AVal} {l : List Int} {w k n s a b : Int}, Ints H v l → l.length ≤ 1048576 → callL prog raw base (.fn 8 [] []) [.agg [.int .i64 w, v], .int .i64 k, .int .i64 n, .int .i64 s, .int .i64 a, .int .i64 b] H = some (.bool true, H) := fun a b => run8 hA a b
          have r10 : ∀ {base : Nat} {H : Heap} {v v' : AVal} {p q : List Int} {w w' a b long : Int} {k : Bool}, Ints H v p → Ints H v' q → p.length ≤ 1048576 → q.length ≤ 1048576 → callL prog raw base (.fn 10 [] []) [.agg [.int .i64 w, v], .agg [.int .i64 w', v'], .agg [.int .i64 a, .int .i64 b, .int .i64 long, .bool k]] H = some (.bool true, H) := fun a b c d => run10 hA a b c d
          have z3 : Small [1, 2] := ⟨by simp, fun x hx => by simp at hx; omega⟩
          have m6n := m6 n
          generalize grV (H1.length + 1 + 1) (fa n) = VA at *
          generalize grV (H1.length + 1 + 1 + 1) (fb n) = VB at *
          generalize fa n = A at *
          generalize fb n = C at *
          by_cases h6 : n % 6 = 0
          · have h6' : (((n % 6 : Nat) : Int) = 0) = True := eq_true (by omega)
            by_cases hn0 : 0 < n
            · have t0 : ((n : Int) > 0) = True := eq_true (by omega)
              by_cases hn9 : n < 49
              · have t9 : ((n : Int) < 49) = True := eq_true (by omega)
                have ka' := eq_true (ka.mpr ⟨hn0, hn9⟩)
                have kb' := eq_true (kb.mpr ⟨hn0, hn9⟩)
                have hsp := @Nat.succ_ne_zero; repeat' (first | simp (disch := first | exact dschM18 | fail) only [go_sem, ↓reduceIte, hsp, chn, pap, runV, r253, p31, p32, p33, p247, p252, hlt6, m6n, h6', t0, t9, ka', kb', bs2, run79, run67, run75, r17, r3, r8, r10, neB4, eq_self, ne_self, decide_true, decide_false, if_true, Bool.false_eq_true] | refine WP_drw ?_ | refine cnd_intro (fun hsp => ?_) fun hsp => ?_)
                first | exact ⟨by (repeat first | exact Agree.refl | assumption | refine Agree.put rfl ?_ | refine Agree.put0 ?_ | refine Agree.sub rfl (by assumption) ?_), by first | rfl | omega | (simp (disch := first | exact dschM18 | fail) only [go_sem, ↓reduceIte, Int.natCast_zero]; first | done | rfl), by repeat' first | exact xH1 | refine Ext.app ?_⟩ | exact ⟨by (repeat first | exact Agree.refl | assumption | refine Agree.put rfl ?_ | refine Agree.put0 ?_ | refine Agree.sub rfl (by assumption) ?_), by repeat' first | exact xH1 | refine Ext.app ?_⟩
              · exfalso; omega
            · have t0 : ((n : Int) > 0) = False := eq_false (by omega)
              have t9 : ((n : Int) < 49) = True := eq_true (by omega)
              have ka' : (chk 2 A = 0) = False := eq_false (fun hh => hn0 (ka.mp hh).1)
              have kb' : (chkC 2 C 0 0 = 0) = False := eq_false (fun hh => hn0 (kb.mp hh).1)
              have hsp := @Nat.succ_ne_zero; repeat' (first | simp (disch := first | exact dschM18 | fail) only [go_sem, ↓reduceIte, hsp, chn, pap, runV, r253, p31, p32, p33, p247, p252, hlt6, m6n, h6', t0, t9, ka', kb', bs2, run79, run67, run75, r17, r3, r8, r10, neB4, eq_self, ne_self, decide_true, decide_false, if_true, Bool.false_eq_true] | refine WP_drw ?_ | refine cnd_intro (fun hsp => ?_) fun hsp => ?_)
              first | exact ⟨by (repeat first | exact Agree.refl | assumption | refine Agree.put rfl ?_ | refine Agree.put0 ?_ | refine Agree.sub rfl (by assumption) ?_), by first | rfl | omega | (simp (disch := first | exact dschM18 | fail) only [go_sem, ↓reduceIte, Int.natCast_zero]; first | done | rfl), by repeat' first | exact xH1 | refine Ext.app ?_⟩ | exact ⟨by (repeat first | exact Agree.refl | assumption | refine Agree.put rfl ?_ | refine Agree.put0 ?_ | refine Agree.sub rfl (by assumption) ?_), by repeat' first | exact xH1 | refine Ext.app ?_⟩
          · have h6' : (((n % 6 : Nat) : Int) = 0) = False := eq_false (by omega)
            have hn0 : 0 < n := by omega
            have t0 : ((n : Int) > 0) = True := eq_true (by omega)
            by_cases hn9 : n < 49
            · have t9 : ((n : Int) < 49) = True := eq_true (by omega)
              have ka' := eq_true (ka.mpr ⟨hn0, hn9⟩)
              have kb' := eq_true (kb.mpr ⟨hn0, hn9⟩)
              have hsp := @Nat.succ_ne_zero; repeat' (first | simp (disch := first | exact dschM18 | fail) only [go_sem, ↓reduceIte, hsp, chn, pap, runV, r253, p31, p32, p33, p247, p252, hlt6, m6n, h6', t0, t9, ka', kb', bs2, run79, run67, run75, r17, r3, r8, r10, neB4, eq_self, ne_self, decide_true, decide_false, if_true, Bool.false_eq_true] | refine WP_drw ?_ | refine cnd_intro (fun hsp => ?_) fun hsp => ?_)
              first | exact ⟨by (repeat first | exact Agree.refl | assumption | refine Agree.put rfl ?_ | refine Agree.put0 ?_ | refine Agree.sub rfl (by assumption) ?_), by first | rfl | omega | (simp (disch := first | exact dschM18 | fail) only [go_sem, ↓reduceIte, Int.natCast_zero]; first | done | rfl), by repeat' first | exact xH1 | refine Ext.app ?_⟩ | exact ⟨by (repeat first | exact Agree.refl | assumption | refine Agree.put rfl ?_ | refine Agree.put0 ?_ | refine Agree.sub rfl (by assumption) ?_), by repeat' first | exact xH1 | refine Ext.app ?_⟩
            · have t9 : ((n : Int) < 49) = False := eq_false (by omega)
              have ka' : (chk 2 A = 0) = False := eq_false (fun hh => hn9 (ka.mp hh).2)
              have kb' : (chkC 2 C 0 0 = 0) = False := eq_false (fun hh => hn9 (kb.mp hh).2)
              have hsp := @Nat.succ_ne_zero; repeat' (first | simp (disch := first | exact dschM18 | fail) only [go_sem, ↓reduceIte, hsp, chn, pap, runV, r253, p31, p32, p33, p247, p252, hlt6, m6n, h6', t0, t9, ka', kb', bs2, run79, run67, run75, r17, r3, r8, r10, neB4, eq_self, ne_self, decide_true, decide_false, if_true, Bool.false_eq_true] | refine WP_drw ?_ | refine cnd_intro (fun hsp => ?_) fun hsp => ?_)
              first | exact ⟨by (repeat first | exact Agree.refl | assumption | refine Agree.put rfl ?_ | refine Agree.put0 ?_ | refine Agree.sub rfl (by assumption) ?_), by first | rfl | omega | (simp (disch := first | exact dschM18 | fail) only [go_sem, ↓reduceIte, Int.natCast_zero]; first | done | rfl), by repeat' first | exact xH1 | refine Ext.app ?_⟩ | exact ⟨by (repeat first | exact Agree.refl | assumption | refine Agree.put rfl ?_ | refine Agree.put0 ?_ | refine Agree.sub rfl (by assumption) ?_), by repeat' first | exact xH1 | refine Ext.app ?_⟩
      · rintro fr5 H1 hA5 ⟨r247, xH1⟩
        have hlt5 : (((51 : Nat) : Int) < 51) = False := eq_false (by omega)
        have r17 : ∀ {base : Nat} {H : Heap} {v v' : AVal} {l m : List Int} {w w' k s t n : Int}, Ints H v l → Ints H v' m → l.length ≤ 1048576 → m.length ≤ 1048576 → callL prog raw base (.fn 17 [] []) [.agg [.int .i64 w, v], .agg [.int .i64 w', v', .int .i64 k, .int .i64 s], .int .i64 t, .int .i64 n] H = some (.bool true, H) := fun a b c d => run17 hA a b c d
        have r11 : ∀ {base : Nat} {H : Heap} {v : AVal} {l : List Int} {w t k : Int}, Ints H v l → l.length ≤ 1048576 → callL prog raw base (.fn 11 [] []) [.agg [.int .i64 w, v], .int .i64 t, .int .i64 k] H = some (.bool true, H) := fun a b => run11 hA a b
        have hn : Ints H1 (.slice none 0 0) [] := ints_nil
        have hn1 : ([] : List Int).length ≤ 1048576 := by simp
        have hsp := @Nat.succ_ne_zero; repeat' (first | simp (disch := first | exact dschM18 | fail) only [go_sem, ↓reduceIte, hsp, r247, hlt5, r17, r11, hA] | refine WP_drw ?_ | refine cnd_intro (fun hsp => ?_) fun hsp => ?_)
        exact fin_pl rfl rfl (Ext.trans xG (Ext.trans xH (Ext.trans xH0 xH1)))

end Go.AM
