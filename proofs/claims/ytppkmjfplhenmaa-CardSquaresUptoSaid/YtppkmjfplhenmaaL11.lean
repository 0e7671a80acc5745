/-
  The law CardSquares.
-/
import Derived.Test.YtppkmjfplhenmaaL0
import Derived.Test.YtppkmjfplhenmaaR5
set_option linter.unusedSimpArgs false
set_option linter.unusedVariables false
namespace Go.AM
open Go.Proofs.Try
theorem dschL11 {p : Prop} (h : p := by first | exact Nat.ne_of_beq_eq_false rfl | assumption | (apply asOne; (first | exact One.int | exact One.bool | exact newV_one | exact grV_one | exact cloneV_one | exact takF_one | assumption | exact Ints.one (by assumption) | exact slcV_one (by assumption) | exact One.lit ⟨rfl, rfl, rfl⟩)) | (apply asInts; first | ((repeat first | assumption | exact ints_nil | (apply newV_ints' <;> first | assumption | (first | rfl | (simp only [List.length_append, List.length_cons, List.length_nil, List.length_set]; done) | (simp only [List.length_append, List.length_cons, List.length_nil, List.length_set]; omega))) | (apply grV_ints <;> first | assumption | (first | rfl | (simp only [List.length_append, List.length_cons, List.length_nil, List.length_set]; done) | (simp only [List.length_append, List.length_cons, List.length_nil, List.length_set]; omega))) | (apply Ints.slc <;> first | (repeat first | assumption | apply Ints.app); done | omega) | apply Ints.app); done) | ((repeat first | (apply slice_row <;> first | assumption | (first | rfl | (simp only [List.length_append, List.length_cons, List.length_nil, List.length_set]; done) | (simp only [List.length_append, List.length_cons, List.length_nil, List.length_set]; omega))) | apply Ints.app); done)) | (apply asTak; (repeat first | assumption | (refine TakAt.new ?_; (first | rfl | (simp only [List.length_append, List.length_cons, List.length_nil, List.length_set]; done) | (simp only [List.length_append, List.length_cons, List.length_nil, List.length_set]; omega))) | apply TakAt.app); done) | (apply asScal; (first | apply allS1 | apply allS2 | apply allS3 | apply allS4) <;> (first | exact One.int | exact One.bool | exact newV_one | exact grV_one | exact cloneV_one | exact takF_one | assumption | exact Ints.one (by assumption) | exact slcV_one (by assumption) | exact One.lit ⟨rfl, rfl, rfl⟩)) | exact litT rfl | exact litF rfl | omega | (simp only [List.length_append, List.length_cons, List.length_nil, lst_len, List.length_set, ints_length, List.length_reverse]; first | done | omega) | fail) : p := h


theorem bestS_ok {w : Int} {l : List Int} (hc : chk w l = 0) {t k : Nat} {n : Int} {f : Bool} (h : ball w.toNat l l.length = (t, k, n, f)) : bestS w l = if f = true then ((t : Int), (k : Int), n, 0) else (0, 0, 0, 6) := by
  unfold bestS
  rw [if_neg (by simp [hc]), h]

set_option maxRecDepth 100000 in
set_option maxHeartbeats 4000000 in
theorem run11 (hA : Awake) {base : Nat} {h : Heap} {v : AVal} {l : List Int} {w t k : Int} (hI : Ints h v l) (hl : l.length ≤ 1048576) :
    callL prog raw base (.fn 11 [] []) [pap w v, .int .i64 t, .int .i64 k] h = some (.bool true, h) := by
  unfold Awake at hA
  have hs := small_ints hI hl
  refine callL_run func11 rfl rfl ?_
  by_cases hw : l.length > 60 ∨ ((l.length : Int) > 12 ∧ l.length ≤ 48)
  · have hsp := @Nat.succ_ne_zero; repeat' (first | simp (disch := first | exact Nat.ne_of_beq_eq_false rfl | assumption | exact dschL11 | fail) only [go_sem, hsp, pap, hw, hA] | rw [WP_draw (by kernel_rfl)] | refine cnd_intro (fun hsp => ?_) (fun hsp => ?_))
    all_goals exact fin_pl rfl rfl (by repeat' first | exact Ext.refl | refine Ext.app ?_)
  · by_cases hc : chk w l = 0
    · obtain ⟨hw8, hp, hx⟩ := chk_ok hc
      have hb := fewest_bd hc
      have h26 : ∀ {base : Nat} {H : Heap} {u : AVal} {l' : List Int}, Ints H u l' → chk w l' = 0 → callL prog raw base (.fn 26 [] []) [pap w u] H = some (chn w (fewV u w.toNat l') (fewestS w.toNat l').1 (fewestS w.toNat l').2.2, H) := fun hI' hc' => run26 hI' hc'
      have flen : ∀ {l' : List Int}, chk w l' = 0 → ((l'.take (fewestS w.toNat l').2.1.toNat).length : Int) = (fewestS w.toNat l').2.1 := fun {l'} hc' => by
        have := (fewest_bd hc').2
        rw [List.length_take]; omega
      have ln : ∀ {H : Heap} {u : AVal} {l' : List Int}, Ints H u l' → chk w l' = 0 → lenOpA prog H 22 (fewV u w.toNat l') = some (.int .i64 (fewestS w.toNat l').2.1) := fun {H u l'} hI' hc' => by
        rw [(fewV_ints hI' hc').len Fc.el22, flen hc']
      obtain ⟨B, hB⟩ : ∃ B, ball w.toNat l l.length = B := ⟨_, rfl⟩
      obtain ⟨bt, bk, bn, bf⟩ := B
      have eb := bestS_ok hc hB
      have h63 : ∀ {base : Nat} {H : Heap} {u : AVal}, Ints H u l → callL prog raw base (.fn 63 [] []) [pap w u] H = some (.tuple [.int .i64 (bt : Nat), .int .i64 (bk : Nat), .int .i64 bn, .bool bf], H) := fun hI' => by
        rw [run63 hI' hc, hB]
      have n0 : ∀ {n : Nat}, nlV n [] = .slice none 0 0 := fun {n} => by simp [nlV]
      have n0' : newH [] = [] := rfl
      by_cases hq : sqr w l t k = 0
      · obtain ⟨h1, h2, h3⟩ := sqr_ok hq
        have hq1 : (¬ (0 ≤ t ∧ t < l.length) ∨ ¬ (0 ≤ k ∧ k < w)) = False := eq_false (by omega)
        have hc2 := chg_ok hq
        have hs2 := small_chg hq
        have e1 : changeS w l t k = (w, chgL l t.toNat k.toNat, 0) := by unfold changeS; rw [if_neg (by simp [hq])]
        have e2 : costS w l t k = ((fewestS w.toNat (chgL l t.toNat k.toNat)).2.1 - (fewestS w.toNat l).2.1, 0) := by unfold costS; rw [if_neg (by simp [hq])]
        have h62 : ∀ {base : Nat} {H : Heap} {u : AVal}, Ints H u l → callL prog raw base (.fn 62 [] []) [pap w u, .int .i64 t, .int .i64 k] H = some (pap w (newV H.length (chgL l t.toNat k.toNat)), H ++ newH (chgL l t.toNat k.toNat)) := fun hI' => run62 hI' hq
        have hb2 := (fewest_bd hc2).2
        have hcl : (chgL l t.toNat k.toNat).length = l.length := chgL_len
        generalize hC : chgL l t.toNat k.toNat = C at *
        have hne : C ≠ [] := by rintro rfl; simp at hcl; omega
        have hCp : 0 < C.length := by omega
        have n1 : ∀ {n : Nat}, nlV n C = .slice (some ⟨n, 0, 0⟩) C.length C.length := fun {n} => nlV_ne hne
        have n2 : newH C = [rowB C 0] := newH_ne hne
        have n3 : ∀ {n : Nat}, newV n C = .slice (some ⟨n, 0, 0⟩) C.length C.length := fun {n} => newV_ne hne
        cases bf with
        | true =>
          have hsp := @Nat.succ_ne_zero; repeat' (first | simp (disch := first | exact Nat.ne_of_beq_eq_false rfl | assumption | exact dschL11 | fail) only [go_sem, hsp, pap, chn, hw, hA, hc, hc2, hq, hq1, h62, h63, h26, ln, e1, e2, eb, n1, n2, n3, tup2, tup4, run21, run22, run30, eq_self, decide_true, if_true, Bool.false_eq_true, clr_eq, stQ_all] | rw [WP_draw (by kernel_rfl)] | refine cnd_intro (fun hsp => ?_) (fun hsp => ?_))
          all_goals exact fin_pl rfl rfl (by repeat' first | exact Ext.refl | refine Ext.app ?_)
        | false =>
          have hsp := @Nat.succ_ne_zero; repeat' (first | simp (disch := first | exact Nat.ne_of_beq_eq_false rfl | assumption | exact dschL11 | fail) only [go_sem, hsp, pap, chn, hw, hA, hc, hc2, hq, hq1, h62, h63, h26, ln, e1, e2, eb, n1, n2, n3, tup2, tup4, run21, run22, run30, eq_self, decide_true, if_true, Bool.false_eq_true, clr_eq, stQ_all] | rw [WP_draw (by kernel_rfl)] | refine cnd_intro (fun hsp => ?_) (fun hsp => ?_))
          all_goals exact fin_pl rfl rfl (by repeat' first | exact Ext.refl | refine Ext.app ?_)
      · have hq1 : (¬ (0 ≤ t ∧ t < l.length) ∨ ¬ (0 ≤ k ∧ k < w)) = True := eq_true (by
          unfold sqr at hq
          rw [if_neg (by simp [hc])] at hq
          split at hq
          · assumption
          · exact absurd rfl hq)
        have eq1 : sqr w l t k = 1 := by
          unfold sqr
          rw [if_neg (by simp [hc]), if_pos (of_eq_true hq1)]
        have e1 : changeS w l t k = (0, [], 1) := by unfold changeS; rw [if_pos hq, eq1]
        have e2 : costS w l t k = (0, 1) := by unfold costS; rw [if_pos hq, eq1]
        cases bf with
        | true =>
          have hsp := @Nat.succ_ne_zero; repeat' (first | simp (disch := first | exact Nat.ne_of_beq_eq_false rfl | assumption | exact dschL11 | fail) only [go_sem, hsp, pap, chn, hw, hA, hc, hq, hq1, h63, h26, ln, e1, e2, eb, n0, n0', tup2, tup4, run21, run22, run30, eq_self, decide_true, if_true, Bool.false_eq_true, clr_nil] | rw [WP_draw (by kernel_rfl)] | refine cnd_intro (fun hsp => ?_) (fun hsp => ?_))
          all_goals exact fin_pl rfl rfl (by repeat' first | exact Ext.refl | refine Ext.app ?_)
        | false =>
          have hsp := @Nat.succ_ne_zero; repeat' (first | simp (disch := first | exact Nat.ne_of_beq_eq_false rfl | assumption | exact dschL11 | fail) only [go_sem, hsp, pap, chn, hw, hA, hc, hq, hq1, h63, h26, ln, e1, e2, eb, n0, n0', tup2, tup4, run21, run22, run30, eq_self, decide_true, if_true, Bool.false_eq_true, clr_nil] | rw [WP_draw (by kernel_rfl)] | refine cnd_intro (fun hsp => ?_) (fun hsp => ?_))
          all_goals exact fin_pl rfl rfl (by repeat' first | exact Ext.refl | refine Ext.app ?_)
    · have es : sqr w l t k = chk w l := by unfold sqr; rw [if_pos hc]
      have hq : ¬ sqr w l t k = 0 := by rw [es]; exact hc
      have e1 : changeS w l t k = (0, [], chk w l) := by unfold changeS; rw [if_pos hq, es]
      have e2 : costS w l t k = (0, chk w l) := by unfold costS; rw [if_pos hq, es]
      have e3 : bestS w l = (0, 0, 0, chk w l) := by unfold bestS; rw [if_pos hc]
      have n0 : ∀ {n : Nat}, nlV n [] = .slice none 0 0 := fun {n} => by simp [nlV]
      have n0' : newH [] = [] := rfl
      have hsp := @Nat.succ_ne_zero; repeat' (first | simp (disch := first | exact Nat.ne_of_beq_eq_false rfl | assumption | exact dschL11 | fail) only [go_sem, hsp, pap, hw, hA, hc, e1, e2, e3, n0, n0', tup2, tup4, run21, run22, run30, clr_nil, eq_self, decide_true, if_true, Bool.false_eq_true] | rw [WP_draw (by kernel_rfl)] | refine cnd_intro (fun hsp => ?_) (fun hsp => ?_))
      all_goals exact fin_pl rfl rfl (by repeat' first | exact Ext.refl | refine Ext.app ?_)
end Go.AM
