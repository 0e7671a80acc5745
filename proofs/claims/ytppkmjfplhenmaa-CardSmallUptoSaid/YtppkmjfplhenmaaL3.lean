/-
  The law CardChains.
-/
import Derived.Test.YtppkmjfplhenmaaL0
set_option linter.unusedSimpArgs false
set_option linter.unusedVariables false
namespace Go.AM
open Go.Proofs.Try
theorem dschL3 {p : Prop} (h : p := by first | exact Nat.ne_of_beq_eq_false rfl | assumption | (apply asOne; (first | exact One.int | exact One.bool | exact newV_one | exact grV_one | exact cloneV_one | exact takF_one | assumption | exact Ints.one (by assumption) | exact slcV_one (by assumption) | exact One.lit ⟨rfl, rfl, rfl⟩)) | (apply asInts; first | ((repeat first | assumption | exact ints_nil | (apply newV_ints' <;> first | assumption | (first | rfl | (simp only [List.length_append, List.length_cons, List.length_nil, List.length_set]; done) | (simp only [List.length_append, List.length_cons, List.length_nil, List.length_set]; omega))) | (apply grV_ints <;> first | assumption | (first | rfl | (simp only [List.length_append, List.length_cons, List.length_nil, List.length_set]; done) | (simp only [List.length_append, List.length_cons, List.length_nil, List.length_set]; omega))) | (apply Ints.slc <;> first | (repeat first | assumption | apply Ints.app); done | omega) | apply Ints.app); done) | (apply hfi; first | ((repeat first | (apply newV_ints' <;> first | assumption | (first | rfl | (simp only [List.length_append, List.length_cons, List.length_nil, List.length_set]; done) | (simp only [List.length_append, List.length_cons, List.length_nil, List.length_set]; omega))) | apply Ints.app); done) | ((repeat first | assumption | apply Ints.app); done)) | ((repeat first | (apply slice_row <;> first | assumption | (first | rfl | (simp only [List.length_append, List.length_cons, List.length_nil, List.length_set]; done) | (simp only [List.length_append, List.length_cons, List.length_nil, List.length_set]; omega))) | apply Ints.app); done)) | (apply asTak; (repeat first | assumption | (refine TakAt.new ?_; (first | rfl | (simp only [List.length_append, List.length_cons, List.length_nil, List.length_set]; done) | (simp only [List.length_append, List.length_cons, List.length_nil, List.length_set]; omega))) | apply TakAt.app); done) | (apply asScal; (first | apply allS1 | apply allS2 | apply allS3 | apply allS4) <;> (first | exact One.int | exact One.bool | exact newV_one | exact grV_one | exact cloneV_one | exact takF_one | assumption | exact Ints.one (by assumption) | exact slcV_one (by assumption) | exact One.lit ⟨rfl, rfl, rfl⟩)) | exact litT rfl | exact litF rfl | omega | (simp only [List.length_append, List.length_cons, List.length_nil, lst_len, List.length_set, ints_length, List.length_reverse]; first | done | omega) | fail) : p := h


set_option maxRecDepth 100000 in
set_option maxHeartbeats 4000000 in
theorem run3 (hA : Awake) {base : Nat} {h : Heap} {v : AVal} {l : List Int} {w k s : Int} (hI : Ints h v l) (hl : l.length ≤ 1048576) :
    callL prog raw base (.fn 3 [] []) [pap w v, .int .i64 k, .int .i64 s] h = some (.bool true, h) := by
  unfold Awake at hA
  have hs := small_ints hI hl
  refine callL_run func3 rfl rfl ?_
  by_cases hw : l.length > 60 ∨ ((l.length : Int) > 24 ∧ l.length ≤ 48)
  · have hsp := @Nat.succ_ne_zero; repeat' (first | simp (disch := first | exact dschL3 | fail) only [go_sem, hsp, pap, hw, hA] | refine WP_drw ?_ | refine cnd_intro (fun hsp => ?_) fun hsp => ?_)
    exact fin_pl rfl rfl (.app .refl)
  · by_cases hc : chk w l = 0
    · obtain ⟨hw8, hp, hx⟩ := chk_ok hc
      have hb := (fewest_bd hc).2
      obtain ⟨L, hL⟩ : ∃ L, l.take (fewestS w.toNat l).2.1.toNat = L := ⟨_, rfl⟩
      have hLl : L.length = (fewestS w.toNat l).2.1.toNat := by rw [← hL, List.length_take]; omega
      have hne : L ≠ [] := by rintro rfl; simp at hLl; omega
      have hsL : Small L := by rw [← hL]; exact small_take hs
      have e1 : fewS w l = (w, L, (fewestS w.toNat l).1, (fewestS w.toNat l).2.2, 0) := by unfold fewS; rw [if_neg (by simp [hc]), hL]
      have n1 : ∀ {n : Nat}, nlV n L = .slice (some ⟨n, 0, 0⟩) L.length L.length := fun {n} => nlV_ne hne
      have n2 : newH L = [rowB L 0] := newH_ne hne
      have hfi : ∀ {H : Heap} {u : AVal}, Ints H u l → Ints H (fewV u w.toNat l) L := fun {H u} hI' => by rw [← hL]; exact fewV_ints hI' hc
      have h26 : ∀ {base : Nat} {H : Heap} {u : AVal}, Ints H u l → callL prog raw base (.fn 26 [] []) [pap w u] H = some (chn w (fewV u w.toNat l) (fewestS w.toNat l).1 (fewestS w.toNat l).2.2, H) := fun {base H u} hI' => run26 hI' hc
      have hLp : 0 < L.length := by omega
      have h1 : One (fewV (newV (h.length + 1 + (newH l).length) l) w.toNat l) := by
        unfold fewV
        split
        · cases l with
          | nil => exact One.lit ⟨rfl, rfl, rfl⟩
          | cons x xs => exact One.lit ⟨rfl, rfl, rfl⟩
        · exact newV_one
      by_cases hk : 0 ≤ k ∧ k ≤ 2
      · have hk1 : (k < 0) = False := eq_false (by omega)
        have hk2 : (k > 2) = False := eq_false (by omega)
        cases hst : stepOk k s w with
        | true =>
          have e2 : onlyS w l k s = (((onlyN w.toNat l k.toNat s.toNat : Nat) : Int), 0) := by unfold onlyS; rw [if_neg (by simp [hc]), if_neg (by simp [hk]), if_neg (by simp [hst])]
          have hsp := @Nat.succ_ne_zero; repeat' (first | simp (disch := first | exact dschL3 | fail) only [go_sem, hsp, pap, chn, hw, hA, hc, e1, e2, n1, n2, tup2, run21, run22, run30, run29, h26, hk1, hk2, hst, clr_eq, stQ_all] | refine WP_drw ?_ | refine cnd_intro (fun hsp => ?_) fun hsp => ?_)
          exact fin_pl rfl rfl (by repeat' first | exact Ext.refl | refine Ext.app ?_)
        | false =>
          have e2 : onlyS w l k s = (0, 3) := by unfold onlyS; rw [if_neg (by simp [hc]), if_neg (by simp [hk]), if_pos (by simp [hst])]
          have hsp := @Nat.succ_ne_zero; repeat' (first | simp (disch := first | exact dschL3 | fail) only [go_sem, hsp, pap, chn, hw, hA, hc, e1, e2, n1, n2, tup2, run21, run22, run30, run29, h26, hk1, hk2, hst, clr_eq, stQ_all] | refine WP_drw ?_ | refine cnd_intro (fun hsp => ?_) fun hsp => ?_)
          exact fin_pl rfl rfl (by repeat' first | exact Ext.refl | refine Ext.app ?_)
      · have e2 : onlyS w l k s = (0, 1) := by unfold onlyS; rw [if_neg (by simp [hc]), if_pos hk]
        by_cases hk1 : k < 0
        · have hsp := @Nat.succ_ne_zero; repeat' (first | simp (disch := first | exact dschL3 | fail) only [go_sem, hsp, pap, chn, hw, hA, hc, e1, e2, n1, n2, tup2, run21, run22, run30, run29, h26, hk1, clr_eq, stQ_all] | refine WP_drw ?_ | refine cnd_intro (fun hsp => ?_) fun hsp => ?_)
          exact fin_pl rfl rfl (by repeat' first | exact Ext.refl | refine Ext.app ?_)
        · have hk2 : k > 2 := by omega
          have hsp := @Nat.succ_ne_zero; repeat' (first | simp (disch := first | exact dschL3 | fail) only [go_sem, hsp, pap, chn, hw, hA, hc, e1, e2, n1, n2, tup2, run21, run22, run30, run29, h26, hk1, hk2, clr_eq, stQ_all] | refine WP_drw ?_ | refine cnd_intro (fun hsp => ?_) fun hsp => ?_)
          exact fin_pl rfl rfl (by repeat' first | exact Ext.refl | refine Ext.app ?_)
    · have e1 : fewS w l = (0, [], 0, 0, chk w l) := by unfold fewS; rw [if_pos hc]
      have e2 : onlyS w l k s = (0, chk w l) := by unfold onlyS; rw [if_pos hc]
      have n1 : ∀ {n : Nat}, nlV n [] = .slice none 0 0 := fun {n} => by simp [nlV]
      have n2 : newH [] = [] := rfl
      have hsp := @Nat.succ_ne_zero; repeat' (first | simp (disch := first | exact dschL3 | fail) only [go_sem, hsp, pap, hw, hA, hc, e1, e2, n1, n2, tup2, run21, run22, clr_nil, run30, run29] | refine WP_drw ?_ | refine cnd_intro (fun hsp => ?_) fun hsp => ?_)
      exact fin_pl rfl rfl (by repeat' first | exact Ext.refl | refine Ext.app ?_)
end Go.AM
