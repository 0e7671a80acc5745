/-
  The law CardRibbons.
-/
import Derived.Test.YtppkmjfplhenmaaL0
import Derived.Test.YtppkmjfplhenmaaP1
import Derived.Test.YtppkmjfplhenmaaR9
import Derived.Test.YtppkmjfplhenmaaR5
set_option linter.unusedSimpArgs false
set_option linter.unusedVariables false
namespace Go.AM
open Go.Proofs.Try
theorem dschL9 {p : Prop} (h : p := by first | exact Nat.ne_of_beq_eq_false rfl | assumption | (apply asOne; (first | exact One.int | exact One.bool | exact newV_one | exact grV_one | exact cloneV_one | exact takF_one | assumption | exact Ints.one (by assumption) | exact slcV_one (by assumption) | exact One.lit ⟨rfl, rfl, rfl⟩)) | (apply asInts; first | ((repeat first | assumption | exact ints_nil | (apply newV_ints' <;> first | assumption | (first | rfl | (simp only [List.length_append, List.length_cons, List.length_nil, List.length_set]; done) | (simp only [List.length_append, List.length_cons, List.length_nil, List.length_set]; omega))) | (apply grV_ints <;> first | assumption | (first | rfl | (simp only [List.length_append, List.length_cons, List.length_nil, List.length_set]; done) | (simp only [List.length_append, List.length_cons, List.length_nil, List.length_set]; omega))) | (apply Ints.slc <;> first | (repeat first | assumption | apply Ints.app); done | omega) | apply Ints.app); done) | fail) | (apply asTak; (repeat first | assumption | (refine TakAt.new ?_; (first | rfl | (simp only [List.length_append, List.length_cons, List.length_nil, List.length_set]; done) | (simp only [List.length_append, List.length_cons, List.length_nil, List.length_set]; omega))) | apply TakAt.app); done) | (apply asScal; (first | apply allS1 | apply allS2 | apply allS3 | apply allS4) <;> (first | exact One.int | exact One.bool | exact newV_one | exact grV_one | exact cloneV_one | exact takF_one | assumption | exact Ints.one (by assumption) | exact slcV_one (by assumption) | exact One.lit ⟨rfl, rfl, rfl⟩)) | exact litT rfl | exact litF rfl | omega | (simp only [List.length_append, List.length_cons, List.length_nil, lst_len, List.length_set, ints_length, List.length_reverse]; first | done | omega) | fail) : p := h


theorem optI_lt {o : Option Nat} : (optI o < 0) = (o = none) := by
  cases o with
  | none => exact propext ⟨fun _ => rfl, fun _ => by decide⟩
  | some t => exact propext ⟨fun h => by unfold optI at h; simp at h; omega, fun h => by cases h⟩

set_option maxRecDepth 100000 in
set_option maxHeartbeats 4000000 in
theorem run9 (hA : Awake) {base : Nat} {h : Heap} {v v' : AVal} {a b : List Int} {w k s w' k' s' : Int} (hI : Ints h v a) (hI' : Ints h v' b) (hl : a.length ≤ 1048576) (hl' : b.length ≤ 1048576) :
    callL prog raw base (.fn 9 [] []) [chn w v k s, chn w' v' k' s'] h = some (.bool true, h) := by
  unfold Awake at hA
  have hs := small_ints hI hl
  have hs' := small_ints hI' hl'
  refine callL_run func9 rfl rfl ?_
  by_cases hw1 : a.length > 60 ∨ ((a.length : Int) > 10 ∧ a.length ≤ 48)
  · have hsp := @Nat.succ_ne_zero; repeat' (first | simp (disch := first | exact dschL9 | fail) only [go_sem, hsp, chn, hw1, hA] | refine WP_drw ?_ | refine cnd_intro (fun hsp => ?_) fun hsp => ?_)
    all_goals exact fin_pl rfl rfl (by repeat' first | exact Ext.refl | refine Ext.app ?_)
  · by_cases hw2 : b.length > 60 ∨ ((b.length : Int) > 10 ∧ b.length ≤ 48)
    · have hsp := @Nat.succ_ne_zero; repeat' (first | simp (disch := first | exact dschL9 | fail) only [go_sem, hsp, chn, hw1, hw2, hA] | refine WP_drw ?_ | refine cnd_intro (fun hsp => ?_) fun hsp => ?_)
      all_goals exact fin_pl rfl rfl (by repeat' first | exact Ext.refl | refine Ext.app ?_)
    · by_cases hc : chkC w a k s = 0
      · have ha := (chkC_ok hc).2.1
        have hw8 := (chkC_ok hc).1
        have e1 : perS w a k s = (((perN w.toNat a k.toNat s.toNat : Nat) : Int), 0) := by unfold perS; rw [if_neg (by simp [hc])]
        have e0 := perR_N (w := w.toNat) (k := k.toNat) (s := s.toNat) (l := a) (by omega) (by omega)
        have ef := floR_S (w := w.toNat) (k := k.toNat) (s := s.toNat) (l := a) (by omega) (by omega)
        rw [e0] at ef
        cases hL : allLift w.toNat a k.toNat s.toNat w.toNat with
        | true =>
          have e3 : floatS w a k s = (((mostN w.toNat a k.toNat s.toNat w.toNat : Nat) : Int), 0) := by unfold floatS; rw [if_neg (by simp [hc]), if_pos hL]
          rw [if_pos hL] at ef
          have t1 : (((mostN w.toNat a k.toNat s.toNat w.toNat : Nat) : Int) < 0) = False := eq_false (by omega)
          by_cases hc' : chkC w' b k' s' = 0
          · by_cases hww : w = w'
            · subst hww
              have hb := (chkC_ok hc').2.1
              have ed := difR_N (w := w.toNat) (k := k.toNat) (s := s.toNat) (k' := k'.toNat) (s' := s'.toNat) (a := a) (b := b) (by omega) (by omega) (by omega)
              cases hd : difN w.toNat a b k.toNat s.toNat k'.toNat s'.toNat with
              | none =>
                have e2 : difS w a k s w b k' s' = (0, 6) := by unfold difS; rw [if_neg (by simp [hc]), if_neg (by simp [hc']), if_neg (by simp), hd]
                rw [hd] at ed
                have hsp := @Nat.succ_ne_zero; repeat' (first | simp (disch := first | exact dschL9 | fail) only [go_sem, hsp, chn, hw1, hw2, hA, hc, hc', e1, e0, ef, ed, e2, e3, t1, tup2, optI_lt, run40, run50, run29, eq_self, decide_true, if_true, Bool.false_eq_true] | refine WP_drw ?_ | refine cnd_intro (fun hsp => ?_) fun hsp => ?_)
                all_goals exact fin_pl rfl rfl (by repeat' first | exact Ext.refl | refine Ext.app ?_)
              | some t =>
                have e2 : difS w a k s w b k' s' = ((t : Int), 0) := by unfold difS; rw [if_neg (by simp [hc]), if_neg (by simp [hc']), if_neg (by simp), hd]
                have t2 : ((t : Int) < 0) = False := eq_false (by omega)
                have eo : optI (some t) = (t : Int) := rfl
                rw [hd] at ed
                have hsp := @Nat.succ_ne_zero; repeat' (first | simp (disch := first | exact dschL9 | fail) only [go_sem, hsp, chn, hw1, hw2, hA, hc, hc', e1, e0, ef, ed, e2, e3, t1, t2, eo, tup2, run40, run50, run29, eq_self, decide_true, if_true, Bool.false_eq_true] | refine WP_drw ?_ | refine cnd_intro (fun hsp => ?_) fun hsp => ?_)
                all_goals exact fin_pl rfl rfl (by repeat' first | exact Ext.refl | refine Ext.app ?_)
            · have e2 : difS w a k s w' b k' s' = (0, 7) := by unfold difS; rw [if_neg (by simp [hc]), if_neg (by simp [hc']), if_pos hww]
              have hsp := @Nat.succ_ne_zero; repeat' (first | simp (disch := first | exact dschL9 | fail) only [go_sem, hsp, chn, hw1, hw2, hA, hc, hc', hww, e1, e0, ef, e2, e3, t1, tup2, run40, run50, run29, eq_self, decide_true, if_true, Bool.false_eq_true] | refine WP_drw ?_ | refine cnd_intro (fun hsp => ?_) fun hsp => ?_)
              all_goals exact fin_pl rfl rfl (by repeat' first | exact Ext.refl | refine Ext.app ?_)
          · have e2 : difS w a k s w' b k' s' = (0, chkC w' b k' s') := by unfold difS; rw [if_neg (by simp [hc]), if_pos hc']
            have hsp := @Nat.succ_ne_zero; repeat' (first | simp (disch := first | exact dschL9 | fail) only [go_sem, hsp, chn, hw1, hw2, hA, hc, hc', e1, e0, ef, e2, e3, t1, tup2, run40, run50, run29, eq_self, decide_true, if_true, Bool.false_eq_true] | refine WP_drw ?_ | refine cnd_intro (fun hsp => ?_) fun hsp => ?_)
            all_goals exact fin_pl rfl rfl (by repeat' first | exact Ext.refl | refine Ext.app ?_)
        | false =>
          have e3 : floatS w a k s = (0, 6) := by unfold floatS; rw [if_neg (by simp [hc]), if_neg (by simp [hL])]
          rw [if_neg (by simp [hL])] at ef
          by_cases hc' : chkC w' b k' s' = 0
          · by_cases hww : w = w'
            · subst hww
              have hb := (chkC_ok hc').2.1
              have ed := difR_N (w := w.toNat) (k := k.toNat) (s := s.toNat) (k' := k'.toNat) (s' := s'.toNat) (a := a) (b := b) (by omega) (by omega) (by omega)
              cases hd : difN w.toNat a b k.toNat s.toNat k'.toNat s'.toNat with
              | none =>
                have e2 : difS w a k s w b k' s' = (0, 6) := by unfold difS; rw [if_neg (by simp [hc]), if_neg (by simp [hc']), if_neg (by simp), hd]
                rw [hd] at ed
                have hsp := @Nat.succ_ne_zero; repeat' (first | simp (disch := first | exact dschL9 | fail) only [go_sem, hsp, chn, hw1, hw2, hA, hc, hc', e1, e0, ef, ed, e2, e3, tup2, optI_lt, run40, run50, run29, eq_self, decide_true, if_true, Bool.false_eq_true] | refine WP_drw ?_ | refine cnd_intro (fun hsp => ?_) fun hsp => ?_)
                all_goals exact fin_pl rfl rfl (by repeat' first | exact Ext.refl | refine Ext.app ?_)
              | some t =>
                have e2 : difS w a k s w b k' s' = ((t : Int), 0) := by unfold difS; rw [if_neg (by simp [hc]), if_neg (by simp [hc']), if_neg (by simp), hd]
                have t2 : ((t : Int) < 0) = False := eq_false (by omega)
                have eo : optI (some t) = (t : Int) := rfl
                rw [hd] at ed
                have hsp := @Nat.succ_ne_zero; repeat' (first | simp (disch := first | exact dschL9 | fail) only [go_sem, hsp, chn, hw1, hw2, hA, hc, hc', e1, e0, ef, ed, e2, e3, t2, eo, tup2, run40, run50, run29, eq_self, decide_true, if_true, Bool.false_eq_true] | refine WP_drw ?_ | refine cnd_intro (fun hsp => ?_) fun hsp => ?_)
                all_goals exact fin_pl rfl rfl (by repeat' first | exact Ext.refl | refine Ext.app ?_)
            · have e2 : difS w a k s w' b k' s' = (0, 7) := by unfold difS; rw [if_neg (by simp [hc]), if_neg (by simp [hc']), if_pos hww]
              have hsp := @Nat.succ_ne_zero; repeat' (first | simp (disch := first | exact dschL9 | fail) only [go_sem, hsp, chn, hw1, hw2, hA, hc, hc', hww, e1, e0, ef, e2, e3, tup2, run40, run50, run29, eq_self, decide_true, if_true, Bool.false_eq_true] | refine WP_drw ?_ | refine cnd_intro (fun hsp => ?_) fun hsp => ?_)
              all_goals exact fin_pl rfl rfl (by repeat' first | exact Ext.refl | refine Ext.app ?_)
          · have e2 : difS w a k s w' b k' s' = (0, chkC w' b k' s') := by unfold difS; rw [if_neg (by simp [hc]), if_pos hc']
            have hsp := @Nat.succ_ne_zero; repeat' (first | simp (disch := first | exact dschL9 | fail) only [go_sem, hsp, chn, hw1, hw2, hA, hc, hc', e1, e0, ef, e2, e3, tup2, run40, run50, run29, eq_self, decide_true, if_true, Bool.false_eq_true] | refine WP_drw ?_ | refine cnd_intro (fun hsp => ?_) fun hsp => ?_)
            all_goals exact fin_pl rfl rfl (by repeat' first | exact Ext.refl | refine Ext.app ?_)
      · have e1 : perS w a k s = (0, chkC w a k s) := by unfold perS; rw [if_pos hc]
        have e2 : difS w a k s w' b k' s' = (0, chkC w a k s) := by unfold difS; rw [if_pos hc]
        have e3 : floatS w a k s = (0, chkC w a k s) := by unfold floatS; rw [if_pos hc]
        have hsp := @Nat.succ_ne_zero; repeat' (first | simp (disch := first | exact dschL9 | fail) only [go_sem, hsp, chn, hw1, hw2, hA, hc, e1, e2, e3, tup2, run40, run50, run29, eq_self, decide_true, if_true, Bool.false_eq_true] | refine WP_drw ?_ | refine cnd_intro (fun hsp => ?_) fun hsp => ?_)
        all_goals exact fin_pl rfl rfl (by repeat' first | exact Ext.refl | refine Ext.app ?_)
end Go.AM
/-
  The law CardShared.
-/
namespace Go.AM
open Go.Proofs.Try
theorem dschL10 {p : Prop} (h : p := by first | exact Nat.ne_of_beq_eq_false rfl | assumption | (apply asOne; (first | exact One.int | exact One.bool | exact newV_one | exact grV_one | exact cloneV_one | exact takF_one | assumption | exact Ints.one (by assumption) | exact slcV_one (by assumption) | exact One.lit ⟨rfl, rfl, rfl⟩)) | (apply asInts; first | ((repeat first | assumption | exact ints_nil | (apply newV_ints' <;> first | assumption | (first | rfl | (simp only [List.length_append, List.length_cons, List.length_nil, List.length_set]; done) | (simp only [List.length_append, List.length_cons, List.length_nil, List.length_set]; omega))) | (apply grV_ints <;> first | assumption | (first | rfl | (simp only [List.length_append, List.length_cons, List.length_nil, List.length_set]; done) | (simp only [List.length_append, List.length_cons, List.length_nil, List.length_set]; omega))) | (apply Ints.slc <;> first | (repeat first | assumption | apply Ints.app); done | omega) | apply Ints.app); done) | fail) | (apply asTak; (repeat first | assumption | (refine TakAt.new ?_; (first | rfl | (simp only [List.length_append, List.length_cons, List.length_nil, List.length_set]; done) | (simp only [List.length_append, List.length_cons, List.length_nil, List.length_set]; omega))) | apply TakAt.app); done) | (apply asScal; (first | apply allS1 | apply allS2 | apply allS3 | apply allS4) <;> (first | exact One.int | exact One.bool | exact newV_one | exact grV_one | exact cloneV_one | exact takF_one | assumption | exact Ints.one (by assumption) | exact slcV_one (by assumption) | exact One.lit ⟨rfl, rfl, rfl⟩)) | exact litT rfl | exact litF rfl | omega | (simp only [List.length_append, List.length_cons, List.length_nil, lst_len, List.length_set, ints_length, List.length_reverse]; first | done | omega) | fail) : p := h


theorem shared_eq {w w' a b long : Int} {p q : List Int} {k : Bool} (hc : bothS w p w' q = 0) (hl : 1 ≤ long ∧ long ≤ 48) : sharedS w p w' q a b long k = (shdB p q a b k long.toNat, 0) := by
  obtain ⟨hc1, hc2, rfl⟩ := both_ok hc
  have hp := (chk_ok hc1).2.1
  have hq := (chk_ok hc2).2.1
  unfold sharedS
  rw [if_neg (by simp [hc]), if_neg (by simp [hl])]
  by_cases hab : (0 ≤ a ∧ a < p.length) ∧ (0 ≤ b ∧ b < q.length)
  · rw [if_neg (by omega)]
    unfold shdB
    rw [decide_eq_true hab.1, decide_eq_true hab.2, Bool.true_and, Bool.true_and]
  · have e : shdB p q a b k long.toNat = false := by
      unfold shdB
      by_cases h1 : 0 ≤ a ∧ a < p.length
      · rw [decide_eq_false (show ¬ (0 ≤ b ∧ b < q.length) from fun h2 => hab ⟨h1, h2⟩)]; simp
      · rw [decide_eq_false h1]; simp
    rw [e]
    split
    · rfl
    · rw [runB_out (by omega) (by omega)]

set_option maxRecDepth 100000 in
set_option maxHeartbeats 4000000 in
theorem run10 (hA : Awake) {base : Nat} {h : Heap} {v v' : AVal} {p q : List Int} {w w' a b long : Int} {k : Bool} (hI : Ints h v p) (hI' : Ints h v' q) (hl : p.length ≤ 1048576) (hl' : q.length ≤ 1048576) :
    callL prog raw base (.fn 10 [] []) [pap w v, pap w' v', runV a b long k] h = some (.bool true, h) := by
  unfold Awake at hA
  have hs := small_ints hI hl
  have hs' := small_ints hI' hl'
  refine callL_run func10 rfl rfl ?_
  by_cases hw1 : p.length > 60 ∨ ((p.length : Int) > 24 ∧ p.length ≤ 48)
  · have hsp := @Nat.succ_ne_zero; repeat' (first | simp (disch := first | exact dschL10 | fail) only [go_sem, hsp, pap, runV, hw1, hA] | refine WP_drw ?_ | refine cnd_intro (fun hsp => ?_) fun hsp => ?_)
    all_goals exact fin_pl rfl rfl (by repeat' first | exact Ext.refl | refine Ext.app ?_)
  · by_cases hw2 : q.length > 60 ∨ ((q.length : Int) > 24 ∧ q.length ≤ 48)
    · have hsp := @Nat.succ_ne_zero; repeat' (first | simp (disch := first | exact dschL10 | fail) only [go_sem, hsp, pap, runV, hw1, hw2, hA] | refine WP_drw ?_ | refine cnd_intro (fun hsp => ?_) fun hsp => ?_)
      all_goals exact fin_pl rfl rfl (by repeat' first | exact Ext.refl | refine Ext.app ?_)
    · by_cases hc : bothS w p w' q = 0
      · obtain ⟨hc1, hc2, hww⟩ := both_ok hc
        have hp := (chk_ok hc1).2.1
        have hq := (chk_ok hc2).2.1
        obtain ⟨S, hS⟩ : ∃ S, shAll p q p.length = S := ⟨_, rfl⟩
        obtain ⟨A, B, L, K⟩ := S
        have p1 : p.length ≤ 1000 := by omega
        have q1 : q.length ≤ 1000 := by omega
        have z0 : ((0 : Int) > 0) = False := eq_false (by omega)
        by_cases hL : L = 0
        · have e0 : shAll p q p.length = (0, 0, 0, false) := by
            rcases (sh_spec (p := p) (q := q)).2 with h1 | h1
            · exact h1
            · rw [hS] at h1; dsimp only at h1; omega
          have e1 : shareS w p w' q = ((0, 0, 0, false), 6) := by unfold shareS; rw [if_neg (by simp [hc]), hS, if_pos hL]
          by_cases hl : 1 ≤ long ∧ long ≤ 48
          · have e2 := shared_eq (a := a) (b := b) (k := k) hc hl
            have t1 : (long ≥ 1) = True := eq_true hl.1
            have t2 : (long ≤ 48) = True := eq_true hl.2
            have l1 : 0 ≤ long ∧ long ≤ 1000 := by omega
            have hsp := @Nat.succ_ne_zero; repeat' (first | simp (disch := first | exact dschL10 | fail) only [go_sem, hsp, pap, runV, runW, hw1, hw2, hA, hc, e0, e1, e2, z0, if_false, Int.natCast_zero, t1, t2, tupBI, run21, run22, run30, eqB4, eq_self, decide_true, if_true, Bool.false_eq_true] | refine WP_drw ?_ | refine cnd_intro (fun hsp => ?_) fun hsp => ?_)
            all_goals exact fin_pl rfl rfl (by repeat' first | exact Ext.refl | refine Ext.app ?_)
          · have e2 : sharedS w p w' q a b long k = (false, 2) := by unfold sharedS; rw [if_neg (by simp [hc]), if_pos hl]
            have hsp := @Nat.succ_ne_zero; repeat' (first | simp (disch := first | exact dschL10 | fail) only [go_sem, hsp, pap, runV, runW, hw1, hw2, hA, hc, e0, e1, e2, z0, if_false, Int.natCast_zero, tupBI, run21, run22, run30, eqB4, eq_self, decide_true, if_true, Bool.false_eq_true] | refine WP_drw ?_ | refine cnd_intro (fun hsp => ?_) fun hsp => ?_)
            all_goals (try (exfalso; omega))
            all_goals exact fin_pl rfl rfl (by repeat' first | exact Ext.refl | refine Ext.app ?_)
        · have e1 : shareS w p w' q = ((A, B, L, K), 0) := by unfold shareS; rw [if_neg (by simp [hc]), hS, if_neg hL]
          have t0 : ((L : Int) > 0) = True := eq_true (by omega)
          by_cases hl : 1 ≤ long ∧ long ≤ 48
          · have e2 := shared_eq (a := a) (b := b) (k := k) hc hl
            have t1 : (long ≥ 1) = True := eq_true hl.1
            have t2 : (long ≤ 48) = True := eq_true hl.2
            have l1 : 0 ≤ long ∧ long ≤ 1000 := by omega
            have hsp := @Nat.succ_ne_zero; repeat' (first | simp (disch := first | exact dschL10 | fail) only [go_sem, hsp, pap, runV, runW, hw1, hw2, hA, hc, hS, e1, e2, t0, t1, t2, tupBI, run21, run22, run30, eqB4, eq_self, decide_true, if_true, Bool.false_eq_true] | refine WP_drw ?_ | refine cnd_intro (fun hsp => ?_) fun hsp => ?_)
            all_goals exact fin_pl rfl rfl (by repeat' first | exact Ext.refl | refine Ext.app ?_)
          · have e2 : sharedS w p w' q a b long k = (false, 2) := by unfold sharedS; rw [if_neg (by simp [hc]), if_pos hl]
            have hsp := @Nat.succ_ne_zero; repeat' (first | simp (disch := first | exact dschL10 | fail) only [go_sem, hsp, pap, runV, runW, hw1, hw2, hA, hc, hS, e1, e2, t0, tupBI, run21, run22, run30, eqB4, eq_self, decide_true, if_true, Bool.false_eq_true] | refine WP_drw ?_ | refine cnd_intro (fun hsp => ?_) fun hsp => ?_)
            all_goals (try (exfalso; omega))
            all_goals exact fin_pl rfl rfl (by repeat' first | exact Ext.refl | refine Ext.app ?_)
      · have e1 : shareS w p w' q = ((0, 0, 0, false), bothS w p w' q) := by unfold shareS; rw [if_pos hc]
        have e2 : sharedS w p w' q a b long k = (false, bothS w p w' q) := by unfold sharedS; rw [if_pos hc]
        have hsp := @Nat.succ_ne_zero; repeat' (first | simp (disch := first | exact dschL10 | fail) only [go_sem, hsp, pap, runV, runW, hw1, hw2, hA, hc, e1, e2, tupBI, run21, run22, run30, eqB4, eq_self, decide_true, if_true, Bool.false_eq_true] | refine WP_drw ?_ | refine cnd_intro (fun hsp => ?_) fun hsp => ?_)
        all_goals exact fin_pl rfl rfl (by repeat' first | exact Ext.refl | refine Ext.app ?_)
end Go.AM
/-
  The law CardSquares.
-/
namespace Go.AM
open Go.Proofs.Try
theorem dschL11 {p : Prop} (h : p := by first | exact Nat.ne_of_beq_eq_false rfl | assumption | (apply asOne; (first | exact One.int | exact One.bool | exact newV_one | exact grV_one | exact cloneV_one | exact takF_one | assumption | exact Ints.one (by assumption) | exact slcV_one (by assumption) | exact One.lit ⟨rfl, rfl, rfl⟩)) | (apply asInts; first | ((repeat first | assumption | exact ints_nil | (apply newV_ints' <;> first | assumption | (first | rfl | (simp only [List.length_append, List.length_cons, List.length_nil, List.length_set]; done) | (simp only [List.length_append, List.length_cons, List.length_nil, List.length_set]; omega))) | (apply grV_ints <;> first | assumption | (first | rfl | (simp only [List.length_append, List.length_cons, List.length_nil, List.length_set]; done) | (simp only [List.length_append, List.length_cons, List.length_nil, List.length_set]; omega))) | (apply Ints.slc <;> first | (repeat first | assumption | apply Ints.app); done | omega) | apply Ints.app); done) | ((repeat first | (apply slice_row <;> first | assumption | (first | rfl | (simp only [List.length_append, List.length_cons, List.length_nil, List.length_set]; done) | (simp only [List.length_append, List.length_cons, List.length_nil, List.length_set]; omega))) | apply Ints.app); done)) | (apply asTak; (repeat first | assumption | (refine TakAt.new ?_; (first | rfl | (simp only [List.length_append, List.length_cons, List.length_nil, List.length_set]; done) | (simp only [List.length_append, List.length_cons, List.length_nil, List.length_set]; omega))) | apply TakAt.app); done) | (apply asScal; (first | apply allS1 | apply allS2 | apply allS3 | apply allS4) <;> (first | exact One.int | exact One.bool | exact newV_one | exact grV_one | exact cloneV_one | exact takF_one | assumption | exact Ints.one (by assumption) | exact slcV_one (by assumption) | exact One.lit ⟨rfl, rfl, rfl⟩)) | exact litT rfl | exact litF rfl | omega | (simp only [List.length_append, List.length_cons, List.length_nil, lst_len, List.length_set, ints_length, List.length_reverse]; first | done | omega) | fail) : p := h


theorem bestS_ok {w : Int} {l : List Int} (hc : chk w l = 0) {t k : Nat} {n : Int} {f : Bool} (h : ball w.toNat l l.length = (t, k, n, f)) : bestS w l = if f = true then ((t : Int), (k : Int), n, 0) else (0, 0, 0, 6) := by
  unfold bestS
  rw [if_neg (by simp [hc]), h]

set_option maxRecDepth 100000 in
set_option maxHeartbeats 4000000 in
theorem run11 (hA : Awake) {base : Nat} {h : Heap} {v : AVal} {l : List Int} {w t k : Int} (hI : Ints h v l) (hl : l.length ≤ 1048576) :
    callL prog raw base (.fn 11 [] []) [pap w v, .int .i64 t, .int .i64 k] h = some (.bool true, h) := by
  unfold Awake at hA
  have hs := small_ints hI hl
  refine callL_run func11 rfl rfl ?_
  by_cases hw : l.length > 60 ∨ ((l.length : Int) > 12 ∧ l.length ≤ 48)
  · have hsp := @Nat.succ_ne_zero; repeat' (first | simp (disch := first | exact dschL11 | fail) only [go_sem, hsp, pap, hw, hA] | refine WP_drw ?_ | refine cnd_intro (fun hsp => ?_) fun hsp => ?_)
    all_goals exact fin_pl rfl rfl (by repeat' first | exact Ext.refl | refine Ext.app ?_)
  · by_cases hc : chk w l = 0
    · obtain ⟨hw8, hp, hx⟩ := chk_ok hc
      have hb := fewest_bd hc
      have h26 : ∀ {base : Nat} {H : Heap} {u : AVal} {l' : List Int}, Ints H u l' → chk w l' = 0 → callL prog raw base (.fn 26 [] []) [pap w u] H = some (chn w (fewV u w.toNat l') (fewestS w.toNat l').1 (fewestS w.toNat l').2.2, H) := fun hI' hc' => run26 hI' hc'
      have flen : ∀ {l' : List Int}, chk w l' = 0 → ((l'.take (fewestS w.toNat l').2.1.toNat).length : Int) = (fewestS w.toNat l').2.1 := fun {l'} hc' => by
        have := (fewest_bd hc').2
        rw [List.length_take]; omega
      have ln : ∀ {H : Heap} {u : AVal} {l' : List Int}, Ints H u l' → chk w l' = 0 → lenOpA prog H 22 (fewV u w.toNat l') = some (.int .i64 (fewestS w.toNat l').2.1) := fun {H u l'} hI' hc' => by
        rw [(fewV_ints hI' hc').len Fc.el22, flen hc']
      obtain ⟨B, hB⟩ : ∃ B, ball w.toNat l l.length = B := ⟨_, rfl⟩
      obtain ⟨bt, bk, bn, bf⟩ := B
      have eb := bestS_ok hc hB
      have h63 : ∀ {base : Nat} {H : Heap} {u : AVal}, Ints H u l → callL prog raw base (.fn 63 [] []) [pap w u] H = some (.tuple [.int .i64 (bt : Nat), .int .i64 (bk : Nat), .int .i64 bn, .bool bf], H) := fun hI' => by
        rw [run63 hI' hc, hB]
      have n0 : ∀ {n : Nat}, nlV n [] = .slice none 0 0 := fun {n} => by simp [nlV]
      have n0' : newH [] = [] := rfl
      by_cases hq : sqr w l t k = 0
      · obtain ⟨h1, h2, h3⟩ := sqr_ok hq
        have hq1 : (¬ (0 ≤ t ∧ t < l.length) ∨ ¬ (0 ≤ k ∧ k < w)) = False := eq_false (by omega)
        have hc2 := chg_ok hq
        have hs2 := small_chg hq
        have e1 : changeS w l t k = (w, chgL l t.toNat k.toNat, 0) := by unfold changeS; rw [if_neg (by simp [hq])]
        have e2 : costS w l t k = ((fewestS w.toNat (chgL l t.toNat k.toNat)).2.1 - (fewestS w.toNat l).2.1, 0) := by unfold costS; rw [if_neg (by simp [hq])]
        have h62 : ∀ {base : Nat} {H : Heap} {u : AVal}, Ints H u l → callL prog raw base (.fn 62 [] []) [pap w u, .int .i64 t, .int .i64 k] H = some (pap w (newV H.length (chgL l t.toNat k.toNat)), H ++ newH (chgL l t.toNat k.toNat)) := fun hI' => run62 hI' hq
        have hb2 := (fewest_bd hc2).2
        have hcl : (chgL l t.toNat k.toNat).length = l.length := chgL_len
        generalize hC : chgL l t.toNat k.toNat = C at *
        have hne : C ≠ [] := by rintro rfl; simp at hcl; omega
        have hCp : 0 < C.length := by omega
        have n1 : ∀ {n : Nat}, nlV n C = .slice (some ⟨n, 0, 0⟩) C.length C.length := fun {n} => nlV_ne hne
        have n2 : newH C = [rowB C 0] := newH_ne hne
        have n3 : ∀ {n : Nat}, newV n C = .slice (some ⟨n, 0, 0⟩) C.length C.length := fun {n} => newV_ne hne
        cases bf with
        | true =>
          have hsp := @Nat.succ_ne_zero; repeat' (first | simp (disch := first | exact dschL11 | fail) only [go_sem, hsp, pap, chn, hw, hA, hc, hc2, hq, hq1, h62, h63, h26, ln, e1, e2, eb, n1, n2, n3, tup2, tup4, run21, run22, run30, eq_self, decide_true, if_true, Bool.false_eq_true, clr_eq, stQ_all] | refine WP_drw ?_ | refine cnd_intro (fun hsp => ?_) fun hsp => ?_)
          all_goals exact fin_pl rfl rfl (by repeat' first | exact Ext.refl | refine Ext.app ?_)
        | false =>
          have hsp := @Nat.succ_ne_zero; repeat' (first | simp (disch := first | exact dschL11 | fail) only [go_sem, hsp, pap, chn, hw, hA, hc, hc2, hq, hq1, h62, h63, h26, ln, e1, e2, eb, n1, n2, n3, tup2, tup4, run21, run22, run30, eq_self, decide_true, if_true, Bool.false_eq_true, clr_eq, stQ_all] | refine WP_drw ?_ | refine cnd_intro (fun hsp => ?_) fun hsp => ?_)
          all_goals exact fin_pl rfl rfl (by repeat' first | exact Ext.refl | refine Ext.app ?_)
      · have hq1 : (¬ (0 ≤ t ∧ t < l.length) ∨ ¬ (0 ≤ k ∧ k < w)) = True := eq_true (by
          unfold sqr at hq
          rw [if_neg (by simp [hc])] at hq
          split at hq
          · assumption
          · exact absurd rfl hq)
        have eq1 : sqr w l t k = 1 := by
          unfold sqr
          rw [if_neg (by simp [hc]), if_pos (of_eq_true hq1)]
        have e1 : changeS w l t k = (0, [], 1) := by unfold changeS; rw [if_pos hq, eq1]
        have e2 : costS w l t k = (0, 1) := by unfold costS; rw [if_pos hq, eq1]
        cases bf with
        | true =>
          have hsp := @Nat.succ_ne_zero; repeat' (first | simp (disch := first | exact dschL11 | fail) only [go_sem, hsp, pap, chn, hw, hA, hc, hq, hq1, h63, h26, ln, e1, e2, eb, n0, n0', tup2, tup4, run21, run22, run30, eq_self, decide_true, if_true, Bool.false_eq_true, clr_nil] | refine WP_drw ?_ | refine cnd_intro (fun hsp => ?_) fun hsp => ?_)
          all_goals exact fin_pl rfl rfl (by repeat' first | exact Ext.refl | refine Ext.app ?_)
        | false =>
          have hsp := @Nat.succ_ne_zero; repeat' (first | simp (disch := first | exact dschL11 | fail) only [go_sem, hsp, pap, chn, hw, hA, hc, hq, hq1, h63, h26, ln, e1, e2, eb, n0, n0', tup2, tup4, run21, run22, run30, eq_self, decide_true, if_true, Bool.false_eq_true, clr_nil] | refine WP_drw ?_ | refine cnd_intro (fun hsp => ?_) fun hsp => ?_)
          all_goals exact fin_pl rfl rfl (by repeat' first | exact Ext.refl | refine Ext.app ?_)
    · have es : sqr w l t k = chk w l := by unfold sqr; rw [if_pos hc]
      have hq : ¬ sqr w l t k = 0 := by rw [es]; exact hc
      have e1 : changeS w l t k = (0, [], chk w l) := by unfold changeS; rw [if_pos hq, es]
      have e2 : costS w l t k = (0, chk w l) := by unfold costS; rw [if_pos hq, es]
      have e3 : bestS w l = (0, 0, 0, chk w l) := by unfold bestS; rw [if_pos hc]
      have n0 : ∀ {n : Nat}, nlV n [] = .slice none 0 0 := fun {n} => by simp [nlV]
      have n0' : newH [] = [] := rfl
      have hsp := @Nat.succ_ne_zero; repeat' (first | simp (disch := first | exact dschL11 | fail) only [go_sem, hsp, pap, hw, hA, hc, e1, e2, e3, n0, n0', tup2, tup4, run21, run22, run30, clr_nil, eq_self, decide_true, if_true, Bool.false_eq_true] | refine WP_drw ?_ | refine cnd_intro (fun hsp => ?_) fun hsp => ?_)
      all_goals exact fin_pl rfl rfl (by repeat' first | exact Ext.refl | refine Ext.app ?_)
end Go.AM
