/-
  The law CardPlans.
-/
import Derived.Test.YtppkmjfplhenmaaL0
set_option linter.unusedSimpArgs false
set_option linter.unusedVariables false
namespace Go.AM
open Go.Proofs.Try
theorem dschL8 {p : Prop} (h : p := by first | exact Nat.ne_of_beq_eq_false rfl | assumption | (apply asOne; (first | exact One.int | exact One.bool | exact newV_one | exact grV_one | exact cloneV_one | exact takF_one | assumption | exact Ints.one (by assumption) | exact slcV_one (by assumption) | exact One.lit ⟨rfl, rfl, rfl⟩)) | (apply asInts; first | ((repeat first | assumption | exact ints_nil | (apply newV_ints' <;> first | assumption | (first | rfl | (simp only [List.length_append, List.length_cons, List.length_nil, List.length_set]; done) | (simp only [List.length_append, List.length_cons, List.length_nil, List.length_set]; omega))) | (apply grV_ints <;> first | assumption | (first | rfl | (simp only [List.length_append, List.length_cons, List.length_nil, List.length_set]; done) | (simp only [List.length_append, List.length_cons, List.length_nil, List.length_set]; omega))) | (apply Ints.slc <;> first | (repeat first | assumption | apply Ints.app); done | omega) | apply Ints.app); done) | fail) | (apply asTak; (repeat first | assumption | (refine TakAt.new ?_; (first | rfl | (simp only [List.length_append, List.length_cons, List.length_nil, List.length_set]; done) | (simp only [List.length_append, List.length_cons, List.length_nil, List.length_set]; omega))) | apply TakAt.app); done) | (apply asScal; (first | apply allS1 | apply allS2 | apply allS3 | apply allS4) <;> (first | exact One.int | exact One.bool | exact newV_one | exact grV_one | exact cloneV_one | exact takF_one | assumption | exact Ints.one (by assumption) | exact slcV_one (by assumption) | exact One.lit ⟨rfl, rfl, rfl⟩)) | exact litT rfl | exact litF rfl | omega | (simp only [List.length_append, List.length_cons, List.length_nil, lst_len, List.length_set, ints_length, List.length_reverse]; first | done | omega) | fail) : p := h


def rotChk : Bool := (List.range 9).all fun w => (List.range (2 ^ w)).all fun x => (List.range w).all fun i => (List.range w).all fun j => rotN (rotN x i w) ((j + w - i) % w) w == rotN x j w
theorem rotChk_ok : rotChk = true := by kernel_rfl
theorem rot_rot {w x i j : Nat} (hw : w ≤ 8) (hx : x < 2 ^ w) (hi : i < w) (hj : j < w) : rotN (rotN x i w) ((j + w - i) % w) w = rotN x j w := by
  have h := rotChk_ok
  unfold rotChk at h
  have h1 := List.all_eq_true.1 h w (List.mem_range.2 (by omega))
  have h2 := List.all_eq_true.1 h1 x (List.mem_range.2 hx)
  have h3 := List.all_eq_true.1 h2 i (List.mem_range.2 hi)
  have h4 := List.all_eq_true.1 h3 j (List.mem_range.2 hj)
  exact eq_of_beq h4
/-- The reference's search finds what the card's finds. -/
theorem exR_first {w : Int} {l : List Int} {k n s : Nat} (hc : chk w l = 0) (hn : 1 ≤ n ∧ n ≤ l.length) : exR w.toNat l k n s = firstS w.toNat l k n s := by
  obtain ⟨hw, hp, hx⟩ := chk_ok hc
  have hb : ∀ c, c < l.length → (l.getD c 0).toNat < 2 ^ w.toNat := fun c hcl => by
    have := hx _ (getD_mem hcl)
    have e : ((2 ^ w.toNat : Nat) : Int) = (2 : Int) ^ w.toNat := by simp
    omega
  have hno : ∀ b, b < l.length → (∀ t, t ≤ b → offN w.toNat l k n s t = false) → exA w.toNat l k n s b = none := fun b hbl hoff => by
    refine findI_none fun a ha => decide_eq_false ?_
    rintro ⟨h1, h2, h3⟩
    have ha' := hoff a (by omega)
    have hb' := hoff b (by omega)
    unfold offN at ha' hb'
    rw [decide_eq_false_iff_not, Decidable.not_not] at ha' hb'
    have hcl := cardN_lt (k := k) (t := b) hn.1
    rw [h2] at ha'
    refine h3 ?_
    rw [← ha', ← hb', Int.toNat_natCast, rot_rot (by omega) (hb _ (by omega)) (moveN_lt (by omega)) (moveN_lt (by omega))]
  unfold firstS
  cases hf : findI (offN w.toNat l k n s) l.length with
  | none =>
    have h0 := findI_not hf
    unfold exR exB
    rw [findI_none fun b hbl => by rw [hno b hbl (fun t ht => h0 t (by omega))]; rfl]
  | some t =>
    obtain ⟨h1, h2, h3⟩ := findI_is hf
    have hnt : n ≤ t := by
      by_cases hh : t < n
      · rw [off_small hh (hx _ (getD_mem h1))] at h2
        cases h2
      · omega
    have hcl := cardN_lt (k := k) (t := t) hn.1
    have e1 : exclsB w.toNat l k n s (cardN k n t) t = true := by
      refine decide_eq_true ⟨by omega, cardN_small hcl, ?_⟩
      have hm := moveN_lt (k := k) (n := n) (s := s) (w := w.toNat) (t := t) (by omega)
      rw [moveN_small hcl, Nat.sub_zero, Nat.add_mod_right, Nat.mod_eq_of_lt hm]
      exact of_decide_eq_true h2
    have e2 : exA w.toNat l k n s t = some (cardN k n t) := findI_some (by omega) e1 fun j hj => decide_eq_false fun hh => by
      have := cardN_small (k := k) (show j < n by omega)
      omega
    have e3 : exB w.toNat l k n s = some t := findI_some h1 (by rw [e2]; rfl) fun j hj => by rw [hno j (by omega) (fun t' ht' => h3 t' (by omega))]; rfl
    unfold exR
    rw [e3]
    simp only [e2]

theorem planS_chk {w k n s : Int} {l : List Int} (h : ¬ chk w l = 0) : planS w l k n s = chk w l := by
  unfold planS
  rw [if_pos h]

theorem run45 {base : Nat} {h : Heap} {v : AVal} {l : List Int} {w k n s : Int} (hI : Ints h v l) (hc : chk w l = 0) : callL prog raw base (.fn 45 [] []) [pap w v, .int .i64 k, .int .i64 n, .int .i64 s] h = some (.int .i64 (planS w l k n s), h) := by
  have hw := (chk_ok hc).1
  refine callL_run func45 rfl rfl ?_
  have hsp := @Nat.succ_ne_zero; repeat' (first | simp (disch := first | exact dschL8 | fail) only [go_sem, hsp, pap] | refine WP_drw ?_ | refine cnd_intro (fun hsp => ?_) fun hsp => ?_)
  all_goals (first | refine fI ?_ | refine fB ?_ | refine fII ?_ ?_ | refine fBI ?_ ?_ | refine fIII ?_ ?_ ?_ | refine fIIB ?_ ?_ ?_ | skip); all_goals (try dsimp only); all_goals (try with_reducible rfl); all_goals (try omega)
  all_goals (unfold planS; rw [if_neg (by simp [hc])]; first | (rw [if_pos (by omega)]; done) | (rw [if_neg (by omega), if_pos (by omega)]; done) | (rw [if_neg (by omega), if_neg (by omega)]; simp_all))
attribute [go_sem] run45

theorem first_none {w : Nat} {l : List Int} {k n s : Nat} (h : (firstS w l k n s).2.2 = false) : (firstS w l k n s).1 = 0 ∧ (firstS w l k n s).2.1 = 0 := by
  unfold firstS at h ⊢
  split at h
  · cases h
  · exact ⟨rfl, rfl⟩

set_option maxRecDepth 100000 in
set_option maxHeartbeats 4000000 in
theorem run8 (hA : Awake) {base : Nat} {h : Heap} {v : AVal} {l : List Int} {w k n s a b : Int} (hI : Ints h v l) (hl : l.length ≤ 1048576) :
    callL prog raw base (.fn 8 [] []) [pap w v, .int .i64 k, .int .i64 n, .int .i64 s, .int .i64 a, .int .i64 b] h = some (.bool true, h) := by
  unfold Awake at hA
  have hs := small_ints hI hl
  refine callL_run func8 rfl rfl ?_
  by_cases hw : l.length > 60
  · have hsp := @Nat.succ_ne_zero; repeat' (first | simp (disch := first | exact dschL8 | fail) only [go_sem, hsp, pap, hw, hA] | refine WP_drw ?_ | refine cnd_intro (fun hsp => ?_) fun hsp => ?_)
    exact fin_pl rfl rfl (.app .refl)
  · by_cases hc : chk w l = 0
    · by_cases hq : planS w l k n s = 0
      · obtain ⟨h1, h2, h3, h4, h5⟩ := planS_ok hq
        have ef := exR_first (k := k.toNat) (n := n.toNat) (s := s.toNat) hc (by omega)
        by_cases hab : (0 ≤ a ∧ a < l.length) ∧ (0 ≤ b ∧ b < l.length)
        · have e2 : exclsS w l k n s a b = (exclsB w.toNat l k.toNat n.toNat s.toNat a.toNat b.toNat, 0) := by unfold exclsS; rw [if_neg (by simp [hq]), if_neg (by omega)]
          have ga : (a ≥ 0) = True := eq_true hab.1.1
          have la : (a < (l.length : Int)) = True := eq_true hab.1.2
          have gb : (b ≥ 0) = True := eq_true hab.2.1
          have lb : (b < (l.length : Int)) = True := eq_true hab.2.2
          cases hf : (firstS w.toNat l k.toNat n.toNat s.toNat).2.2 with
          | true =>
            have e1 : exclS w l k n s = ((((firstS w.toNat l k.toNat n.toNat s.toNat).1 : Nat) : Int), (((firstS w.toNat l k.toNat n.toNat s.toNat).2.1 : Nat) : Int), 0) := by unfold exclS; rw [if_neg (by simp [hq]), if_pos hf]
            have hsp := @Nat.succ_ne_zero; repeat' (first | simp (disch := first | exact dschL8 | fail) only [go_sem, hsp, pap, hw, hA, hc, hq, e1, e2, ef, hf, ga, la, gb, lb, tup3, tupBI, run21, run22, run30, eqB4, eq_self, decide_true, if_true, Bool.false_eq_true] | refine WP_drw ?_ | refine cnd_intro (fun hsp => ?_) fun hsp => ?_)
            all_goals exact fin_pl rfl rfl (by repeat' first | exact Ext.refl | refine Ext.app ?_)
          | false =>
            have hz := first_none hf
            have e1 : exclS w l k n s = (0, 0, 6) := by unfold exclS; rw [if_neg (by simp [hq]), if_neg (by simp [hf])]
            have hsp := @Nat.succ_ne_zero; repeat' (first | simp (disch := first | exact dschL8 | fail) only [go_sem, hsp, pap, hw, hA, hc, hq, e1, e2, ef, hf, hz.1, hz.2, Int.natCast_zero, ga, la, gb, lb, tup3, tupBI, run21, run22, run30, eqB4, eq_self, decide_true, if_true, Bool.false_eq_true] | refine WP_drw ?_ | refine cnd_intro (fun hsp => ?_) fun hsp => ?_)
            all_goals exact fin_pl rfl rfl (by repeat' first | exact Ext.refl | refine Ext.app ?_)
        · have e2 : exclsS w l k n s a b = (false, 1) := by unfold exclsS; rw [if_neg (by simp [hq]), if_pos (by omega)]
          cases hf : (firstS w.toNat l k.toNat n.toNat s.toNat).2.2 with
          | true =>
            have e1 : exclS w l k n s = ((((firstS w.toNat l k.toNat n.toNat s.toNat).1 : Nat) : Int), (((firstS w.toNat l k.toNat n.toNat s.toNat).2.1 : Nat) : Int), 0) := by unfold exclS; rw [if_neg (by simp [hq]), if_pos hf]
            have hsp := @Nat.succ_ne_zero; repeat' (first | simp (disch := first | exact dschL8 | fail) only [go_sem, hsp, pap, hw, hA, hc, hq, e1, e2, ef, hf, tup3, tupBI, run21, run22, run30, eqB4, eq_self, decide_true, if_true, Bool.false_eq_true] | refine WP_drw ?_ | refine cnd_intro (fun hsp => ?_) fun hsp => ?_)
            all_goals (first | exact fin_pl rfl rfl (by repeat' first | exact Ext.refl | refine Ext.app ?_) | (exfalso; omega))
          | false =>
            have hz := first_none hf
            have e1 : exclS w l k n s = (0, 0, 6) := by unfold exclS; rw [if_neg (by simp [hq]), if_neg (by simp [hf])]
            have hsp := @Nat.succ_ne_zero; repeat' (first | simp (disch := first | exact dschL8 | fail) only [go_sem, hsp, pap, hw, hA, hc, hq, e1, e2, ef, hf, hz.1, hz.2, Int.natCast_zero, tup3, tupBI, run21, run22, run30, eqB4, eq_self, decide_true, if_true, Bool.false_eq_true] | refine WP_drw ?_ | refine cnd_intro (fun hsp => ?_) fun hsp => ?_)
            all_goals (first | exact fin_pl rfl rfl (by repeat' first | exact Ext.refl | refine Ext.app ?_) | (exfalso; omega))
      · have e1 : exclS w l k n s = (0, 0, planS w l k n s) := by unfold exclS; rw [if_pos hq]
        have e2 : exclsS w l k n s a b = (false, planS w l k n s) := by unfold exclsS; rw [if_pos hq]
        have hsp := @Nat.succ_ne_zero; repeat' (first | simp (disch := first | exact dschL8 | fail) only [go_sem, hsp, pap, hw, hA, hc, hq, e1, e2, tup3, tupBI, run21, run22, run30, eqB4, eq_self, decide_true, if_true, Bool.false_eq_true] | refine WP_drw ?_ | refine cnd_intro (fun hsp => ?_) fun hsp => ?_)
        exact fin_pl rfl rfl (by repeat' first | exact Ext.refl | refine Ext.app ?_)
    · have hq : ¬ planS w l k n s = 0 := by rw [planS_chk hc]; exact hc
      have e1 : exclS w l k n s = (0, 0, planS w l k n s) := by unfold exclS; rw [if_pos hq]
      have e2 : exclsS w l k n s a b = (false, planS w l k n s) := by unfold exclsS; rw [if_pos hq]
      rw [planS_chk hc] at e1 e2
      have hsp := @Nat.succ_ne_zero; repeat' (first | simp (disch := first | exact dschL8 | fail) only [go_sem, hsp, pap, hw, hA, hc, e1, e2, tup3, tupBI, run21, run22, run30, eqB4, eq_self, decide_true, if_true, Bool.false_eq_true] | refine WP_drw ?_ | refine cnd_intro (fun hsp => ?_) fun hsp => ?_)
      exact fin_pl rfl rfl (by repeat' first | exact Ext.refl | refine Ext.app ?_)
end Go.AM
