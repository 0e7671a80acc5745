/-
  Contracts: plans that are excluded.
-/
import Derived.Test.YtppkmjfplhenmaaD5
set_option linter.unusedSimpArgs false
set_option linter.unusedVariables false
namespace Go.AM
open Go.Proofs.Try
theorem dschD6 {p : Prop} (h : p := by first | exact Nat.ne_of_beq_eq_false rfl | assumption | (apply asOne; (first | exact One.int | exact One.bool | exact newV_one | exact grV_one | exact cloneV_one | exact takF_one | assumption | exact Ints.one (by assumption) | exact One.lit ⟨rfl, rfl, rfl⟩)) | (apply asInts; (repeat first | assumption | (apply newV_ints' <;> first | assumption | (first | rfl | (simp only [List.length_append, List.length_cons, List.length_nil, List.length_set]; done) | (simp only [List.length_append, List.length_cons, List.length_nil, List.length_set]; omega))) | (apply grV_ints <;> first | assumption | (first | rfl | (simp only [List.length_append, List.length_cons, List.length_nil, List.length_set]; done) | (simp only [List.length_append, List.length_cons, List.length_nil, List.length_set]; omega))) | apply Ints.app); done) | (apply asTak; (repeat first | assumption | (refine TakAt.new ?_; (first | rfl | (simp only [List.length_append, List.length_cons, List.length_nil, List.length_set]; done) | (simp only [List.length_append, List.length_cons, List.length_nil, List.length_set]; omega))) | apply TakAt.app); done) | (apply asScal; (first | apply allS1 | apply allS2 | apply allS3 | apply allS4) <;> (first | exact One.int | exact One.bool | exact newV_one | exact grV_one | exact cloneV_one | exact takF_one | assumption | exact Ints.one (by assumption) | exact One.lit ⟨rfl, rfl, rfl⟩)) | exact litT rfl | exact litF rfl | omega | (simp only [List.length_append, List.length_cons, List.length_nil, lst_len, List.length_set, ints_length, List.length_reverse]; first | done | omega) | fail) : p := h

/-- card.planned. -/
def planS (w : Int) (l : List Int) (k n s : Int) : Int :=
  if chk w l ≠ 0 then chk w l else if ¬ (0 ≤ k ∧ k ≤ 2) then 1 else if ¬ (1 ≤ n ∧ n ≤ l.length) then 2 else if ¬ stepOk k s w = true then 3 else 0
theorem planS_ok {w k n s : Int} {l : List Int} (h : planS w l k n s = 0) : chk w l = 0 ∧ (0 ≤ k ∧ k ≤ 2) ∧ (1 ≤ n ∧ n ≤ l.length) ∧ stepOk k s w = true ∧ (0 ≤ s ∧ s ≤ 1000) := by
  unfold planS at h
  by_cases h1 : chk w l = 0
  · rw [if_neg (by simp [h1])] at h
    split at h
    · cases h
    · split at h
      · cases h
      · split at h
        · cases h
        · rename_i h2 h3 h4
          have h5 : stepOk k s w = true := by simpa using h4
          refine ⟨h1, by omega, by omega, h5, ?_⟩
          have := (chk_ok h1).1
          unfold stepOk at h5
          split at h5 <;> simp at h5 <;> omega
  · rw [if_pos h1] at h
    exact absurd h h1

theorem run91 {base : Nat} {h : Heap} {v : AVal} {l : List Int} {w k n s : Int} (hI : Ints h v l) : callL prog raw base (.fn 91 [] []) [pap w v, pln k n s] h = some (.int .i64 (planS w l k n s), h) := by
  refine callL_run func91 rfl rfl ?_
  by_cases hc : chk w l = 0
  · have hw := (chk_ok hc).1
    have hsp := @Nat.succ_ne_zero; repeat' (first | simp (disch := first | exact dschD6 | fail) only [go_sem, hsp, pap, pln, hc] | refine WP_drw ?_ | refine cnd_intro (fun hsp => ?_) fun hsp => ?_)
    all_goals (first | refine fI ?_ | refine fB ?_ | refine fII ?_ ?_ | refine fBI ?_ ?_ | refine fIII ?_ ?_ ?_ | refine fIIB ?_ ?_ ?_ | skip); all_goals (try dsimp only); all_goals (try with_reducible rfl); all_goals (try omega)
    all_goals (simp only [planS, hc]; simp_all)
  · have hsp := @Nat.succ_ne_zero; repeat' (first | simp (disch := first | exact dschD6 | fail) only [go_sem, hsp, pap, pln, hc] | refine WP_drw ?_ | refine cnd_intro (fun hsp => ?_) fun hsp => ?_)
    all_goals (first | refine fI ?_ | refine fB ?_ | refine fII ?_ ?_ | refine fBI ?_ ?_ | refine fIII ?_ ?_ ?_ | refine fIIB ?_ ?_ ?_ | skip); all_goals (try dsimp only); all_goals (try with_reducible rfl); all_goals (try omega)
    all_goals (simp only [planS]; simp_all)
attribute [go_sem] run91

/-- card.Exclude. -/
def exclS (w : Int) (l : List Int) (k n s : Int) : Int × Int × Int :=
  if planS w l k n s ≠ 0 then (0, 0, planS w l k n s) else
  if (firstS w.toNat l k.toNat n.toNat s.toNat).2.2 = true then ((firstS w.toNat l k.toNat n.toNat s.toNat).1, (firstS w.toNat l k.toNat n.toNat s.toNat).2.1, 0) else (0, 0, 6)
theorem run34 {base : Nat} {h : Heap} {v : AVal} {l : List Int} {w k n s : Int} (hI : Ints h v l) : callL prog raw base (.fn 34 [] []) [pap w v, .int .i64 k, .int .i64 n, .int .i64 s] h = some (tup3 (exclS w l k n s), h) := by
  refine callL_run func34 rfl rfl ?_
  by_cases hc : planS w l k n s = 0
  · obtain ⟨h1, h2, h3, h4, h5⟩ := planS_ok hc
    cases hf : (firstS w.toNat l k.toNat n.toNat s.toNat).2.2 with
    | true =>
      have hsp := @Nat.succ_ne_zero; repeat' (first | simp (disch := first | exact dschD6 | fail) only [go_sem, hsp, pap, pln, hc, hf] | refine WP_drw ?_ | refine cnd_intro (fun hsp => ?_) fun hsp => ?_)
      unfold tup3 exclS
      rw [if_neg (by simp [hc]), if_pos hf]
      all_goals (first | refine fI ?_ | refine fB ?_ | refine fII ?_ ?_ | refine fBI ?_ ?_ | refine fIII ?_ ?_ ?_ | refine fIIB ?_ ?_ ?_ | skip); all_goals (try dsimp only); all_goals (try with_reducible rfl); all_goals (try omega)
    | false =>
      have hsp := @Nat.succ_ne_zero; repeat' (first | simp (disch := first | exact dschD6 | fail) only [go_sem, hsp, pap, pln, hc, hf] | refine WP_drw ?_ | refine cnd_intro (fun hsp => ?_) fun hsp => ?_)
      unfold tup3 exclS
      rw [if_neg (by simp [hc]), if_neg (by simp [hf])]
      all_goals (first | refine fI ?_ | refine fB ?_ | refine fII ?_ ?_ | refine fBI ?_ ?_ | refine fIII ?_ ?_ ?_ | refine fIIB ?_ ?_ ?_ | skip); all_goals (try dsimp only); all_goals (try with_reducible rfl); all_goals (try omega)
  · have hsp := @Nat.succ_ne_zero; repeat' (first | simp (disch := first | exact dschD6 | fail) only [go_sem, hsp, pap, pln, hc] | refine WP_drw ?_ | refine cnd_intro (fun hsp => ?_) fun hsp => ?_)
    unfold tup3 exclS
    rw [if_pos hc]
    all_goals (first | refine fI ?_ | refine fB ?_ | refine fII ?_ ?_ | refine fBI ?_ ?_ | refine fIII ?_ ?_ ?_ | refine fIIB ?_ ?_ ?_ | skip); all_goals (try dsimp only); all_goals (try with_reducible rfl); all_goals (try omega)
attribute [go_sem] run34

/-- card.Excludes. -/
def exclsB (w : Nat) (l : List Int) (k n s a b : Nat) : Bool :=
  decide (a < b ∧ cardN k n a = cardN k n b ∧ ((rotN (l.getD a 0).toNat ((moveN k n s w b + w - moveN k n s w a) % w) w : Nat) : Int) ≠ l.getD b 0)
def exclsS (w : Int) (l : List Int) (k n s a b : Int) : Bool × Int :=
  if planS w l k n s ≠ 0 then (false, planS w l k n s) else if ¬ (0 ≤ a ∧ a < l.length) ∨ ¬ (0 ≤ b ∧ b < l.length) then (false, 1) else (exclsB w.toNat l k.toNat n.toNat s.toNat a.toNat b.toNat, 0)

theorem run99f {base : Nat} {h : Heap} {v : AVal} {l : List Int} {w t : Int} (hI : Ints h v l) : callL prog raw base (.fn 99 [pap w v] []) [.int .i64 t] h = some (.bool (decide (0 ≤ t ∧ t < l.length)), h) := by
  refine callL_run func99 rfl rfl ?_
  have := hI.1.1
  have hsp := @Nat.succ_ne_zero; repeat' (first | simp (disch := first | exact dschD6 | fail) only [go_sem, hsp, pap] | refine WP_drw ?_ | refine cnd_intro (fun hsp => ?_) fun hsp => ?_)
  all_goals (first | refine fI ?_ | refine fB ?_ | refine fII ?_ ?_ | refine fBI ?_ ?_ | refine fIII ?_ ?_ ?_ | refine fIIB ?_ ?_ ?_ | skip); all_goals (try dsimp only); all_goals (try with_reducible rfl); all_goals (try omega)
  exact dec_eq (by omega)
attribute [go_sem] run99f

theorem run49 {base : Nat} {h : Heap} {v : AVal} {l : List Int} {w k n s a b : Int} (hI : Ints h v l) : callL prog raw base (.fn 49 [] []) [pap w v, .int .i64 k, .int .i64 n, .int .i64 s, .int .i64 a, .int .i64 b] h = some (tupBI (exclsS w l k n s a b), h) := by
  refine callL_run func49 rfl rfl ?_
  by_cases hc : planS w l k n s = 0
  · obtain ⟨h1, h2, h3, h4, h5⟩ := planS_ok hc
    obtain ⟨hw, hp, hx⟩ := chk_ok h1
    by_cases hab : ¬ (0 ≤ a ∧ a < l.length) ∨ ¬ (0 ≤ b ∧ b < l.length)
    · have e : exclsS w l k n s a b = (false, 1) := by unfold exclsS; rw [if_neg (by simp [hc]), if_pos hab]
      rw [e]
      unfold tupBI
      by_cases ha : 0 ≤ a ∧ a < l.length
      · have hb : ¬ (0 ≤ b ∧ b < l.length) := by omega
        have hsp := @Nat.succ_ne_zero; repeat' (first | simp (disch := first | exact dschD6 | fail) only [go_sem, hsp, pap, pln, hc, ha, hb] | refine WP_drw ?_ | refine cnd_intro (fun hsp => ?_) fun hsp => ?_)
        all_goals (first | refine fI ?_ | refine fB ?_ | refine fII ?_ ?_ | refine fBI ?_ ?_ | refine fIII ?_ ?_ ?_ | refine fIIB ?_ ?_ ?_ | skip); all_goals (try dsimp only); all_goals (try with_reducible rfl); all_goals (try omega)
      · have hsp := @Nat.succ_ne_zero; repeat' (first | simp (disch := first | exact dschD6 | fail) only [go_sem, hsp, pap, pln, hc, ha] | refine WP_drw ?_ | refine cnd_intro (fun hsp => ?_) fun hsp => ?_)
        all_goals (first | refine fI ?_ | refine fB ?_ | refine fII ?_ ?_ | refine fBI ?_ ?_ | refine fIII ?_ ?_ ?_ | refine fIIB ?_ ?_ ?_ | skip); all_goals (try dsimp only); all_goals (try with_reducible rfl); all_goals (try omega)
    · have ha : (0 ≤ a ∧ a < l.length) ∧ (0 ≤ b ∧ b < l.length) := by omega
      have c1 := moveN_lt (k := k.toNat) (n := n.toNat) (s := s.toNat) (w := w.toNat) (t := a.toNat) (by omega)
      have c2 := moveN_lt (k := k.toNat) (n := n.toNat) (s := s.toNat) (w := w.toNat) (t := b.toNat) (by omega)
      have e5 : ((moveN k.toNat n.toNat s.toNat w.toNat b.toNat : Nat) : Int) - ((moveN k.toNat n.toNat s.toNat w.toNat a.toNat : Nat) : Int) + w = ((moveN k.toNat n.toNat s.toNat w.toNat b.toNat + w.toNat - moveN k.toNat n.toNat s.toNat w.toNat a.toNat : Nat) : Int) := by omega
      have e6 : (((moveN k.toNat n.toNat s.toNat w.toNat b.toNat + w.toNat - moveN k.toNat n.toNat s.toNat w.toNat a.toNat : Nat) : Int)).tmod w = (((moveN k.toNat n.toNat s.toNat w.toNat b.toNat + w.toNat - moveN k.toNat n.toNat s.toNat w.toNat a.toNat) % w.toNat : Nat) : Int) := by
        rw [show w = ((w.toNat : Nat) : Int) by omega, tmodN]
        simp only [Int.toNat_natCast]
      have e7 := hx _ (getD_mem (l := l) (i := a.toNat) (by omega))
      have e8 : (((moveN k.toNat n.toNat s.toNat w.toNat b.toNat + w.toNat - moveN k.toNat n.toNat s.toNat w.toNat a.toNat) % w.toNat : Nat) : Int) < w := by
        have := Nat.mod_lt (moveN k.toNat n.toNat s.toNat w.toNat b.toNat + w.toNat - moveN k.toNat n.toNat s.toNat w.toNat a.toNat) (show w.toNat > 0 by omega)
        omega
      have hsp := @Nat.succ_ne_zero; repeat' (first | simp (disch := first | exact dschD6 | fail) only [go_sem, hsp, pap, pln, hc, ha.1, ha.2, e5, e6] | refine WP_drw ?_ | refine cnd_intro (fun hsp => ?_) fun hsp => ?_)
      all_goals (unfold tupBI exclsS; rw [if_neg (by simp [hc]), if_neg hab])
      all_goals (first | refine fI ?_ | refine fB ?_ | refine fII ?_ ?_ | refine fBI ?_ ?_ | refine fIII ?_ ?_ ?_ | refine fIIB ?_ ?_ ?_ | skip); all_goals (try dsimp only); all_goals (try with_reducible rfl); all_goals (try omega)
      · unfold exclsB
        exact dec_eq (by constructor <;> intro hh <;> first | exact ⟨by omega, by omega, hh⟩ | exact hh.2.2)
      · exact (decide_eq_false (by omega)).symm
      · exact (decide_eq_false (by omega)).symm
  · have hsp := @Nat.succ_ne_zero; repeat' (first | simp (disch := first | exact dschD6 | fail) only [go_sem, hsp, pap, pln, hc] | refine WP_drw ?_ | refine cnd_intro (fun hsp => ?_) fun hsp => ?_)
    unfold tupBI exclsS
    rw [if_pos hc]
    all_goals (first | refine fI ?_ | refine fB ?_ | refine fII ?_ ?_ | refine fBI ?_ ?_ | refine fIII ?_ ?_ ?_ | refine fIIB ?_ ?_ ?_ | skip); all_goals (try dsimp only); all_goals (try with_reducible rfl); all_goals (try omega)
attribute [go_sem] run49
end Go.AM
