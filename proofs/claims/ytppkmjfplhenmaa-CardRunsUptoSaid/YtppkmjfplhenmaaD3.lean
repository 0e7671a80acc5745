/-
  Contracts: what a chain weaves.
-/
import Derived.Test.YtppkmjfplhenmaaD2
import Derived.Test.YtppkmjfplhenmaaFCard
set_option linter.unusedSimpArgs false
set_option linter.unusedVariables false
namespace Go.AM
open Go.Proofs.Try
theorem dschD3 {p : Prop} (h : p := by first | exact Nat.ne_of_beq_eq_false rfl | assumption | (apply asOne; (first | exact One.int | exact One.bool | exact newV_one | exact grV_one | exact cloneV_one | exact takF_one | assumption | exact Ints.one (by assumption) | exact One.lit ⟨rfl, rfl, rfl⟩)) | (apply asInts; (repeat first | assumption | (apply newV_ints' <;> first | assumption | (first | rfl | (simp only [List.length_append, List.length_cons, List.length_nil, List.length_set]; done) | (simp only [List.length_append, List.length_cons, List.length_nil, List.length_set]; omega))) | (apply grV_ints <;> first | assumption | (first | rfl | (simp only [List.length_append, List.length_cons, List.length_nil, List.length_set]; done) | (simp only [List.length_append, List.length_cons, List.length_nil, List.length_set]; omega))) | apply Ints.app); done) | (apply asTak; (repeat first | assumption | (refine TakAt.new ?_; (first | rfl | (simp only [List.length_append, List.length_cons, List.length_nil, List.length_set]; done) | (simp only [List.length_append, List.length_cons, List.length_nil, List.length_set]; omega))) | apply TakAt.app); done) | (apply asScal; (first | apply allS1 | apply allS2 | apply allS3 | apply allS4) <;> (first | exact One.int | exact One.bool | exact newV_one | exact grV_one | exact cloneV_one | exact takF_one | assumption | exact Ints.one (by assumption) | exact One.lit ⟨rfl, rfl, rfl⟩)) | exact litT rfl | exact litF rfl | omega | (simp only [List.length_append, List.length_cons, List.length_nil, lst_len, List.length_set, ints_length, List.length_reverse]; first | done | omega) | fail) : p := h

/-- card.Card. -/
def cardS (w : Int) (l : List Int) (k s t : Int) : Int × Int × Int :=
  if chkC w l k s ≠ 0 then (0, 0, chkC w l k s) else if ¬ (0 ≤ t ∧ t ≤ 1000000) then (0, 0, 3) else ((cardN k.toNat l.length t.toNat : Nat), (moveN k.toNat l.length s.toNat w.toNat t.toNat : Nat), 0)
def tup3 (x : Int × Int × Int) : AVal := .tuple [.int .i64 x.1, .int .i64 x.2.1, .int .i64 x.2.2]

theorem run42 {base : Nat} {h : Heap} {v : AVal} {l : List Int} {w k s t : Int} (hI : Ints h v l) :
    callL prog raw base (.fn 42 [] []) [chn w v k s, .int .i64 t] h = some (tup3 (cardS w l k s t), h) := by
  refine callL_run func42 rfl rfl ?_
  by_cases hc : chkC w l k s = 0
  · obtain ⟨hw, hn, hk, hs, _, hx⟩ := chkC_ok hc
    have c5 : 1 ≤ (l.length : Int) ∧ (l.length : Int) ≤ 1000 := by omega
    have c6 : 0 ≤ s ∧ s ≤ 1000 := by omega
    have c7 : 1 ≤ w ∧ w ≤ 1000 := by omega
    by_cases ht : 0 ≤ t ∧ t ≤ 1000000
    · have ht' : 0 ≤ t ∧ t ≤ 10000000 := by omega
      have hsp := @Nat.succ_ne_zero; repeat' (first | simp (disch := first | exact Nat.ne_of_beq_eq_false rfl | assumption | exact dschD3 | fail) only [go_sem, hsp, chn, hc, ht] | refine WP_draw (by kernel_rfl) ?_ | refine cnd_intro (fun hsp => ?_) (fun hsp => ?_))
      all_goals (unfold tup3 cardS; rw [if_neg (by simp [hc]), if_neg (by simp [ht])])
      all_goals (first | (refine fin_pl (int_eq ?_) rfl ?_; rotate_left; (repeat' first | exact Ext.refl | refine Ext.app ?_)) | (refine fin_pl (bool_eq ?_) rfl ?_; rotate_left; (repeat' first | exact Ext.refl | refine Ext.app ?_)) | (refine fin_pl (tup2_eq (int_eq ?_) (int_eq ?_)) rfl ?_; rotate_left; rotate_left; (repeat' first | exact Ext.refl | refine Ext.app ?_)) | (refine fin_pl (tup2_eq (bool_eq ?_) (int_eq ?_)) rfl ?_; rotate_left; rotate_left; (repeat' first | exact Ext.refl | refine Ext.app ?_)) | (refine fin_pl (tup3_eq (int_eq ?_) (int_eq ?_) (int_eq ?_)) rfl ?_; rotate_left; rotate_left; rotate_left; (repeat' first | exact Ext.refl | refine Ext.app ?_)) | (refine fin_pl (tup3_eq (int_eq ?_) (int_eq ?_) (bool_eq ?_)) rfl ?_; rotate_left; rotate_left; rotate_left; (repeat' first | exact Ext.refl | refine Ext.app ?_)) | skip); all_goals (try dsimp only); all_goals (try with_reducible rfl); all_goals (try omega)
    · have hsp := @Nat.succ_ne_zero; repeat' (first | simp (disch := first | exact Nat.ne_of_beq_eq_false rfl | assumption | exact dschD3 | fail) only [go_sem, hsp, chn, hc, ht] | refine WP_draw (by kernel_rfl) ?_ | refine cnd_intro (fun hsp => ?_) (fun hsp => ?_))
      all_goals (unfold tup3 cardS; rw [if_neg (by simp [hc]), if_pos ht])
      all_goals (first | (refine fin_pl (int_eq ?_) rfl ?_; rotate_left; (repeat' first | exact Ext.refl | refine Ext.app ?_)) | (refine fin_pl (bool_eq ?_) rfl ?_; rotate_left; (repeat' first | exact Ext.refl | refine Ext.app ?_)) | (refine fin_pl (tup2_eq (int_eq ?_) (int_eq ?_)) rfl ?_; rotate_left; rotate_left; (repeat' first | exact Ext.refl | refine Ext.app ?_)) | (refine fin_pl (tup2_eq (bool_eq ?_) (int_eq ?_)) rfl ?_; rotate_left; rotate_left; (repeat' first | exact Ext.refl | refine Ext.app ?_)) | (refine fin_pl (tup3_eq (int_eq ?_) (int_eq ?_) (int_eq ?_)) rfl ?_; rotate_left; rotate_left; rotate_left; (repeat' first | exact Ext.refl | refine Ext.app ?_)) | (refine fin_pl (tup3_eq (int_eq ?_) (int_eq ?_) (bool_eq ?_)) rfl ?_; rotate_left; rotate_left; rotate_left; (repeat' first | exact Ext.refl | refine Ext.app ?_)) | skip); all_goals (try dsimp only); all_goals (try with_reducible rfl); all_goals (try omega)
  · have hsp := @Nat.succ_ne_zero; repeat' (first | simp (disch := first | exact Nat.ne_of_beq_eq_false rfl | assumption | exact dschD3 | fail) only [go_sem, hsp, chn, hc] | refine WP_draw (by kernel_rfl) ?_ | refine cnd_intro (fun hsp => ?_) (fun hsp => ?_))
    all_goals (unfold tup3 cardS; rw [if_pos hc])
    all_goals (first | (refine fin_pl (int_eq ?_) rfl ?_; rotate_left; (repeat' first | exact Ext.refl | refine Ext.app ?_)) | (refine fin_pl (bool_eq ?_) rfl ?_; rotate_left; (repeat' first | exact Ext.refl | refine Ext.app ?_)) | (refine fin_pl (tup2_eq (int_eq ?_) (int_eq ?_)) rfl ?_; rotate_left; rotate_left; (repeat' first | exact Ext.refl | refine Ext.app ?_)) | (refine fin_pl (tup2_eq (bool_eq ?_) (int_eq ?_)) rfl ?_; rotate_left; rotate_left; (repeat' first | exact Ext.refl | refine Ext.app ?_)) | (refine fin_pl (tup3_eq (int_eq ?_) (int_eq ?_) (int_eq ?_)) rfl ?_; rotate_left; rotate_left; rotate_left; (repeat' first | exact Ext.refl | refine Ext.app ?_)) | (refine fin_pl (tup3_eq (int_eq ?_) (int_eq ?_) (bool_eq ?_)) rfl ?_; rotate_left; rotate_left; rotate_left; (repeat' first | exact Ext.refl | refine Ext.app ?_)) | skip); all_goals (try dsimp only); all_goals (try with_reducible rfl); all_goals (try omega)

/-- card.Weaves. -/
def weavesS (w : Int) (l : List Int) (k s : Int) (w' : Int) (p : List Int) : Bool × Int :=
  if chkC w l k s ≠ 0 then (false, chkC w l k s) else if chk w' p ≠ 0 then (false, chk w' p) else if w ≠ w' then (false, 7) else
  (decide (∀ t, t < p.length → ((liftN w.toNat l k.toNat s.toNat t : Nat) : Int) = p.getD t 0), 0)
def tupBI (x : Bool × Int) : AVal := .tuple [.bool x.1, .int .i64 x.2]

theorem run68 {base : Nat} {h : Heap} {v v' : AVal} {l p : List Int} {w k s w' : Int} (hI : Ints h v l) (hI' : Ints h v' p) :
    callL prog raw base (.fn 68 [] []) [chn w v k s, pap w' v'] h = some (tupBI (weavesS w l k s w' p), h) := by
  refine callL_run func68 rfl rfl ?_
  by_cases hc : chkC w l k s = 0
  · by_cases hc' : chk w' p = 0
    · by_cases hw : w = w'
      · subst hw
        have hp := (chk_ok hc').2.1
        have hsp := @Nat.succ_ne_zero; repeat' (first | simp (disch := first | exact Nat.ne_of_beq_eq_false rfl | assumption | exact dschD3 | fail) only [go_sem, hsp, chn, pap, hc, hc'] | refine WP_draw (by kernel_rfl) ?_ | refine cnd_intro (fun hsp => ?_) (fun hsp => ?_))
        · refine WP_loop (fun σ => ∃ t : Nat, σ.fr 28 = .int .i64 (t : Int) ∧ σ.fr 2 = .ptr (some ⟨h.length, 0, 0⟩) ∧ σ.fr 26 = v' ∧ σ.fr 27 = .int .i64 p.length ∧ σ.h = h ++ [⟨.cells [.int .i64 w, v, .int .i64 k, .int .i64 s] 34 false false, 0⟩] ++ [⟨.cells [.int .i64 w, v'] 24 false false, 0⟩] ∧ t ≤ p.length ∧ (∀ j, j < t → ((liftN w.toNat l k.toNat s.toNat j : Nat) : Int) = p.getD j 0)) (fun σ => match σ.fr 28 with | .int _ x => (((p.length : Nat) : Int) - x).toNat | _ => 0) ?_ ?_
          · refine ⟨0, ?_, ?_, ?_, ?_, ?_, by omega, ?_⟩
            iterate 5 focus (first | rfl | (simp (disch := first | exact Nat.ne_of_beq_eq_false rfl | assumption | exact dschD3 | fail) only [go_sem, Int.natCast_zero]; first | done | rfl))
            intro j hj; omega
          · rintro ⟨fr, hp⟩ ⟨t, r28, r2, r26, r27, rh, hi, hP⟩
            dsimp only at r28 r2 r26 r27 rh hi hP
            subst rh
            have hsp := @Nat.succ_ne_zero; repeat' (first | simp (disch := first | exact Nat.ne_of_beq_eq_false rfl | assumption | exact dschD3 | fail) only [go_sem, hsp, r28, r2, r26, r27, chn] | refine WP_draw (by kernel_rfl) ?_ | refine cnd_intro (fun hsp => ?_) (fun hsp => ?_))
            all_goals (try (unfold tupBI weavesS; rw [if_neg (by simp [hc]), if_neg (by simp [hc']), if_neg (by simp)]))
            all_goals (first | (refine fin_pl (int_eq ?_) rfl ?_; rotate_left; (repeat' first | exact Ext.refl | refine Ext.app ?_)) | (refine fin_pl (bool_eq ?_) rfl ?_; rotate_left; (repeat' first | exact Ext.refl | refine Ext.app ?_)) | (refine fin_pl (tup2_eq (int_eq ?_) (int_eq ?_)) rfl ?_; rotate_left; rotate_left; (repeat' first | exact Ext.refl | refine Ext.app ?_)) | (refine fin_pl (tup2_eq (bool_eq ?_) (int_eq ?_)) rfl ?_; rotate_left; rotate_left; (repeat' first | exact Ext.refl | refine Ext.app ?_)) | (refine fin_pl (tup3_eq (int_eq ?_) (int_eq ?_) (int_eq ?_)) rfl ?_; rotate_left; rotate_left; rotate_left; (repeat' first | exact Ext.refl | refine Ext.app ?_)) | (refine fin_pl (tup3_eq (int_eq ?_) (int_eq ?_) (bool_eq ?_)) rfl ?_; rotate_left; rotate_left; rotate_left; (repeat' first | exact Ext.refl | refine Ext.app ?_)) | skip); all_goals (try dsimp only); all_goals (try with_reducible rfl); all_goals (try omega)
            · refine ⟨⟨t + 1, by simp, by omega, fun j hj => ?_⟩, by omega⟩
              by_cases e : j = t
              · subst e; assumption
              · exact hP j (by omega)
            · exact (decide_eq_false fun e => absurd (e t (by omega)) (by assumption)).symm
            · exact (decide_eq_true fun j hj => hP j (by omega)).symm
      · have hsp := @Nat.succ_ne_zero; repeat' (first | simp (disch := first | exact Nat.ne_of_beq_eq_false rfl | assumption | exact dschD3 | fail) only [go_sem, hsp, chn, pap, hc, hc', hw] | refine WP_draw (by kernel_rfl) ?_ | refine cnd_intro (fun hsp => ?_) (fun hsp => ?_))
        all_goals (unfold tupBI weavesS; rw [if_neg (by simp [hc]), if_neg (by simp [hc']), if_pos hw])
        all_goals (first | (refine fin_pl (int_eq ?_) rfl ?_; rotate_left; (repeat' first | exact Ext.refl | refine Ext.app ?_)) | (refine fin_pl (bool_eq ?_) rfl ?_; rotate_left; (repeat' first | exact Ext.refl | refine Ext.app ?_)) | (refine fin_pl (tup2_eq (int_eq ?_) (int_eq ?_)) rfl ?_; rotate_left; rotate_left; (repeat' first | exact Ext.refl | refine Ext.app ?_)) | (refine fin_pl (tup2_eq (bool_eq ?_) (int_eq ?_)) rfl ?_; rotate_left; rotate_left; (repeat' first | exact Ext.refl | refine Ext.app ?_)) | (refine fin_pl (tup3_eq (int_eq ?_) (int_eq ?_) (int_eq ?_)) rfl ?_; rotate_left; rotate_left; rotate_left; (repeat' first | exact Ext.refl | refine Ext.app ?_)) | (refine fin_pl (tup3_eq (int_eq ?_) (int_eq ?_) (bool_eq ?_)) rfl ?_; rotate_left; rotate_left; rotate_left; (repeat' first | exact Ext.refl | refine Ext.app ?_)) | skip); all_goals (try dsimp only); all_goals (try with_reducible rfl); all_goals (try omega)
    · have hsp := @Nat.succ_ne_zero; repeat' (first | simp (disch := first | exact Nat.ne_of_beq_eq_false rfl | assumption | exact dschD3 | fail) only [go_sem, hsp, chn, pap, hc, hc'] | refine WP_draw (by kernel_rfl) ?_ | refine cnd_intro (fun hsp => ?_) (fun hsp => ?_))
      all_goals (unfold tupBI weavesS; rw [if_neg (by simp [hc]), if_pos hc'])
      all_goals (first | (refine fin_pl (int_eq ?_) rfl ?_; rotate_left; (repeat' first | exact Ext.refl | refine Ext.app ?_)) | (refine fin_pl (bool_eq ?_) rfl ?_; rotate_left; (repeat' first | exact Ext.refl | refine Ext.app ?_)) | (refine fin_pl (tup2_eq (int_eq ?_) (int_eq ?_)) rfl ?_; rotate_left; rotate_left; (repeat' first | exact Ext.refl | refine Ext.app ?_)) | (refine fin_pl (tup2_eq (bool_eq ?_) (int_eq ?_)) rfl ?_; rotate_left; rotate_left; (repeat' first | exact Ext.refl | refine Ext.app ?_)) | (refine fin_pl (tup3_eq (int_eq ?_) (int_eq ?_) (int_eq ?_)) rfl ?_; rotate_left; rotate_left; rotate_left; (repeat' first | exact Ext.refl | refine Ext.app ?_)) | (refine fin_pl (tup3_eq (int_eq ?_) (int_eq ?_) (bool_eq ?_)) rfl ?_; rotate_left; rotate_left; rotate_left; (repeat' first | exact Ext.refl | refine Ext.app ?_)) | skip); all_goals (try dsimp only); all_goals (try with_reducible rfl); all_goals (try omega)
  · have hsp := @Nat.succ_ne_zero; repeat' (first | simp (disch := first | exact Nat.ne_of_beq_eq_false rfl | assumption | exact dschD3 | fail) only [go_sem, hsp, chn, pap, hc] | refine WP_draw (by kernel_rfl) ?_ | refine cnd_intro (fun hsp => ?_) (fun hsp => ?_))
    all_goals (unfold tupBI weavesS; rw [if_pos hc])
    all_goals (first | (refine fin_pl (int_eq ?_) rfl ?_; rotate_left; (repeat' first | exact Ext.refl | refine Ext.app ?_)) | (refine fin_pl (bool_eq ?_) rfl ?_; rotate_left; (repeat' first | exact Ext.refl | refine Ext.app ?_)) | (refine fin_pl (tup2_eq (int_eq ?_) (int_eq ?_)) rfl ?_; rotate_left; rotate_left; (repeat' first | exact Ext.refl | refine Ext.app ?_)) | (refine fin_pl (tup2_eq (bool_eq ?_) (int_eq ?_)) rfl ?_; rotate_left; rotate_left; (repeat' first | exact Ext.refl | refine Ext.app ?_)) | (refine fin_pl (tup3_eq (int_eq ?_) (int_eq ?_) (int_eq ?_)) rfl ?_; rotate_left; rotate_left; rotate_left; (repeat' first | exact Ext.refl | refine Ext.app ?_)) | (refine fin_pl (tup3_eq (int_eq ?_) (int_eq ?_) (bool_eq ?_)) rfl ?_; rotate_left; rotate_left; rotate_left; (repeat' first | exact Ext.refl | refine Ext.app ?_)) | skip); all_goals (try dsimp only); all_goals (try with_reducible rfl); all_goals (try omega)
attribute [go_sem] run42 run68
end Go.AM
