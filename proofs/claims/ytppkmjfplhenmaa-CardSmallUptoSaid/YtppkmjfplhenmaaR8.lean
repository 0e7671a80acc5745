/-
  Contracts of the reference: runs that two patterns share.
-/
import Derived.Test.YtppkmjfplhenmaaP2
set_option linter.unusedSimpArgs false
set_option linter.unusedVariables false
namespace Go.AM
open Go.Proofs.Try
theorem dschR8 {p : Prop} (h : p := by first | exact Nat.ne_of_beq_eq_false rfl | assumption | (apply asOne; (first | exact One.int | exact One.bool | exact newV_one | exact grV_one | exact cloneV_one | exact takF_one | assumption | exact Ints.one (by assumption) | exact One.lit ⟨rfl, rfl, rfl⟩)) | (apply asInts; (repeat first | assumption | (apply newV_ints' <;> first | assumption | (first | rfl | (simp only [List.length_append, List.length_cons, List.length_nil, List.length_set]; done) | (simp only [List.length_append, List.length_cons, List.length_nil, List.length_set]; omega))) | (apply grV_ints <;> first | assumption | (first | rfl | (simp only [List.length_append, List.length_cons, List.length_nil, List.length_set]; done) | (simp only [List.length_append, List.length_cons, List.length_nil, List.length_set]; omega))) | apply Ints.app); done) | (apply asScal; (first | apply allS1 | apply allS2 | apply allS3 | apply allS4) <;> (first | exact One.int | exact One.bool | exact newV_one | exact grV_one | exact cloneV_one | exact takF_one | assumption | exact Ints.one (by assumption) | exact One.lit ⟨rfl, rfl, rfl⟩)) | exact litT rfl | exact litF rfl | omega | (simp only [List.length_append, List.length_cons, List.length_nil, lst_len, List.length_set, ints_length, List.length_reverse]; first | done | omega) | fail) : p := h

theorem run56 {base : Nat} {h : Heap} {v v' : AVal} {l l' : List Int} {w w' : Int} (hI : Ints h v l) (hI' : Ints h v' l') :
    callL prog raw base (.fn 56 [] []) [pap w v, pap w' v'] h = some (.int .i64 (bothS w l w' l'), h) := by
  refine callL_run func56 rfl rfl ?_
  have hsp := @Nat.succ_ne_zero; repeat' (first | simp (disch := first | exact dschR8 | fail) only [go_sem, hsp, pap] | refine WP_drw ?_ | refine cnd_intro (fun hsp => ?_) fun hsp => ?_)
  all_goals (first | refine fI ?_ | refine fB ?_ | refine fII ?_ ?_ | refine fBI ?_ ?_ | refine fIII ?_ ?_ ?_ | refine fIIB ?_ ?_ ?_ | skip); all_goals (try dsimp only); all_goals (try with_reducible rfl); all_goals (try omega)
  all_goals (unfold bothS; first | (rw [if_pos (by assumption)]; done) | (rw [if_neg (by assumption), if_pos (by assumption)]; done) | (rw [if_neg (by assumption), if_neg (by assumption), if_pos (by assumption)]; done) | (rw [if_neg (by assumption), if_neg (by assumption), if_neg (by assumption)]; done) | skip)
  all_goals simp_all
attribute [go_sem] run56

/-- petershamref02.Shared. -/
def shdB (p q : List Int) (a b : Int) (back : Bool) (long : Nat) : Bool := decide (0 ≤ a ∧ a < p.length) && (decide (0 ≤ b ∧ b < q.length) && runB p q a.toNat b.toNat back long)

theorem run58 {base : Nat} {h : Heap} {v v' : AVal} {p q : List Int} {w w' a b long : Int} {back : Bool} (hI : Ints h v p) (hI' : Ints h v' q) (hp : p.length ≤ 1000) (hp' : q.length ≤ 1000) (hl : 0 ≤ long ∧ long ≤ 1000) :
    callL prog raw base (.fn 58 [] []) [pap w v, pap w' v', runV a b long back] h = some (.bool (shdB p q a b back long.toNat), h) := by
  refine callL_run func58 rfl rfl ?_
  by_cases ha : 0 ≤ a ∧ a < p.length
  · by_cases hb : 0 ≤ b ∧ b < q.length
    · have e : shdB p q a b back long.toNat = runB p q a.toNat b.toNat back long.toNat := by
        unfold shdB; rw [decide_eq_true ha, decide_eq_true hb, Bool.true_and, Bool.true_and]
      rw [e]
      have t1 : (0 ≤ a ∧ a ≤ (p.length : Int) - 1) = True := eq_true (by omega)
      have t2 : (0 ≤ b ∧ b ≤ (q.length : Int) - 1) = True := eq_true (by omega)
      have u1 : (a < 0 ∨ a > (p.length : Int) - 1) = False := eq_false (by omega)
      have u2 : (b < 0 ∨ b > (q.length : Int) - 1) = False := eq_false (by omega)
      have hsp := @Nat.succ_ne_zero; repeat' (first | simp (disch := first | exact dschR8 | fail) only [go_sem, hsp, pap, runV, t1, t2, u1, u2] | refine WP_drw ?_ | refine cnd_intro (fun hsp => ?_) fun hsp => ?_)
      refine WP_loop (fun σ => ∃ n : Nat, σ.fr 7 = .int .i64 (n : Int) ∧ σ.fr 3 = .ptr (some ⟨h.length, 0, 0⟩) ∧ σ.fr 4 = .ptr (some ⟨h.length + 1, 0, 0⟩) ∧ σ.fr 5 = .ptr (some ⟨h.length + 2, 0, 0⟩) ∧ σ.h = h ++ [⟨.cells [.int .i64 w, v] 29 false false, 0⟩] ++ [⟨.cells [.int .i64 w', v'] 29 false false, 0⟩] ++ [⟨.cells [.int .i64 a, .int .i64 b, .int .i64 long, .bool back] 84 false false, 0⟩] ∧ n ≤ long.toNat ∧ (∀ j, j < n → runAt p q a.toNat b.toNat back j = true)) (fun σ => match σ.fr 7 with | .int _ x => (((long.toNat : Nat) : Int) - x).toNat | _ => 0) ?_ ?_
      · refine ⟨0, ?_, ?_, ?_, ?_, ?_, by omega, ?_⟩
        iterate 5 focus (first | rfl | (simp (disch := first | exact dschR8 | fail) only [go_sem, Int.natCast_zero]; first | done | rfl))
        intro j hj; omega
      · rintro ⟨fr, hp⟩ ⟨n, r7, r3, r4, r5, rh, hi, hP⟩
        dsimp only at r7 r3 r4 r5 rh hi hP
        subst rh
        have next : runAt p q a.toNat b.toNat back n = true → ∀ j, j < n + 1 → runAt p q a.toNat b.toNat back j = true := fun hf j hj => by
          by_cases e : j = n
          · subst e; exact hf
          · exact hP j (by omega)
        have stop : (n : Int) < long → runAt p q a.toNat b.toNat back n = false → false = runB p q a.toNat b.toNat back long.toNat := fun hn hf => by
          unfold runB
          refine (decide_eq_false fun hh => ?_).symm
          have := hh n (by omega)
          rw [hf] at this; cases this
        have fin : ¬ (n : Int) < long → true = runB p q a.toNat b.toNat back long.toNat := fun hn => by
          unfold runB
          exact (decide_eq_true fun j hj => hP j (by omega)).symm
        have ea : (a + (n : Int)).toNat = a.toNat + n := by omega
        by_cases g1 : a.toNat + n < p.length
        · have g1' : (a + (n : Int) ≥ (p.length : Int)) = False := eq_false (by omega)
          cases back with
          | true =>
            have eb : posI b.toNat true n = b - n := by simp only [posI, if_true, Bool.false_eq_true, if_false]; omega
            by_cases g2 : 0 ≤ b - (n : Int) ∧ b - (n : Int) < q.length
            · have g2' : (0 ≤ b - (n : Int) ∧ b - (n : Int) ≤ (q.length : Int) - 1) = True := eq_true (by omega)
              have u3 : (b - (n : Int) < 0 ∨ b - (n : Int) > (q.length : Int) - 1) = False := eq_false (by omega)
              have hsp := @Nat.succ_ne_zero; repeat' (first | simp (disch := first | exact dschR8 | fail) only [go_sem, hsp, r7, r3, r4, r5, pap, runV, g1', g2', u3, ea] | refine WP_drw ?_ | refine cnd_intro (fun hsp => ?_) fun hsp => ?_)
              · refine ⟨⟨n + 1, by simp, by omega, next ?_⟩, by omega⟩
                unfold runAt
                rw [eb]
                exact decide_eq_true ⟨g1, g2, hsp⟩
              · have hf : runAt p q a.toNat b.toNat true n = false := by
                  unfold runAt
                  rw [eb]
                  exact decide_eq_false fun hh => hsp hh.2.2
                all_goals (first | refine fI ?_ | refine fB ?_ | refine fII ?_ ?_ | refine fBI ?_ ?_ | refine fIII ?_ ?_ ?_ | refine fIIB ?_ ?_ ?_ | skip); all_goals (try dsimp only); all_goals (try with_reducible rfl); all_goals (try omega)
                exact stop (by assumption) hf
              · all_goals (first | refine fI ?_ | refine fB ?_ | refine fII ?_ ?_ | refine fBI ?_ ?_ | refine fIII ?_ ?_ ?_ | refine fIIB ?_ ?_ ?_ | skip); all_goals (try dsimp only); all_goals (try with_reducible rfl); all_goals (try omega)
                exact fin (by assumption)
            · have hf : runAt p q a.toNat b.toNat true n = false := by
                unfold runAt
                rw [eb]
                exact decide_eq_false fun hh => g2 hh.2.1
              have g2' : (0 ≤ b - (n : Int) ∧ b - (n : Int) ≤ (q.length : Int) - 1) = False := eq_false (by omega)
              have u3 : (b - (n : Int) < 0 ∨ b - (n : Int) > (q.length : Int) - 1) = True := eq_true (by omega)
              have hsp := @Nat.succ_ne_zero; repeat' (first | simp (disch := first | exact dschR8 | fail) only [go_sem, hsp, r7, r3, r4, r5, pap, runV, g1', g2', u3, ea] | refine WP_drw ?_ | refine cnd_intro (fun hsp => ?_) fun hsp => ?_)
              · all_goals (first | refine fI ?_ | refine fB ?_ | refine fII ?_ ?_ | refine fBI ?_ ?_ | refine fIII ?_ ?_ ?_ | refine fIIB ?_ ?_ ?_ | skip); all_goals (try dsimp only); all_goals (try with_reducible rfl); all_goals (try omega)
                exact stop (by assumption) hf
              · all_goals (first | refine fI ?_ | refine fB ?_ | refine fII ?_ ?_ | refine fBI ?_ ?_ | refine fIII ?_ ?_ ?_ | refine fIIB ?_ ?_ ?_ | skip); all_goals (try dsimp only); all_goals (try with_reducible rfl); all_goals (try omega)
                exact fin (by assumption)
          | false =>
            have eb : posI b.toNat false n = b + n := by simp only [posI, if_true, Bool.false_eq_true, if_false]; omega
            by_cases g2 : 0 ≤ b + (n : Int) ∧ b + (n : Int) < q.length
            · have g2' : (0 ≤ b + (n : Int) ∧ b + (n : Int) ≤ (q.length : Int) - 1) = True := eq_true (by omega)
              have u3 : (b + (n : Int) < 0 ∨ b + (n : Int) > (q.length : Int) - 1) = False := eq_false (by omega)
              have hsp := @Nat.succ_ne_zero; repeat' (first | simp (disch := first | exact dschR8 | fail) only [go_sem, hsp, r7, r3, r4, r5, pap, runV, g1', g2', u3, ea] | refine WP_drw ?_ | refine cnd_intro (fun hsp => ?_) fun hsp => ?_)
              · refine ⟨⟨n + 1, by simp, by omega, next ?_⟩, by omega⟩
                unfold runAt
                rw [eb]
                exact decide_eq_true ⟨g1, g2, hsp⟩
              · have hf : runAt p q a.toNat b.toNat false n = false := by
                  unfold runAt
                  rw [eb]
                  exact decide_eq_false fun hh => hsp hh.2.2
                all_goals (first | refine fI ?_ | refine fB ?_ | refine fII ?_ ?_ | refine fBI ?_ ?_ | refine fIII ?_ ?_ ?_ | refine fIIB ?_ ?_ ?_ | skip); all_goals (try dsimp only); all_goals (try with_reducible rfl); all_goals (try omega)
                exact stop (by assumption) hf
              · all_goals (first | refine fI ?_ | refine fB ?_ | refine fII ?_ ?_ | refine fBI ?_ ?_ | refine fIII ?_ ?_ ?_ | refine fIIB ?_ ?_ ?_ | skip); all_goals (try dsimp only); all_goals (try with_reducible rfl); all_goals (try omega)
                exact fin (by assumption)
            · have hf : runAt p q a.toNat b.toNat false n = false := by
                unfold runAt
                rw [eb]
                exact decide_eq_false fun hh => g2 hh.2.1
              have g2' : (0 ≤ b + (n : Int) ∧ b + (n : Int) ≤ (q.length : Int) - 1) = False := eq_false (by omega)
              have u3 : (b + (n : Int) < 0 ∨ b + (n : Int) > (q.length : Int) - 1) = True := eq_true (by omega)
              have hsp := @Nat.succ_ne_zero; repeat' (first | simp (disch := first | exact dschR8 | fail) only [go_sem, hsp, r7, r3, r4, r5, pap, runV, g1', g2', u3, ea] | refine WP_drw ?_ | refine cnd_intro (fun hsp => ?_) fun hsp => ?_)
              · all_goals (first | refine fI ?_ | refine fB ?_ | refine fII ?_ ?_ | refine fBI ?_ ?_ | refine fIII ?_ ?_ ?_ | refine fIIB ?_ ?_ ?_ | skip); all_goals (try dsimp only); all_goals (try with_reducible rfl); all_goals (try omega)
                exact stop (by assumption) hf
              · all_goals (first | refine fI ?_ | refine fB ?_ | refine fII ?_ ?_ | refine fBI ?_ ?_ | refine fIII ?_ ?_ ?_ | refine fIIB ?_ ?_ ?_ | skip); all_goals (try dsimp only); all_goals (try with_reducible rfl); all_goals (try omega)
                exact fin (by assumption)
        · have g1' : (a + (n : Int) ≥ (p.length : Int)) = True := eq_true (by omega)
          have hf : runAt p q a.toNat b.toNat back n = false := by
            unfold runAt
            exact decide_eq_false fun hh => g1 hh.1
          cases back with
          | true =>
            have hsp := @Nat.succ_ne_zero; repeat' (first | simp (disch := first | exact dschR8 | fail) only [go_sem, hsp, r7, r3, r4, r5, pap, runV, g1', ea] | refine WP_drw ?_ | refine cnd_intro (fun hsp => ?_) fun hsp => ?_)
            · all_goals (first | refine fI ?_ | refine fB ?_ | refine fII ?_ ?_ | refine fBI ?_ ?_ | refine fIII ?_ ?_ ?_ | refine fIIB ?_ ?_ ?_ | skip); all_goals (try dsimp only); all_goals (try with_reducible rfl); all_goals (try omega)
              exact stop (by assumption) hf
            · all_goals (first | refine fI ?_ | refine fB ?_ | refine fII ?_ ?_ | refine fBI ?_ ?_ | refine fIII ?_ ?_ ?_ | refine fIIB ?_ ?_ ?_ | skip); all_goals (try dsimp only); all_goals (try with_reducible rfl); all_goals (try omega)
              exact fin (by assumption)
          | false =>
            have hsp := @Nat.succ_ne_zero; repeat' (first | simp (disch := first | exact dschR8 | fail) only [go_sem, hsp, r7, r3, r4, r5, pap, runV, g1', ea] | refine WP_drw ?_ | refine cnd_intro (fun hsp => ?_) fun hsp => ?_)
            · all_goals (first | refine fI ?_ | refine fB ?_ | refine fII ?_ ?_ | refine fBI ?_ ?_ | refine fIII ?_ ?_ ?_ | refine fIIB ?_ ?_ ?_ | skip); all_goals (try dsimp only); all_goals (try with_reducible rfl); all_goals (try omega)
              exact stop (by assumption) hf
            · all_goals (first | refine fI ?_ | refine fB ?_ | refine fII ?_ ?_ | refine fBI ?_ ?_ | refine fIII ?_ ?_ ?_ | refine fIIB ?_ ?_ ?_ | skip); all_goals (try dsimp only); all_goals (try with_reducible rfl); all_goals (try omega)
              exact fin (by assumption)
    · have e : shdB p q a b back long.toNat = false := by unfold shdB; rw [decide_eq_false hb]; simp
      have t1 : (0 ≤ a ∧ a ≤ (p.length : Int) - 1) = True := eq_true (by omega)
      have t2 : (0 ≤ b ∧ b ≤ (q.length : Int) - 1) = False := eq_false (by omega)
      have u1 : (a < 0 ∨ a > (p.length : Int) - 1) = False := eq_false (by omega)
      have u2 : (b < 0 ∨ b > (q.length : Int) - 1) = True := eq_true (by omega)
      rw [e]
      have hsp := @Nat.succ_ne_zero; repeat' (first | simp (disch := first | exact dschR8 | fail) only [go_sem, hsp, pap, runV, t1, t2, u1, u2] | refine WP_drw ?_ | refine cnd_intro (fun hsp => ?_) fun hsp => ?_)
      all_goals (first | refine fI ?_ | refine fB ?_ | refine fII ?_ ?_ | refine fBI ?_ ?_ | refine fIII ?_ ?_ ?_ | refine fIIB ?_ ?_ ?_ | skip); all_goals (try dsimp only); all_goals (try with_reducible rfl); all_goals (try omega)
  · have e : shdB p q a b back long.toNat = false := by unfold shdB; rw [decide_eq_false ha]; simp
    have t1 : (0 ≤ a ∧ a ≤ (p.length : Int) - 1) = False := eq_false (by omega)
    have u1 : (a < 0 ∨ a > (p.length : Int) - 1) = True := eq_true (by omega)
    rw [e]
    have hsp := @Nat.succ_ne_zero; repeat' (first | simp (disch := first | exact dschR8 | fail) only [go_sem, hsp, pap, runV, t1, u1] | refine WP_drw ?_ | refine cnd_intro (fun hsp => ?_) fun hsp => ?_)
    all_goals (first | refine fI ?_ | refine fB ?_ | refine fII ?_ ?_ | refine fBI ?_ ?_ | refine fIII ?_ ?_ ?_ | refine fIIB ?_ ?_ ?_ | skip); all_goals (try dsimp only); all_goals (try with_reducible rfl); all_goals (try omega)
attribute [go_sem] run58
end Go.AM
