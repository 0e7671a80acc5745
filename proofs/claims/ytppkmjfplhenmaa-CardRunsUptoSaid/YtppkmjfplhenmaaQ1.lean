/-
  Contracts: the function that CardRuns makes.
-/
import Derived.Test.YtppkmjfplhenmaaM0
import Derived.Test.YtppkmjfplhenmaaP2
set_option linter.unusedSimpArgs false
set_option linter.unusedVariables false
namespace Go.AM
open Go.Proofs.Try
theorem dschQ1 {p : Prop} (h : p := by first | exact Nat.ne_of_beq_eq_false rfl | assumption | (apply asOne; (first | exact One.int | exact One.bool | exact newV_one | exact nlV_one | exact grV_one | exact cloneV_one | exact takF_one | assumption | exact Ints.one (by assumption) | exact slcV_one (by assumption) | exact Bytes.one (by assumption) | exact One.lit ⟨rfl, rfl, rfl⟩)) | (apply asSp; (repeat first | assumption | apply SpAt.set | (refine SpAt.new ?_ (by (first | rfl | (simp only [List.length_append, List.length_cons, List.length_nil, List.length_set]; done) | (simp only [List.length_append, List.length_cons, List.length_nil, List.length_set]; omega)))) | apply SpAt.app | apply Bytes.app); done) | (apply asBytes; (repeat first | assumption | apply Bytes.app); done) | (apply asInts; first | ((repeat first | assumption | (apply nlV_ints <;> first | assumption | (first | rfl | (simp only [List.length_append, List.length_cons, List.length_nil, List.length_set]; done) | (simp only [List.length_append, List.length_cons, List.length_nil, List.length_set]; omega))) | exact ints_nil | (apply newV_ints' <;> first | assumption | (first | rfl | (simp only [List.length_append, List.length_cons, List.length_nil, List.length_set]; done) | (simp only [List.length_append, List.length_cons, List.length_nil, List.length_set]; omega))) | (apply grV_ints <;> first | assumption | (first | rfl | (simp only [List.length_append, List.length_cons, List.length_nil, List.length_set]; done) | (simp only [List.length_append, List.length_cons, List.length_nil, List.length_set]; omega))) | (apply Ints.slc <;> first | (repeat first | assumption | apply Ints.app); done | omega) | apply Ints.app); done) | ((repeat first | (apply slice_row <;> first | assumption | (first | rfl | (simp only [List.length_append, List.length_cons, List.length_nil, List.length_set]; done) | (simp only [List.length_append, List.length_cons, List.length_nil, List.length_set]; omega))) | apply Ints.app); done)) | (apply asTak; (repeat first | assumption | (refine TakAt.new ?_; (first | rfl | (simp only [List.length_append, List.length_cons, List.length_nil, List.length_set]; done) | (simp only [List.length_append, List.length_cons, List.length_nil, List.length_set]; omega))) | apply TakAt.app); done) | (apply asScal; (first | apply allS1 | apply allS2 | apply allS3 | apply allS4) <;> (first | exact One.int | exact One.bool | exact newV_one | exact nlV_one | exact grV_one | exact cloneV_one | exact takF_one | assumption | exact Ints.one (by assumption) | exact slcV_one (by assumption) | exact Bytes.one (by assumption) | exact One.lit ⟨rfl, rfl, rfl⟩)) | exact litT rfl | exact litF rfl | omega | (simp only [List.length_append, List.length_cons, List.length_nil, lst_len, List.length_set, ints_length, List.length_reverse]; first | done | omega) | fail) : p := h


set_option maxRecDepth 100000 in
set_option maxHeartbeats 4000000 in
theorem run70 {base P Q : Nat} {h : Heap} {v v' : AVal} {p q : List Int} {w w' : Int} {a b L : Nat} {back : Bool} (hI : Ints h v p) (hI' : Ints h v' q) (gP : h[P]? = some ⟨.cells [.int .i64 w, v] 24 false false, 0⟩) (gQ : h[Q]? = some ⟨.cells [.int .i64 w', v'] 24 false false, 0⟩)
    (hp : p.length ≤ 1000) (hp' : q.length ≤ 1000) (ha : a ≤ 1000) (hb : b ≤ 1000) (hl : L ≤ 1000) :
    callL prog raw base (.fn 70 [] [.ptr (some ⟨P, 0, 0⟩), .ptr (some ⟨Q, 0, 0⟩)]) [runV a b L back] h = some (.bool (runB p q a b back L), h) := by
  have hP := lt_of_get gP
  have hQ := lt_of_get gQ
  refine callL_run func70 rfl rfl ?_
  have hsp := @Nat.succ_ne_zero; repeat' (first | simp (disch := first | exact Nat.ne_of_beq_eq_false rfl | assumption | exact dschQ1 | fail) only [go_sem, hsp, pap, runV, gP, gQ] | refine WP_draw (by kernel_rfl) ?_ | refine cnd_intro (fun hsp => ?_) (fun hsp => ?_))
  refine WP_loop (fun σ => ∃ n : Nat, σ.fr 9 = .int .i64 (n : Int) ∧ σ.fr 1 = .ptr (some ⟨P, 0, 0⟩) ∧ σ.fr 2 = .ptr (some ⟨Q, 0, 0⟩) ∧ σ.fr 3 = .ptr (some ⟨h.length, 0, 0⟩) ∧ σ.fr 8 = .int .i64 (L : Int) ∧ σ.h = h ++ [⟨.cells [.int .i64 (a : Int), .int .i64 (b : Int), .int .i64 (L : Int), .bool back] 82 false false, 0⟩] ∧ n ≤ L ∧ (∀ j, j < n → runAt p q a b back j = true)) (fun σ => match σ.fr 9 with | .int _ x => (((L : Nat) : Int) - x).toNat | _ => 0) ?_ ?_
  · refine ⟨0, ?_, ?_, ?_, ?_, ?_, ?_, by omega, ?_⟩
    iterate 6 focus (first | rfl | (simp (disch := first | exact Nat.ne_of_beq_eq_false rfl | assumption | exact dschQ1 | fail) only [go_sem, Int.natCast_zero]; first | done | rfl))
    intro j hj; omega
  · rintro ⟨fr, hp⟩ ⟨n, r9, r1, r2, r3, r8, rh, hi, hP⟩
    dsimp only at r9 r1 r2 r3 r8 rh hi hP
    subst rh
    have next : runAt p q a b back n = true → ∀ j, j < n + 1 → runAt p q a b back j = true := fun hf j hj => by
      by_cases e : j = n
      · subst e; exact hf
      · exact hP j (by omega)
    have stop : (n : Int) < L → runAt p q a b back n = false → false = runB p q a b back L := fun hn hf => by
      unfold runB
      refine (decide_eq_false fun hh => ?_).symm
      have := hh n (by omega)
      rw [hf] at this; cases this
    by_cases hn : n < L
    · have hlt : ((n : Int) < (L : Int)) = True := eq_true (by omega)
      have ea : ((a : Int) + (n : Int)).toNat = a + n := by omega
      have k0 : ((a : Int) < 0) = False := eq_false (by omega)
      by_cases g1 : a + n < p.length
      · have g1' : ((a : Int) + (n : Int) ≥ (p.length : Int)) = False := eq_false (by omega)
        cases back with
        | true =>
          have eb : posI b true n = (b : Int) - n := by simp only [posI, if_true, Bool.false_eq_true, if_false]
          by_cases g2 : 0 ≤ (b : Int) - (n : Int) ∧ (b : Int) - (n : Int) < q.length
          · have k1 : ((b : Int) - (n : Int) < 0) = False := eq_false (by omega)
            have k2 : ((b : Int) - (n : Int) ≥ (q.length : Int)) = False := eq_false (by omega)
            by_cases g3 : p.getD (a + n) 0 = q.getD ((b : Int) - (n : Int)).toNat 0
            · have k3 : (p.getD (a + n) 0 ≠ q.getD ((b : Int) - (n : Int)).toNat 0) = False := eq_false (fun hh => hh g3)
              have hsp := @Nat.succ_ne_zero; repeat' (first | simp (disch := first | exact Nat.ne_of_beq_eq_false rfl | assumption | exact dschQ1 | fail) only [go_sem, hsp, r9, r1, r2, r3, r8, pap, runV, gP, gQ, k0, k1, k2, k3, g1', ea, hlt, eq_self, decide_true, if_true, Bool.false_eq_true] | refine WP_draw (by kernel_rfl) ?_ | refine cnd_intro (fun hsp => ?_) (fun hsp => ?_))
              refine ⟨⟨n + 1, by simp, by omega, next ?_⟩, by omega⟩
              unfold runAt
              rw [eb]
              exact decide_eq_true ⟨g1, g2, g3⟩
            · have k3 : (p.getD (a + n) 0 ≠ q.getD ((b : Int) - (n : Int)).toNat 0) = True := eq_true g3
              have hf : runAt p q a b true n = false := by
                unfold runAt
                rw [eb]
                exact decide_eq_false fun hh => g3 hh.2.2
              have hsp := @Nat.succ_ne_zero; repeat' (first | simp (disch := first | exact Nat.ne_of_beq_eq_false rfl | assumption | exact dschQ1 | fail) only [go_sem, hsp, r9, r1, r2, r3, r8, pap, runV, gP, gQ, k0, k1, k2, k3, g1', ea, hlt, eq_self, decide_true, if_true, Bool.false_eq_true] | refine WP_draw (by kernel_rfl) ?_ | refine cnd_intro (fun hsp => ?_) (fun hsp => ?_))
              all_goals (first | (refine fin_pl (int_eq ?_) rfl ?_; rotate_left; (repeat' first | exact Ext.refl | refine Ext.app ?_)) | (refine fin_pl (bool_eq ?_) rfl ?_; rotate_left; (repeat' first | exact Ext.refl | refine Ext.app ?_)) | (refine fin_pl (tup2_eq (int_eq ?_) (int_eq ?_)) rfl ?_; rotate_left; rotate_left; (repeat' first | exact Ext.refl | refine Ext.app ?_)) | (refine fin_pl (tup2_eq (bool_eq ?_) (int_eq ?_)) rfl ?_; rotate_left; rotate_left; (repeat' first | exact Ext.refl | refine Ext.app ?_)) | (refine fin_pl (tup3_eq (int_eq ?_) (int_eq ?_) (int_eq ?_)) rfl ?_; rotate_left; rotate_left; rotate_left; (repeat' first | exact Ext.refl | refine Ext.app ?_)) | (refine fin_pl (tup3_eq (int_eq ?_) (int_eq ?_) (bool_eq ?_)) rfl ?_; rotate_left; rotate_left; rotate_left; (repeat' first | exact Ext.refl | refine Ext.app ?_)) | skip); all_goals (try dsimp only); all_goals (try with_reducible rfl); all_goals (try omega)
              exact stop (by omega) hf
          · have hf : runAt p q a b true n = false := by
              unfold runAt
              rw [eb]
              exact decide_eq_false fun hh => g2 hh.2.1
            by_cases g4 : (b : Int) - (n : Int) < 0
            · have k1 : ((b : Int) - (n : Int) < 0) = True := eq_true (by omega)
              have hsp := @Nat.succ_ne_zero; repeat' (first | simp (disch := first | exact Nat.ne_of_beq_eq_false rfl | assumption | exact dschQ1 | fail) only [go_sem, hsp, r9, r1, r2, r3, r8, pap, runV, gP, gQ, k0, k1, g1', ea, hlt, eq_self, decide_true, if_true, Bool.false_eq_true] | refine WP_draw (by kernel_rfl) ?_ | refine cnd_intro (fun hsp => ?_) (fun hsp => ?_))
              all_goals (first | (refine fin_pl (int_eq ?_) rfl ?_; rotate_left; (repeat' first | exact Ext.refl | refine Ext.app ?_)) | (refine fin_pl (bool_eq ?_) rfl ?_; rotate_left; (repeat' first | exact Ext.refl | refine Ext.app ?_)) | (refine fin_pl (tup2_eq (int_eq ?_) (int_eq ?_)) rfl ?_; rotate_left; rotate_left; (repeat' first | exact Ext.refl | refine Ext.app ?_)) | (refine fin_pl (tup2_eq (bool_eq ?_) (int_eq ?_)) rfl ?_; rotate_left; rotate_left; (repeat' first | exact Ext.refl | refine Ext.app ?_)) | (refine fin_pl (tup3_eq (int_eq ?_) (int_eq ?_) (int_eq ?_)) rfl ?_; rotate_left; rotate_left; rotate_left; (repeat' first | exact Ext.refl | refine Ext.app ?_)) | (refine fin_pl (tup3_eq (int_eq ?_) (int_eq ?_) (bool_eq ?_)) rfl ?_; rotate_left; rotate_left; rotate_left; (repeat' first | exact Ext.refl | refine Ext.app ?_)) | skip); all_goals (try dsimp only); all_goals (try with_reducible rfl); all_goals (try omega)
              exact stop (by omega) hf
            · have k1 : ((b : Int) - (n : Int) < 0) = False := eq_false (by omega)
              have k2 : ((b : Int) - (n : Int) ≥ (q.length : Int)) = True := eq_true (by omega)
              have hsp := @Nat.succ_ne_zero; repeat' (first | simp (disch := first | exact Nat.ne_of_beq_eq_false rfl | assumption | exact dschQ1 | fail) only [go_sem, hsp, r9, r1, r2, r3, r8, pap, runV, gP, gQ, k0, k1, k2, g1', ea, hlt, eq_self, decide_true, if_true, Bool.false_eq_true] | refine WP_draw (by kernel_rfl) ?_ | refine cnd_intro (fun hsp => ?_) (fun hsp => ?_))
              all_goals (first | (refine fin_pl (int_eq ?_) rfl ?_; rotate_left; (repeat' first | exact Ext.refl | refine Ext.app ?_)) | (refine fin_pl (bool_eq ?_) rfl ?_; rotate_left; (repeat' first | exact Ext.refl | refine Ext.app ?_)) | (refine fin_pl (tup2_eq (int_eq ?_) (int_eq ?_)) rfl ?_; rotate_left; rotate_left; (repeat' first | exact Ext.refl | refine Ext.app ?_)) | (refine fin_pl (tup2_eq (bool_eq ?_) (int_eq ?_)) rfl ?_; rotate_left; rotate_left; (repeat' first | exact Ext.refl | refine Ext.app ?_)) | (refine fin_pl (tup3_eq (int_eq ?_) (int_eq ?_) (int_eq ?_)) rfl ?_; rotate_left; rotate_left; rotate_left; (repeat' first | exact Ext.refl | refine Ext.app ?_)) | (refine fin_pl (tup3_eq (int_eq ?_) (int_eq ?_) (bool_eq ?_)) rfl ?_; rotate_left; rotate_left; rotate_left; (repeat' first | exact Ext.refl | refine Ext.app ?_)) | skip); all_goals (try dsimp only); all_goals (try with_reducible rfl); all_goals (try omega)
              exact stop (by omega) hf
        | false =>
          have eb : posI b false n = (b : Int) + n := by simp only [posI, if_true, Bool.false_eq_true, if_false]
          by_cases g2 : 0 ≤ (b : Int) + (n : Int) ∧ (b : Int) + (n : Int) < q.length
          · have k1 : ((b : Int) + (n : Int) < 0) = False := eq_false (by omega)
            have k2 : ((b : Int) + (n : Int) ≥ (q.length : Int)) = False := eq_false (by omega)
            by_cases g3 : p.getD (a + n) 0 = q.getD ((b : Int) + (n : Int)).toNat 0
            · have k3 : (p.getD (a + n) 0 ≠ q.getD ((b : Int) + (n : Int)).toNat 0) = False := eq_false (fun hh => hh g3)
              have hsp := @Nat.succ_ne_zero; repeat' (first | simp (disch := first | exact Nat.ne_of_beq_eq_false rfl | assumption | exact dschQ1 | fail) only [go_sem, hsp, r9, r1, r2, r3, r8, pap, runV, gP, gQ, k0, k1, k2, k3, g1', ea, hlt, eq_self, decide_true, if_true, Bool.false_eq_true] | refine WP_draw (by kernel_rfl) ?_ | refine cnd_intro (fun hsp => ?_) (fun hsp => ?_))
              refine ⟨⟨n + 1, by simp, by omega, next ?_⟩, by omega⟩
              unfold runAt
              rw [eb]
              exact decide_eq_true ⟨g1, g2, g3⟩
            · have k3 : (p.getD (a + n) 0 ≠ q.getD ((b : Int) + (n : Int)).toNat 0) = True := eq_true g3
              have hf : runAt p q a b false n = false := by
                unfold runAt
                rw [eb]
                exact decide_eq_false fun hh => g3 hh.2.2
              have hsp := @Nat.succ_ne_zero; repeat' (first | simp (disch := first | exact Nat.ne_of_beq_eq_false rfl | assumption | exact dschQ1 | fail) only [go_sem, hsp, r9, r1, r2, r3, r8, pap, runV, gP, gQ, k0, k1, k2, k3, g1', ea, hlt, eq_self, decide_true, if_true, Bool.false_eq_true] | refine WP_draw (by kernel_rfl) ?_ | refine cnd_intro (fun hsp => ?_) (fun hsp => ?_))
              all_goals (first | (refine fin_pl (int_eq ?_) rfl ?_; rotate_left; (repeat' first | exact Ext.refl | refine Ext.app ?_)) | (refine fin_pl (bool_eq ?_) rfl ?_; rotate_left; (repeat' first | exact Ext.refl | refine Ext.app ?_)) | (refine fin_pl (tup2_eq (int_eq ?_) (int_eq ?_)) rfl ?_; rotate_left; rotate_left; (repeat' first | exact Ext.refl | refine Ext.app ?_)) | (refine fin_pl (tup2_eq (bool_eq ?_) (int_eq ?_)) rfl ?_; rotate_left; rotate_left; (repeat' first | exact Ext.refl | refine Ext.app ?_)) | (refine fin_pl (tup3_eq (int_eq ?_) (int_eq ?_) (int_eq ?_)) rfl ?_; rotate_left; rotate_left; rotate_left; (repeat' first | exact Ext.refl | refine Ext.app ?_)) | (refine fin_pl (tup3_eq (int_eq ?_) (int_eq ?_) (bool_eq ?_)) rfl ?_; rotate_left; rotate_left; rotate_left; (repeat' first | exact Ext.refl | refine Ext.app ?_)) | skip); all_goals (try dsimp only); all_goals (try with_reducible rfl); all_goals (try omega)
              exact stop (by omega) hf
          · have hf : runAt p q a b false n = false := by
              unfold runAt
              rw [eb]
              exact decide_eq_false fun hh => g2 hh.2.1
            by_cases g4 : (b : Int) + (n : Int) < 0
            · exfalso; omega
            · have k1 : ((b : Int) + (n : Int) < 0) = False := eq_false (by omega)
              have k2 : ((b : Int) + (n : Int) ≥ (q.length : Int)) = True := eq_true (by omega)
              have hsp := @Nat.succ_ne_zero; repeat' (first | simp (disch := first | exact Nat.ne_of_beq_eq_false rfl | assumption | exact dschQ1 | fail) only [go_sem, hsp, r9, r1, r2, r3, r8, pap, runV, gP, gQ, k0, k1, k2, g1', ea, hlt, eq_self, decide_true, if_true, Bool.false_eq_true] | refine WP_draw (by kernel_rfl) ?_ | refine cnd_intro (fun hsp => ?_) (fun hsp => ?_))
              all_goals (first | (refine fin_pl (int_eq ?_) rfl ?_; rotate_left; (repeat' first | exact Ext.refl | refine Ext.app ?_)) | (refine fin_pl (bool_eq ?_) rfl ?_; rotate_left; (repeat' first | exact Ext.refl | refine Ext.app ?_)) | (refine fin_pl (tup2_eq (int_eq ?_) (int_eq ?_)) rfl ?_; rotate_left; rotate_left; (repeat' first | exact Ext.refl | refine Ext.app ?_)) | (refine fin_pl (tup2_eq (bool_eq ?_) (int_eq ?_)) rfl ?_; rotate_left; rotate_left; (repeat' first | exact Ext.refl | refine Ext.app ?_)) | (refine fin_pl (tup3_eq (int_eq ?_) (int_eq ?_) (int_eq ?_)) rfl ?_; rotate_left; rotate_left; rotate_left; (repeat' first | exact Ext.refl | refine Ext.app ?_)) | (refine fin_pl (tup3_eq (int_eq ?_) (int_eq ?_) (bool_eq ?_)) rfl ?_; rotate_left; rotate_left; rotate_left; (repeat' first | exact Ext.refl | refine Ext.app ?_)) | skip); all_goals (try dsimp only); all_goals (try with_reducible rfl); all_goals (try omega)
              exact stop (by omega) hf
      · have g1' : ((a : Int) + (n : Int) ≥ (p.length : Int)) = True := eq_true (by omega)
        have hf : runAt p q a b back n = false := by
          unfold runAt
          exact decide_eq_false fun hh => g1 hh.1
        cases back with
        | true =>
          have hsp := @Nat.succ_ne_zero; repeat' (first | simp (disch := first | exact Nat.ne_of_beq_eq_false rfl | assumption | exact dschQ1 | fail) only [go_sem, hsp, r9, r1, r2, r3, r8, pap, runV, gP, gQ, k0, g1', hlt, eq_self, decide_true, if_true, Bool.false_eq_true] | refine WP_draw (by kernel_rfl) ?_ | refine cnd_intro (fun hsp => ?_) (fun hsp => ?_))
          all_goals (first | (refine fin_pl (int_eq ?_) rfl ?_; rotate_left; (repeat' first | exact Ext.refl | refine Ext.app ?_)) | (refine fin_pl (bool_eq ?_) rfl ?_; rotate_left; (repeat' first | exact Ext.refl | refine Ext.app ?_)) | (refine fin_pl (tup2_eq (int_eq ?_) (int_eq ?_)) rfl ?_; rotate_left; rotate_left; (repeat' first | exact Ext.refl | refine Ext.app ?_)) | (refine fin_pl (tup2_eq (bool_eq ?_) (int_eq ?_)) rfl ?_; rotate_left; rotate_left; (repeat' first | exact Ext.refl | refine Ext.app ?_)) | (refine fin_pl (tup3_eq (int_eq ?_) (int_eq ?_) (int_eq ?_)) rfl ?_; rotate_left; rotate_left; rotate_left; (repeat' first | exact Ext.refl | refine Ext.app ?_)) | (refine fin_pl (tup3_eq (int_eq ?_) (int_eq ?_) (bool_eq ?_)) rfl ?_; rotate_left; rotate_left; rotate_left; (repeat' first | exact Ext.refl | refine Ext.app ?_)) | skip); all_goals (try dsimp only); all_goals (try with_reducible rfl); all_goals (try omega)
          exact stop (by omega) hf
        | false =>
          have hsp := @Nat.succ_ne_zero; repeat' (first | simp (disch := first | exact Nat.ne_of_beq_eq_false rfl | assumption | exact dschQ1 | fail) only [go_sem, hsp, r9, r1, r2, r3, r8, pap, runV, gP, gQ, k0, g1', hlt, eq_self, decide_true, if_true, Bool.false_eq_true] | refine WP_draw (by kernel_rfl) ?_ | refine cnd_intro (fun hsp => ?_) (fun hsp => ?_))
          all_goals (first | (refine fin_pl (int_eq ?_) rfl ?_; rotate_left; (repeat' first | exact Ext.refl | refine Ext.app ?_)) | (refine fin_pl (bool_eq ?_) rfl ?_; rotate_left; (repeat' first | exact Ext.refl | refine Ext.app ?_)) | (refine fin_pl (tup2_eq (int_eq ?_) (int_eq ?_)) rfl ?_; rotate_left; rotate_left; (repeat' first | exact Ext.refl | refine Ext.app ?_)) | (refine fin_pl (tup2_eq (bool_eq ?_) (int_eq ?_)) rfl ?_; rotate_left; rotate_left; (repeat' first | exact Ext.refl | refine Ext.app ?_)) | (refine fin_pl (tup3_eq (int_eq ?_) (int_eq ?_) (int_eq ?_)) rfl ?_; rotate_left; rotate_left; rotate_left; (repeat' first | exact Ext.refl | refine Ext.app ?_)) | (refine fin_pl (tup3_eq (int_eq ?_) (int_eq ?_) (bool_eq ?_)) rfl ?_; rotate_left; rotate_left; rotate_left; (repeat' first | exact Ext.refl | refine Ext.app ?_)) | skip); all_goals (try dsimp only); all_goals (try with_reducible rfl); all_goals (try omega)
          exact stop (by omega) hf
    · have hlt : ((n : Int) < (L : Int)) = False := eq_false (by omega)
      have hsp := @Nat.succ_ne_zero; repeat' (first | simp (disch := first | exact Nat.ne_of_beq_eq_false rfl | assumption | exact dschQ1 | fail) only [go_sem, hsp, r9, r1, r2, r3, r8, pap, runV, gP, gQ, hlt, eq_self, decide_true, if_true, Bool.false_eq_true] | refine WP_draw (by kernel_rfl) ?_ | refine cnd_intro (fun hsp => ?_) (fun hsp => ?_))
      all_goals (first | (refine fin_pl (int_eq ?_) rfl ?_; rotate_left; (repeat' first | exact Ext.refl | refine Ext.app ?_)) | (refine fin_pl (bool_eq ?_) rfl ?_; rotate_left; (repeat' first | exact Ext.refl | refine Ext.app ?_)) | (refine fin_pl (tup2_eq (int_eq ?_) (int_eq ?_)) rfl ?_; rotate_left; rotate_left; (repeat' first | exact Ext.refl | refine Ext.app ?_)) | (refine fin_pl (tup2_eq (bool_eq ?_) (int_eq ?_)) rfl ?_; rotate_left; rotate_left; (repeat' first | exact Ext.refl | refine Ext.app ?_)) | (refine fin_pl (tup3_eq (int_eq ?_) (int_eq ?_) (int_eq ?_)) rfl ?_; rotate_left; rotate_left; rotate_left; (repeat' first | exact Ext.refl | refine Ext.app ?_)) | (refine fin_pl (tup3_eq (int_eq ?_) (int_eq ?_) (bool_eq ?_)) rfl ?_; rotate_left; rotate_left; rotate_left; (repeat' first | exact Ext.refl | refine Ext.app ?_)) | skip); all_goals (try dsimp only); all_goals (try with_reducible rfl); all_goals (try omega)
      unfold runB
      exact (decide_eq_true fun j hj => hP j (by omega)).symm
end Go.AM
