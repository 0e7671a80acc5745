/-
  Contracts of the reference: the longest run that two patterns share.
-/
import Derived.Test.YtppkmjfplhenmaaR8
set_option linter.unusedSimpArgs false
set_option linter.unusedVariables false
namespace Go.AM
open Go.Proofs.Try
theorem dschR9 {p : Prop} (h : p := by first | exact Nat.ne_of_beq_eq_false rfl | assumption | (apply asOne; (first | exact One.int | exact One.bool | exact newV_one | exact grV_one | exact cloneV_one | exact takF_one | assumption | exact Ints.one (by assumption) | exact One.lit ⟨rfl, rfl, rfl⟩)) | (apply asInts; (repeat first | assumption | (apply newV_ints' <;> first | assumption | (first | rfl | (simp only [List.length_append, List.length_cons, List.length_nil, List.length_set]; done) | (simp only [List.length_append, List.length_cons, List.length_nil, List.length_set]; omega))) | (apply grV_ints <;> first | assumption | (first | rfl | (simp only [List.length_append, List.length_cons, List.length_nil, List.length_set]; done) | (simp only [List.length_append, List.length_cons, List.length_nil, List.length_set]; omega))) | apply Ints.app); done) | (apply asScal; (first | apply allS1 | apply allS2 | apply allS3 | apply allS4) <;> (first | exact One.int | exact One.bool | exact newV_one | exact grV_one | exact cloneV_one | exact takF_one | assumption | exact Ints.one (by assumption) | exact One.lit ⟨rfl, rfl, rfl⟩)) | exact litT rfl | exact litF rfl | omega | (simp only [List.length_append, List.length_cons, List.length_nil, lst_len, List.length_set, ints_length, List.length_reverse]; first | done | omega) | fail) : p := h

theorem shd_in {p q : List Int} {a b L : Nat} {k : Bool} (ha : a < p.length) (hb : b < q.length) : shdB p q (a : Int) (b : Int) k L = runB p q a b k L := by
  unfold shdB
  rw [decide_eq_true (by omega), decide_eq_true (by omega), Bool.true_and, Bool.true_and]
  simp only [Int.toNat_natCast]
theorem runB_out {p q : List Int} {a b L : Nat} {k : Bool} (hL : 0 < L) (h : ¬ (a < p.length ∧ b < q.length)) : runB p q a b k L = false := by
  cases hh : runB p q a b k L with
  | false => rfl
  | true =>
    have := runB_len.1 hh
    rw [lenR_zero (fun h2 => h ⟨h2.1, h2.2.1⟩)] at this
    omega

set_option maxHeartbeats 1000000 in
theorem run57 {base : Nat} {h : Heap} {v v' : AVal} {p q : List Int} {w w' : Int} (hI : Ints h v p) (hI' : Ints h v' q) (hp : p.length ≤ 1000) (hp' : q.length ≤ 1000) :
    callL prog raw base (.fn 57 [] []) [pap w v, pap w' v'] h = some (runW (shAll p q p.length), h) := by
  refine callL_run func57 rfl rfl ?_
  have hsp := @Nat.succ_ne_zero; repeat' (first | simp (disch := first | exact dschR9 | fail) only [go_sem, hsp, pap] | refine WP_drw ?_ | refine cnd_intro (fun hsp => ?_) fun hsp => ?_)
  refine WP_loop (fun σ => ∃ L : Nat, ∃ T : Heap, L ≤ 1000 ∧ σ.fr 5 = .int .i64 (L : Int) ∧ σ.fr 2 = .ptr (some ⟨h.length, 0, 0⟩) ∧ σ.fr 3 = .ptr (some ⟨h.length + 1, 0, 0⟩) ∧ σ.fr 4 = .ptr (some ⟨h.length + 2, 0, 0⟩) ∧
    σ.h = h ++ [⟨.cells [.int .i64 w, v] 29 false false, 0⟩] ++ [⟨.cells [.int .i64 w', v'] 29 false false, 0⟩] ++ [⟨.cells [.int .i64 0, .int .i64 0, .int .i64 0, .bool false] 84 false false, 0⟩] ++ T ∧ ∀ L', L < L' → ∀ a b k, runB p q a b k L' = false)
    (fun σ => match σ.fr 5 with | .int _ x => x.toNat | _ => 0) ?_ ?_
  · refine ⟨min p.length q.length, [], by omega, ?_, by (simp (disch := first | exact dschR9 | fail) only [go_sem, Int.natCast_zero]; first | done | rfl), by (simp (disch := first | exact dschR9 | fail) only [go_sem, Int.natCast_zero]; first | done | rfl), by (simp (disch := first | exact dschR9 | fail) only [go_sem, Int.natCast_zero]; first | done | rfl), ?_, fun L' hL a b k => ?_⟩
    · have e : min (p.length : Int) (q.length : Int) = ((min p.length q.length : Nat) : Int) := by omega
      simp (disch := first | exact dschR9 | fail) only [go_sem, e]
    · dsimp only
      rw [List.append_nil]
    · cases hh : runB p q a b k L' with
      | false => rfl
      | true =>
        have := runB_len.1 hh
        have := lenR_min (p := p) (q := q) (a := a) (b := b) (k := k)
        omega
  · rintro ⟨fr, H⟩ ⟨L, T, hL, r5, r2, r3, r4, rh, hno⟩
    dsimp only at r5 r2 r3 r4 rh
    subst rh
    have q5 := r5
    by_cases hL0 : (L : Int) > 0
    · have hL0' : ((L : Int) > 0) = True := eq_true hL0
      have hsp := @Nat.succ_ne_zero; repeat' (first | simp (disch := first | exact dschR9 | fail) only [go_sem, hsp, r5, r2, r3, r4, pap, hL0'] | refine WP_drw ?_ | refine cnd_intro (fun hsp => ?_) fun hsp => ?_)
      refine WP_loop (fun σ => ∃ a : Nat, ∃ T2 : Heap, σ.fr 6 = .int .i64 (a : Int) ∧ σ.fr 5 = .int .i64 L ∧ σ.fr 2 = .ptr (some ⟨h.length, 0, 0⟩) ∧ σ.fr 3 = .ptr (some ⟨h.length + 1, 0, 0⟩) ∧ σ.fr 4 = .ptr (some ⟨h.length + 2, 0, 0⟩) ∧ σ.h = h ++ [⟨.cells [.int .i64 w, v] 29 false false, 0⟩] ++ [⟨.cells [.int .i64 w', v'] 29 false false, 0⟩] ++ [⟨.cells [.int .i64 0, .int .i64 0, .int .i64 0, .bool false] 84 false false, 0⟩] ++ T2 ∧ a ≤ p.length ∧ (∀ a', a' < a → ∀ b k, runB p q a' b k L = false)) (fun σ => match σ.fr 6 with | .int _ x => (((p.length : Nat) : Int) - x).toNat | _ => 0) ?_ ?_
      · refine ⟨0, T, ?_, ?_, ?_, ?_, ?_, ?_, by omega, ?_⟩
        iterate 5 focus (first | rfl | (simp (disch := first | exact dschR9 | fail) only [go_sem, Int.natCast_zero, r5, r2, r3, r4]; first | done | rfl))
        · rfl
        · intro a' ha'; omega
      · rintro ⟨fr, hp⟩ ⟨a, T2, r6, r5, r2, r3, r4, rh, hi, hP⟩
        dsimp only at r6 r5 r2 r3 r4 rh hi hP
        subst rh
        have q6 := r6
        have hPa := hP
        by_cases hap : (a : Int) < p.length
        · have hap' : ((a : Int) < p.length) = True := eq_true hap
          have hsp := @Nat.succ_ne_zero; repeat' (first | simp (disch := first | exact dschR9 | fail) only [go_sem, hsp, r6, r5, r2, r3, r4, pap, hap'] | refine WP_drw ?_ | refine cnd_intro (fun hsp => ?_) fun hsp => ?_)
          refine WP_loop (fun σ => ∃ b : Nat, ∃ T3 : Heap, σ.fr 7 = .int .i64 (b : Int) ∧ σ.fr 6 = .int .i64 a ∧ σ.fr 5 = .int .i64 L ∧ σ.fr 2 = .ptr (some ⟨h.length, 0, 0⟩) ∧ σ.fr 3 = .ptr (some ⟨h.length + 1, 0, 0⟩) ∧ σ.fr 4 = .ptr (some ⟨h.length + 2, 0, 0⟩) ∧ σ.h = h ++ [⟨.cells [.int .i64 w, v] 29 false false, 0⟩] ++ [⟨.cells [.int .i64 w', v'] 29 false false, 0⟩] ++ [⟨.cells [.int .i64 0, .int .i64 0, .int .i64 0, .bool false] 84 false false, 0⟩] ++ T3 ∧ b ≤ q.length ∧ (∀ b', b' < b → ∀ k, runB p q a b' k L = false)) (fun σ => match σ.fr 7 with | .int _ x => (((q.length : Nat) : Int) - x).toNat | _ => 0) ?_ ?_
          · refine ⟨0, T2, ?_, ?_, ?_, ?_, ?_, ?_, ?_, by omega, ?_⟩
            iterate 6 focus (first | rfl | (simp (disch := first | exact dschR9 | fail) only [go_sem, Int.natCast_zero, r6, r5, r2, r3, r4]; first | done | rfl))
            · rfl
            · intro b' hb'; omega
          · rintro ⟨fr, hp⟩ ⟨b, T3, r7, r6, r5, r2, r3, r4, rh, hi, hP⟩
            dsimp only at r7 r6 r5 r2 r3 r4 rh hi hP
            subst rh
            by_cases hbq : (b : Int) < q.length
            · have hbq' : ((b : Int) < q.length) = True := eq_true hbq
              have es : ∀ {k}, shdB p q (a : Int) (b : Int) k L = runB p q a b k L := fun {k} => shd_in (by omega) (by omega)
              have hit : ∀ {k}, runB p q a b k L = true → (∀ k', ltR a b k' a b k → runB p q a b k' L = false) → shAll p q p.length = (a, b, L, k) := fun {k} h1 h2 => by
                refine sh_hit (by omega) h1 (hno (L + 1) (by omega)) fun a' b' k' h3 => ?_
                rcases h3 with h3 | ⟨rfl, h3 | ⟨rfl, h3⟩⟩
                · exact hPa a' h3 b' k'
                · exact hP b' h3 k'
                · exact h2 k' (.inr ⟨rfl, .inr ⟨rfl, h3⟩⟩)
              cases hb1 : runB p q a b false L with
              | true =>
                rw [hit hb1 fun k' hk => by simp [ltR] at hk]
                have hsp := @Nat.succ_ne_zero; repeat' (first | simp (disch := first | exact dschR9 | fail) only [go_sem, hsp, r7, r6, r5, r2, r3, r4, pap, runV, hbq', es, hb1] | refine WP_drw ?_ | refine cnd_intro (fun hsp => ?_) fun hsp => ?_)
                exact fin_pl rfl rfl (by repeat' first | exact Ext.refl | refine Ext.app ?_)
              | false =>
                cases hb2 : runB p q a b true L with
                | true =>
                  rw [hit hb2 fun k' hk => by
                    cases k' with
                    | false => exact hb1
                    | true => simp [ltR] at hk]
                  have hsp := @Nat.succ_ne_zero; repeat' (first | simp (disch := first | exact dschR9 | fail) only [go_sem, hsp, r7, r6, r5, r2, r3, r4, pap, runV, hbq', es, hb1, hb2] | refine WP_drw ?_ | refine cnd_intro (fun hsp => ?_) fun hsp => ?_)
                  exact fin_pl rfl rfl (by repeat' first | exact Ext.refl | refine Ext.app ?_)
                | false =>
                  have hsp := @Nat.succ_ne_zero; repeat' (first | simp (disch := first | exact dschR9 | fail) only [go_sem, hsp, r7, r6, r5, r2, r3, r4, pap, runV, hbq', es, hb1, hb2] | refine WP_drw ?_ | refine cnd_intro (fun hsp => ?_) fun hsp => ?_)
                  refine ⟨⟨b + 1, T3 ++ [⟨.cells [.int .i64 a, .int .i64 b, .int .i64 L, .bool false] 84 false false, 0⟩] ++ [⟨.cells [.int .i64 a, .int .i64 b, .int .i64 L, .bool true] 84 false false, 0⟩], by simp, by simp only [List.append_assoc], by omega, fun b' hb' k' => ?_⟩, by omega⟩
                  by_cases e : b' = b
                  · subst e
                    cases k' with
                    | false => exact hb1
                    | true => exact hb2
                  · exact hP b' (by omega) k'
            · have hbq' : ((b : Int) < q.length) = False := eq_false hbq
              have hsp := @Nat.succ_ne_zero; repeat' (first | simp (disch := first | exact dschR9 | fail) only [go_sem, hsp, r7, r6, r5, r2, r3, r4, pap, hbq'] | refine WP_drw ?_ | refine cnd_intro (fun hsp => ?_) fun hsp => ?_)
              refine ⟨⟨a + 1, T3, by simp, rfl, by omega, fun a' ha' b' k' => ?_⟩, ?_⟩
              · by_cases e : a' = a
                · subst e
                  by_cases e2 : b' < b
                  · exact hP b' e2 k'
                  · exact runB_out (by omega) (by omega)
                · exact hPa a' (by omega) b' k'
              · rw [q6]; dsimp only; omega
        · have hap' : ((a : Int) < p.length) = False := eq_false hap
          have hsp := @Nat.succ_ne_zero; repeat' (first | simp (disch := first | exact dschR9 | fail) only [go_sem, hsp, r6, r5, r2, r3, r4, pap, hap'] | refine WP_drw ?_ | refine cnd_intro (fun hsp => ?_) fun hsp => ?_)
          refine ⟨⟨L - 1, T2, by omega, ?_, rfl, fun L' hL' a' b' k' => ?_⟩, ?_⟩
          · congr 1; omega
          · by_cases e : L' = L
            · subst e
              by_cases e2 : a' < a
              · exact hP a' e2 b' k'
              · exact runB_out (by omega) (by omega)
            · exact hno L' (by omega) a' b' k'
          · rw [q5]; dsimp only; omega
    · have hL0' : ((L : Int) > 0) = False := eq_false hL0
      rw [sh_miss fun a b k => hno 1 (by omega) a b k]
      have hsp := @Nat.succ_ne_zero; repeat' (first | simp (disch := first | exact dschR9 | fail) only [go_sem, hsp, r5, r2, r3, r4, pap, hL0'] | refine WP_drw ?_ | refine cnd_intro (fun hsp => ?_) fun hsp => ?_)
      exact fin_pl rfl rfl (by repeat' first | exact Ext.refl | refine Ext.app ?_)
attribute [go_sem] run57
end Go.AM
