/-
  Contracts: runs that are shared.
-/
import Derived.Test.YtppkmjfplhenmaaD13
set_option linter.unusedSimpArgs false
set_option linter.unusedVariables false
namespace Go.AM
open Go.Proofs.Try
theorem dschD14 {p : Prop} (h : p := by first | exact Nat.ne_of_beq_eq_false rfl | assumption | (apply asOne; (first | exact One.int | exact One.bool | exact newV_one | exact grV_one | exact cloneV_one | exact takF_one | assumption | exact Ints.one (by assumption) | exact One.lit ⟨rfl, rfl, rfl⟩)) | (apply asInts; (repeat first | assumption | (apply newV_ints' <;> first | assumption | (first | rfl | (simp only [List.length_append, List.length_cons, List.length_nil, List.length_set]; done) | (simp only [List.length_append, List.length_cons, List.length_nil, List.length_set]; omega))) | (apply grV_ints <;> first | assumption | (first | rfl | (simp only [List.length_append, List.length_cons, List.length_nil, List.length_set]; done) | (simp only [List.length_append, List.length_cons, List.length_nil, List.length_set]; omega))) | apply Ints.app); done) | (apply asScal; (first | apply allS1 | apply allS2 | apply allS3 | apply allS4) <;> (first | exact One.int | exact One.bool | exact newV_one | exact grV_one | exact cloneV_one | exact takF_one | assumption | exact Ints.one (by assumption) | exact One.lit ⟨rfl, rfl, rfl⟩)) | exact litT rfl | exact litF rfl | omega | (simp only [List.length_append, List.length_cons, List.length_nil, lst_len, List.length_set, ints_length, List.length_reverse]; first | done | omega) | fail) : p := h

/-- Where a run's n-th throw is in the second pattern. -/
def posI (b : Nat) (back : Bool) (n : Nat) : Int := if back = true then (b : Int) - n else (b : Int) + n
def runAt (p q : List Int) (a b : Nat) (back : Bool) (n : Nat) : Bool := decide (a + n < p.length ∧ (0 ≤ posI b back n ∧ posI b back n < q.length) ∧ p.getD (a + n) 0 = q.getD (posI b back n).toNat 0)
def runB (p q : List Int) (a b : Nat) (back : Bool) (long : Nat) : Bool := decide (∀ n, n < long → runAt p q a b back n = true)
/-- card.Shared. -/
def sharedS (w : Int) (p : List Int) (w' : Int) (q : List Int) (a b long : Int) (back : Bool) : Bool × Int :=
  if bothS w p w' q ≠ 0 then (false, bothS w p w' q) else if ¬ (1 ≤ long ∧ long ≤ 48) then (false, 2) else if ¬ (0 ≤ a ∧ a ≤ 48) ∨ ¬ (0 ≤ b ∧ b ≤ 48) then (false, 0) else
  (runB p q a.toNat b.toNat back long.toNat, 0)
/-- A run. -/
abbrev runV (a b long : Int) (back : Bool) : AVal := .agg [.int .i64 a, .int .i64 b, .int .i64 long, .bool back]

theorem both_ok {w w' : Int} {p q : List Int} (h : bothS w p w' q = 0) : chk w p = 0 ∧ chk w q = 0 ∧ w = w' := by
  unfold bothS at h
  by_cases h1 : chk w p = 0
  · rw [if_neg (by simp [h1])] at h
    by_cases h2 : chk w' q = 0
    · rw [if_neg (by simp [h2])] at h
      by_cases h3 : w = w'
      · subst h3; exact ⟨h1, h2, rfl⟩
      · rw [if_pos h3] at h; cases h
    · rw [if_pos h2] at h; exact absurd h h2
  · rw [if_pos h1] at h; exact absurd h h1

theorem run60 {base : Nat} {h : Heap} {v v' : AVal} {p q : List Int} {w w' a b long : Int} {back : Bool} (hI : Ints h v p) (hI' : Ints h v' q) :
    callL prog raw base (.fn 60 [] []) [pap w v, pap w' v', runV a b long back] h = some (tupBI (sharedS w p w' q a b long back), h) := by
  refine callL_run func60 rfl rfl ?_
  by_cases hc : bothS w p w' q = 0
  · obtain ⟨hc1, hc2, rfl⟩ := both_ok hc
    obtain ⟨hw, hp, hx⟩ := chk_ok hc1
    obtain ⟨_, hp', hx'⟩ := chk_ok hc2
    by_cases hl : 1 ≤ long ∧ long ≤ 48
    · by_cases ha : 0 ≤ a ∧ a ≤ 48
      · by_cases hb : 0 ≤ b ∧ b ≤ 48
        · have e : sharedS w p w q a b long back = (runB p q a.toNat b.toNat back long.toNat, 0) := by
            unfold sharedS; rw [if_neg (by simp [hc]), if_neg (by simp [hl]), if_neg (by omega)]
          rw [e]
          unfold tupBI
          have hsp := @Nat.succ_ne_zero; repeat' (first | simp (disch := first | exact dschD14 | fail) only [go_sem, hsp, pap, runV, hc, hl, ha, hb] | refine WP_drw ?_ | refine cnd_intro (fun hsp => ?_) fun hsp => ?_)
          refine WP_loop (fun σ => ∃ n : Nat, σ.fr 33 = .int .i64 (n : Int) ∧ σ.fr 32 = .int .i64 long ∧ σ.fr 3 = .ptr (some ⟨h.length, 0, 0⟩) ∧ σ.fr 4 = .ptr (some ⟨h.length + 1, 0, 0⟩) ∧ σ.fr 5 = .ptr (some ⟨h.length + 2, 0, 0⟩) ∧ σ.h = h ++ [⟨.cells [.int .i64 w, v] 24 false false, 0⟩] ++ [⟨.cells [.int .i64 w, v'] 24 false false, 0⟩] ++ [⟨.cells [.int .i64 a, .int .i64 b, .int .i64 long, .bool back] 82 false false, 0⟩] ∧ n ≤ long.toNat ∧ (∀ j, j < n → runAt p q a.toNat b.toNat back j = true)) (fun σ => match σ.fr 33 with | .int _ x => (((long.toNat : Nat) : Int) - x).toNat | _ => 0) ?_ ?_
          · refine ⟨0, ?_, ?_, ?_, ?_, ?_, ?_, by omega, ?_⟩
            iterate 6 focus (first | rfl | (simp (disch := first | exact dschD14 | fail) only [go_sem, Int.natCast_zero]; first | done | rfl))
            intro j hj; omega
          · rintro ⟨fr, hp⟩ ⟨n, r33, r32, r3, r4, r5, rh, hi, hP⟩
            dsimp only at r33 r32 r3 r4 r5 rh hi hP
            subst rh
            have next : runAt p q a.toNat b.toNat back n = true → ∀ j, j < n + 1 → runAt p q a.toNat b.toNat back j = true := fun hf j hj => by
              by_cases e : j = n
              · subst e; exact hf
              · exact hP j (by omega)
            have stop : (n : Int) < long → runAt p q a.toNat b.toNat back n = false → false = runB p q a.toNat b.toNat back long.toNat := fun hn hf => by
              unfold runB
              refine (decide_eq_false fun hh => ?_).symm
              have := hh n (by omega)
              rw [hf] at this; cases this
            have ea : (a + (n : Int)).toNat = a.toNat + n := by omega
            have hoff1 : (a + (n : Int) < p.length) = (a.toNat + n < p.length) := propext (by omega)
            cases back with
            | true =>
              have eb : posI b.toNat true n = b - n := by simp only [posI, if_true, Bool.false_eq_true, if_false]; omega
              have fin : ¬ (n : Int) < long → true = runB p q a.toNat b.toNat true long.toNat := fun hn => by
                unfold runB
                exact (decide_eq_true fun j hj => hP j (by omega)).symm
              by_cases g1 : a.toNat + n < p.length
              · have g1' : (0 ≤ a + (n : Int) ∧ a + (n : Int) < p.length) = True := eq_true (by omega)
                by_cases g2 : 0 ≤ b - (n : Int) ∧ b - (n : Int) < q.length
                · have hsp := @Nat.succ_ne_zero; repeat' (first | simp (disch := first | exact dschD14 | fail) only [go_sem, hsp, r33, r32, r3, r4, r5, pap, runV, g1', g2, ea] | refine WP_drw ?_ | refine cnd_intro (fun hsp => ?_) fun hsp => ?_)
                  · refine ⟨⟨n + 1, by simp, by omega, next ?_⟩, by omega⟩
                    unfold runAt
                    rw [eb]
                    exact decide_eq_true ⟨g1, g2, hsp⟩
                  · have hf : runAt p q a.toNat b.toNat true n = false := by
                      unfold runAt
                      rw [eb]
                      exact decide_eq_false fun hh => hsp hh.2.2
                    all_goals (first | refine fI ?_ | refine fB ?_ | refine fII ?_ ?_ | refine fBI ?_ ?_ | refine fIII ?_ ?_ ?_ | refine fIIB ?_ ?_ ?_ | skip); all_goals (try dsimp only); all_goals (try with_reducible rfl); all_goals (try omega)
                    exact stop (by assumption) hf
                  · all_goals (first | refine fI ?_ | refine fB ?_ | refine fII ?_ ?_ | refine fBI ?_ ?_ | refine fIII ?_ ?_ ?_ | refine fIIB ?_ ?_ ?_ | skip); all_goals (try dsimp only); all_goals (try with_reducible rfl); all_goals (try omega)
                    exact fin (by assumption)
                · have hf : runAt p q a.toNat b.toNat true n = false := by
                    unfold runAt
                    rw [eb]
                    exact decide_eq_false fun hh => g2 hh.2.1
                  have hsp := @Nat.succ_ne_zero; repeat' (first | simp (disch := first | exact dschD14 | fail) only [go_sem, hsp, r33, r32, r3, r4, r5, pap, runV, g1', g2, ea] | refine WP_drw ?_ | refine cnd_intro (fun hsp => ?_) fun hsp => ?_)
                  · all_goals (first | refine fI ?_ | refine fB ?_ | refine fII ?_ ?_ | refine fBI ?_ ?_ | refine fIII ?_ ?_ ?_ | refine fIIB ?_ ?_ ?_ | skip); all_goals (try dsimp only); all_goals (try with_reducible rfl); all_goals (try omega)
                    exact stop (by assumption) hf
                  · all_goals (first | refine fI ?_ | refine fB ?_ | refine fII ?_ ?_ | refine fBI ?_ ?_ | refine fIII ?_ ?_ ?_ | refine fIIB ?_ ?_ ?_ | skip); all_goals (try dsimp only); all_goals (try with_reducible rfl); all_goals (try omega)
                    exact fin (by assumption)
              · have g1' : (0 ≤ a + (n : Int) ∧ a + (n : Int) < p.length) = False := eq_false (by omega)
                have hf : runAt p q a.toNat b.toNat true n = false := by
                  unfold runAt
                  exact decide_eq_false fun hh => g1 hh.1
                have hsp := @Nat.succ_ne_zero; repeat' (first | simp (disch := first | exact dschD14 | fail) only [go_sem, hsp, r33, r32, r3, r4, r5, pap, runV, g1', ea] | refine WP_drw ?_ | refine cnd_intro (fun hsp => ?_) fun hsp => ?_)
                · all_goals (first | refine fI ?_ | refine fB ?_ | refine fII ?_ ?_ | refine fBI ?_ ?_ | refine fIII ?_ ?_ ?_ | refine fIIB ?_ ?_ ?_ | skip); all_goals (try dsimp only); all_goals (try with_reducible rfl); all_goals (try omega)
                  exact stop (by assumption) hf
                · all_goals (first | refine fI ?_ | refine fB ?_ | refine fII ?_ ?_ | refine fBI ?_ ?_ | refine fIII ?_ ?_ ?_ | refine fIIB ?_ ?_ ?_ | skip); all_goals (try dsimp only); all_goals (try with_reducible rfl); all_goals (try omega)
                  exact fin (by assumption)
            | false =>
              have eb : posI b.toNat false n = b + n := by simp only [posI, if_true, Bool.false_eq_true, if_false]; omega
              have fin : ¬ (n : Int) < long → true = runB p q a.toNat b.toNat false long.toNat := fun hn => by
                unfold runB
                exact (decide_eq_true fun j hj => hP j (by omega)).symm
              by_cases g1 : a.toNat + n < p.length
              · have g1' : (0 ≤ a + (n : Int) ∧ a + (n : Int) < p.length) = True := eq_true (by omega)
                by_cases g2 : 0 ≤ b + (n : Int) ∧ b + (n : Int) < q.length
                · have hsp := @Nat.succ_ne_zero; repeat' (first | simp (disch := first | exact dschD14 | fail) only [go_sem, hsp, r33, r32, r3, r4, r5, pap, runV, g1', g2, ea] | refine WP_drw ?_ | refine cnd_intro (fun hsp => ?_) fun hsp => ?_)
                  · refine ⟨⟨n + 1, by simp, by omega, next ?_⟩, by omega⟩
                    unfold runAt
                    rw [eb]
                    exact decide_eq_true ⟨g1, g2, hsp⟩
                  · have hf : runAt p q a.toNat b.toNat false n = false := by
                      unfold runAt
                      rw [eb]
                      exact decide_eq_false fun hh => hsp hh.2.2
                    all_goals (first | refine fI ?_ | refine fB ?_ | refine fII ?_ ?_ | refine fBI ?_ ?_ | refine fIII ?_ ?_ ?_ | refine fIIB ?_ ?_ ?_ | skip); all_goals (try dsimp only); all_goals (try with_reducible rfl); all_goals (try omega)
                    exact stop (by assumption) hf
                  · all_goals (first | refine fI ?_ | refine fB ?_ | refine fII ?_ ?_ | refine fBI ?_ ?_ | refine fIII ?_ ?_ ?_ | refine fIIB ?_ ?_ ?_ | skip); all_goals (try dsimp only); all_goals (try with_reducible rfl); all_goals (try omega)
                    exact fin (by assumption)
                · have hf : runAt p q a.toNat b.toNat false n = false := by
                    unfold runAt
                    rw [eb]
                    exact decide_eq_false fun hh => g2 hh.2.1
                  have hsp := @Nat.succ_ne_zero; repeat' (first | simp (disch := first | exact dschD14 | fail) only [go_sem, hsp, r33, r32, r3, r4, r5, pap, runV, g1', g2, ea] | refine WP_drw ?_ | refine cnd_intro (fun hsp => ?_) fun hsp => ?_)
                  · all_goals (first | refine fI ?_ | refine fB ?_ | refine fII ?_ ?_ | refine fBI ?_ ?_ | refine fIII ?_ ?_ ?_ | refine fIIB ?_ ?_ ?_ | skip); all_goals (try dsimp only); all_goals (try with_reducible rfl); all_goals (try omega)
                    exact stop (by assumption) hf
                  · all_goals (first | refine fI ?_ | refine fB ?_ | refine fII ?_ ?_ | refine fBI ?_ ?_ | refine fIII ?_ ?_ ?_ | refine fIIB ?_ ?_ ?_ | skip); all_goals (try dsimp only); all_goals (try with_reducible rfl); all_goals (try omega)
                    exact fin (by assumption)
              · have g1' : (0 ≤ a + (n : Int) ∧ a + (n : Int) < p.length) = False := eq_false (by omega)
                have hf : runAt p q a.toNat b.toNat false n = false := by
                  unfold runAt
                  exact decide_eq_false fun hh => g1 hh.1
                have hsp := @Nat.succ_ne_zero; repeat' (first | simp (disch := first | exact dschD14 | fail) only [go_sem, hsp, r33, r32, r3, r4, r5, pap, runV, g1', ea] | refine WP_drw ?_ | refine cnd_intro (fun hsp => ?_) fun hsp => ?_)
                · all_goals (first | refine fI ?_ | refine fB ?_ | refine fII ?_ ?_ | refine fBI ?_ ?_ | refine fIII ?_ ?_ ?_ | refine fIIB ?_ ?_ ?_ | skip); all_goals (try dsimp only); all_goals (try with_reducible rfl); all_goals (try omega)
                  exact stop (by assumption) hf
                · all_goals (first | refine fI ?_ | refine fB ?_ | refine fII ?_ ?_ | refine fBI ?_ ?_ | refine fIII ?_ ?_ ?_ | refine fIIB ?_ ?_ ?_ | skip); all_goals (try dsimp only); all_goals (try with_reducible rfl); all_goals (try omega)
                  exact fin (by assumption)
        · unfold tupBI
          rw [sharedS, if_neg (by simp [hc]), if_neg (by simp [hl]), if_pos (.inr hb)]
          have hsp := @Nat.succ_ne_zero; repeat' (first | simp (disch := first | exact dschD14 | fail) only [go_sem, hsp, pap, runV, hc, hl, ha, hb] | refine WP_drw ?_ | refine cnd_intro (fun hsp => ?_) fun hsp => ?_)
          all_goals (first | refine fI ?_ | refine fB ?_ | refine fII ?_ ?_ | refine fBI ?_ ?_ | refine fIII ?_ ?_ ?_ | refine fIIB ?_ ?_ ?_ | skip); all_goals (try dsimp only); all_goals (try with_reducible rfl); all_goals (try omega)
      · unfold tupBI
        rw [sharedS, if_neg (by simp [hc]), if_neg (by simp [hl]), if_pos (.inl ha)]
        have hsp := @Nat.succ_ne_zero; repeat' (first | simp (disch := first | exact dschD14 | fail) only [go_sem, hsp, pap, runV, hc, hl, ha] | refine WP_drw ?_ | refine cnd_intro (fun hsp => ?_) fun hsp => ?_)
        all_goals (first | refine fI ?_ | refine fB ?_ | refine fII ?_ ?_ | refine fBI ?_ ?_ | refine fIII ?_ ?_ ?_ | refine fIIB ?_ ?_ ?_ | skip); all_goals (try dsimp only); all_goals (try with_reducible rfl); all_goals (try omega)
    · unfold tupBI
      rw [sharedS, if_neg (by simp [hc]), if_pos hl]
      have hsp := @Nat.succ_ne_zero; repeat' (first | simp (disch := first | exact dschD14 | fail) only [go_sem, hsp, pap, runV, hc, hl] | refine WP_drw ?_ | refine cnd_intro (fun hsp => ?_) fun hsp => ?_)
      all_goals (first | refine fI ?_ | refine fB ?_ | refine fII ?_ ?_ | refine fBI ?_ ?_ | refine fIII ?_ ?_ ?_ | refine fIIB ?_ ?_ ?_ | skip); all_goals (try dsimp only); all_goals (try with_reducible rfl); all_goals (try omega)
  · unfold tupBI
    rw [sharedS, if_pos hc]
    have hsp := @Nat.succ_ne_zero; repeat' (first | simp (disch := first | exact dschD14 | fail) only [go_sem, hsp, pap, runV, hc] | refine WP_drw ?_ | refine cnd_intro (fun hsp => ?_) fun hsp => ?_)
    all_goals (first | refine fI ?_ | refine fB ?_ | refine fII ?_ ?_ | refine fBI ?_ ?_ | refine fIII ?_ ?_ ?_ | refine fIIB ?_ ?_ ?_ | skip); all_goals (try dsimp only); all_goals (try with_reducible rfl); all_goals (try omega)
attribute [go_sem] run60
end Go.AM
