/-
  Contracts: two patterns; after how many throws a ribbon repeats.
-/
import Derived.Test.YtppkmjfplhenmaaD9
set_option linter.unusedSimpArgs false
set_option linter.unusedVariables false
namespace Go.AM
open Go.Proofs.Try
theorem dschD10 {p : Prop} (h : p := by first | exact Nat.ne_of_beq_eq_false rfl | assumption | (apply asOne; (first | exact One.int | exact One.bool | exact newV_one | exact grV_one | exact cloneV_one | exact takF_one | assumption | exact Ints.one (by assumption) | exact slcV_one (by assumption) | exact One.lit ⟨rfl, rfl, rfl⟩)) | (apply asInts; (repeat first | assumption | (apply newV_ints' <;> first | assumption | (first | rfl | (simp only [List.length_append, List.length_cons, List.length_nil, List.length_set]; done) | (simp only [List.length_append, List.length_cons, List.length_nil, List.length_set]; omega))) | (apply grV_ints <;> first | assumption | (first | rfl | (simp only [List.length_append, List.length_cons, List.length_nil, List.length_set]; done) | (simp only [List.length_append, List.length_cons, List.length_nil, List.length_set]; omega))) | (apply Ints.slc <;> first | (repeat first | assumption | apply Ints.app); done | omega) | apply Ints.app); done) | (apply asTak; (repeat first | assumption | (refine TakAt.new ?_; (first | rfl | (simp only [List.length_append, List.length_cons, List.length_nil, List.length_set]; done) | (simp only [List.length_append, List.length_cons, List.length_nil, List.length_set]; omega))) | apply TakAt.app); done) | (apply asScal; (first | apply allS1 | apply allS2 | apply allS3 | apply allS4) <;> (first | exact One.int | exact One.bool | exact newV_one | exact grV_one | exact cloneV_one | exact takF_one | assumption | exact Ints.one (by assumption) | exact slcV_one (by assumption) | exact One.lit ⟨rfl, rfl, rfl⟩)) | exact litT rfl | exact litF rfl | omega | (simp only [List.length_append, List.length_cons, List.length_nil, lst_len, List.length_set, ints_length, List.length_reverse]; first | done | omega) | fail) : p := h

/-- card.both. -/
def bothS (w : Int) (l : List Int) (w' : Int) (l' : List Int) : Int := if chk w l ≠ 0 then chk w l else if chk w' l' ≠ 0 then chk w' l' else if w ≠ w' then 7 else 0

theorem run103 {base : Nat} {h : Heap} {v v' : AVal} {l l' : List Int} {w w' : Int} (hI : Ints h v l) (hI' : Ints h v' l') :
    callL prog raw base (.fn 103 [] []) [pap w v, pap w' v'] h = some (.int .i64 (bothS w l w' l'), h) := by
  have bs : ∀ {lit : Bool} {H : Heap}, bsA prog lit H 150 2 [(0, pap w v), (1, pap w' v')] = some (.slice (some ⟨H.length, 0, 0⟩) 2 2, H ++ [⟨.cells [.int .i64 w, v, .int .i64 w', v'] 24 true false, 0⟩]) := fun {lit H} => by
    simp [bsA, rowOf, Fc.el150, fillA, repCells, isN_agg, cells_agg, splice]
  refine callL_run func103 rfl rfl ?_
  by_cases hc : chk w l = 0
  · by_cases hc' : chk w' l' = 0
    · by_cases hw : w = w'
      · subst hw
        have hsp := @Nat.succ_ne_zero; repeat' (first | simp (disch := first | exact dschD10 | fail) only [go_sem, hsp, pap, bs, hc, hc'] | refine WP_drw ?_ | refine cnd_intro (fun hsp => ?_) fun hsp => ?_)
        rw [WP_loop1]; have hsp := @Nat.succ_ne_zero; repeat' (first | simp (disch := first | exact dschD10 | fail) only [go_sem, hsp, pap, bs, hc, hc'] | refine WP_drw ?_ | refine cnd_intro (fun hsp => ?_) fun hsp => ?_)
        rw [WP_loop1]; have hsp := @Nat.succ_ne_zero; repeat' (first | simp (disch := first | exact dschD10 | fail) only [go_sem, hsp, pap, bs, hc, hc'] | refine WP_drw ?_ | refine cnd_intro (fun hsp => ?_) fun hsp => ?_)
        rw [WP_loop1]; have hsp := @Nat.succ_ne_zero; repeat' (first | simp (disch := first | exact dschD10 | fail) only [go_sem, hsp, pap, bs, hc, hc'] | refine WP_drw ?_ | refine cnd_intro (fun hsp => ?_) fun hsp => ?_)
        rw [bothS, if_neg (by simp [hc]), if_neg (by simp [hc']), if_neg (by simp)]
        all_goals (first | refine fI ?_ | refine fB ?_ | refine fII ?_ ?_ | refine fBI ?_ ?_ | refine fIII ?_ ?_ ?_ | refine fIIB ?_ ?_ ?_ | skip); all_goals (try dsimp only); all_goals (try with_reducible rfl); all_goals (try omega)
      · have hsp := @Nat.succ_ne_zero; repeat' (first | simp (disch := first | exact dschD10 | fail) only [go_sem, hsp, pap, bs, hc, hc', hw] | refine WP_drw ?_ | refine cnd_intro (fun hsp => ?_) fun hsp => ?_)
        rw [WP_loop1]; have hsp := @Nat.succ_ne_zero; repeat' (first | simp (disch := first | exact dschD10 | fail) only [go_sem, hsp, pap, bs, hc, hc', hw] | refine WP_drw ?_ | refine cnd_intro (fun hsp => ?_) fun hsp => ?_)
        rw [WP_loop1]; have hsp := @Nat.succ_ne_zero; repeat' (first | simp (disch := first | exact dschD10 | fail) only [go_sem, hsp, pap, bs, hc, hc', hw] | refine WP_drw ?_ | refine cnd_intro (fun hsp => ?_) fun hsp => ?_)
        rw [WP_loop1]; have hsp := @Nat.succ_ne_zero; repeat' (first | simp (disch := first | exact dschD10 | fail) only [go_sem, hsp, pap, bs, hc, hc', hw] | refine WP_drw ?_ | refine cnd_intro (fun hsp => ?_) fun hsp => ?_)
        rw [bothS, if_neg (by simp [hc]), if_neg (by simp [hc']), if_pos hw]
        all_goals (first | refine fI ?_ | refine fB ?_ | refine fII ?_ ?_ | refine fBI ?_ ?_ | refine fIII ?_ ?_ ?_ | refine fIIB ?_ ?_ ?_ | skip); all_goals (try dsimp only); all_goals (try with_reducible rfl); all_goals (try omega)
    · have hsp := @Nat.succ_ne_zero; repeat' (first | simp (disch := first | exact dschD10 | fail) only [go_sem, hsp, pap, bs, hc, hc'] | refine WP_drw ?_ | refine cnd_intro (fun hsp => ?_) fun hsp => ?_)
      rw [WP_loop1]; have hsp := @Nat.succ_ne_zero; repeat' (first | simp (disch := first | exact dschD10 | fail) only [go_sem, hsp, pap, bs, hc, hc'] | refine WP_drw ?_ | refine cnd_intro (fun hsp => ?_) fun hsp => ?_)
      rw [WP_loop1]; have hsp := @Nat.succ_ne_zero; repeat' (first | simp (disch := first | exact dschD10 | fail) only [go_sem, hsp, pap, bs, hc, hc'] | refine WP_drw ?_ | refine cnd_intro (fun hsp => ?_) fun hsp => ?_)
      rw [bothS, if_neg (by simp [hc]), if_pos hc']
      all_goals (first | refine fI ?_ | refine fB ?_ | refine fII ?_ ?_ | refine fBI ?_ ?_ | refine fIII ?_ ?_ ?_ | refine fIIB ?_ ?_ ?_ | skip); all_goals (try dsimp only); all_goals (try with_reducible rfl); all_goals (try omega)
  · have hsp := @Nat.succ_ne_zero; repeat' (first | simp (disch := first | exact dschD10 | fail) only [go_sem, hsp, pap, bs, hc] | refine WP_drw ?_ | refine cnd_intro (fun hsp => ?_) fun hsp => ?_)
    rw [WP_loop1]; have hsp := @Nat.succ_ne_zero; repeat' (first | simp (disch := first | exact dschD10 | fail) only [go_sem, hsp, pap, bs, hc] | refine WP_drw ?_ | refine cnd_intro (fun hsp => ?_) fun hsp => ?_)
    rw [bothS, if_pos hc]
    all_goals (first | refine fI ?_ | refine fB ?_ | refine fII ?_ ?_ | refine fBI ?_ ?_ | refine fIII ?_ ?_ ?_ | refine fIIB ?_ ?_ ?_ | skip); all_goals (try dsimp only); all_goals (try with_reducible rfl); all_goals (try omega)
attribute [go_sem] run103

/-! ### Period -/
/-- After how many throws a ribbon surely repeats. -/
def rndN (k n w : Nat) : Nat := if k = 1 then max 1 (2 * n - 2) else if k = 2 then n * w else n
theorem rnd_eq {k w : Int} {n : Nat} (hn : 1 ≤ n) (hk : 0 ≤ k) (hw : 0 ≤ w) : rnd k n w = ((rndN k.toNat n w.toNat : Nat) : Int) := by
  unfold rnd rndN
  by_cases h1 : k = 1
  · subst h1
    rw [if_pos rfl, if_pos (show (1 : Int).toNat = 1 from rfl)]
    rw [Int.max_def, Nat.max_def]
    split <;> split <;> omega
  · rw [if_neg h1, if_neg (show ¬ k.toNat = 1 by omega)]
    by_cases h2 : k = 2
    · subst h2
      rw [if_pos rfl, if_pos (show (2 : Int).toNat = 2 from rfl), Int.natCast_mul]
      congr 1; omega
    · rw [if_neg h2, if_neg (show ¬ k.toNat = 2 by omega)]
theorem rndN_bd {k n w : Nat} (hn : 1 ≤ n) (hn' : n ≤ 48) (hw : 1 ≤ w) (hw' : w ≤ 8) : 1 ≤ rndN k n w ∧ rndN k n w ≤ 384 := by
  unfold rndN
  split
  · omega
  · split
    · have h1 : n * w ≤ 48 * 8 := Nat.mul_le_mul hn' hw'
      have h2 : 1 * 1 ≤ n * w := Nat.mul_le_mul hn hw
      omega
    · omega

/-- Does a ribbon repeat after n throws, as far as m throws show? -/
def repB (w : Nat) (l : List Int) (k s m n : Nat) : Bool := decide (∀ t, t < m → liftN w l k s t = liftN w l k s (t + n))
theorem repB_zero {w : Nat} {l : List Int} {k s n : Nat} : repB w l k s 0 n = true := by simp [repB]
theorem repB_succ {w : Nat} {l : List Int} {k s m n : Nat} : repB w l k s (m + 1) n = (repB w l k s m n && decide (liftN w l k s m = liftN w l k s (m + n))) := by
  unfold repB
  rw [Bool.eq_iff_iff, Bool.and_eq_true, decide_eq_true_iff, decide_eq_true_iff, decide_eq_true_iff]
  constructor
  · intro h
    exact ⟨fun t ht => h t (by omega), h m (by omega)⟩
  · rintro ⟨h1, h2⟩ t ht
    by_cases e : t = m
    · subst e; exact h2
    · exact h1 t (by omega)
/-- The least number of throws after which a ribbon repeats. -/
def perN (w : Nat) (l : List Int) (k s : Nat) : Nat :=
  match findI (fun m => decide (rndN k l.length w % (m + 1) = 0) && repB w l k s (rndN k l.length w) (m + 1)) (rndN k l.length w - 1) with | some m => m + 1 | none => rndN k l.length w
/-- card.Period. -/
def perS (w : Int) (l : List Int) (k s : Int) : Int × Int := if chkC w l k s ≠ 0 then (0, chkC w l k s) else (((perN w.toNat l k.toNat s.toNat : Nat) : Int), 0)

theorem run38 {base : Nat} {h : Heap} {v : AVal} {l : List Int} {w k s : Int} (hI : Ints h v l) :
    callL prog raw base (.fn 38 [] []) [chn w v k s] h = some (tup2 (perS w l k s), h) := by
  refine callL_run func38 rfl rfl ?_
  by_cases hc : chkC w l k s = 0
  · obtain ⟨hw, hn, hk, hs, _, hx⟩ := chkC_ok hc
    have e : perS w l k s = (((perN w.toNat l k.toNat s.toNat : Nat) : Int), 0) := by unfold perS; rw [if_neg (by simp [hc])]
    have hr := rnd_eq (k := k) (w := w) (n := l.length) (by omega) (by omega) (by omega)
    have hb := rndN_bd (k := k.toNat) (n := l.length) (w := w.toNat) (by omega) (by omega) (by omega) (by omega)
    have hl1 : l.length ≤ 1000 := by omega
    rw [e]
    unfold tup2
    generalize hR : rndN k.toNat l.length w.toNat = R at *
    have hsp := @Nat.succ_ne_zero; repeat' (first | simp (disch := first | exact dschD10 | fail) only [go_sem, hsp, chn, hc, hr] | refine WP_drw ?_ | refine cnd_intro (fun hsp => ?_) fun hsp => ?_)
    refine WP_loop (fun σ => ∃ i : Nat, i < R ∧ σ.fr 6 = .int .i64 ((i : Int) + 1) ∧ σ.fr 5 = .int .i64 R ∧ σ.fr 1 = .ptr (some ⟨h.length, 0, 0⟩) ∧ σ.h = h ++ [⟨.cells [.int .i64 w, v, .int .i64 k, .int .i64 s] 34 false false, 0⟩] ∧
      ∀ j, j < i → (decide (R % (j + 1) = 0) && repB w.toNat l k.toNat s.toNat R (j + 1)) = false) (fun σ => match σ.fr 6 with | .int _ x => (R - x).toNat | _ => 0) ?_ ?_
    · refine ⟨0, by omega, by (simp (disch := first | exact dschD10 | fail) only [go_sem, Int.natCast_zero]; first | done | rfl), by (simp (disch := first | exact dschD10 | fail) only [go_sem, Int.natCast_zero]; first | done | rfl), by (simp (disch := first | exact dschD10 | fail) only [go_sem, Int.natCast_zero]; first | done | rfl), rfl, fun j hj => by omega⟩
    · rintro ⟨fr, H⟩ ⟨i, hi, r6, r5, r1, rh, hno⟩
      dsimp only at r6 r5 r1 rh
      subst rh
      have e1 : ((R : Int)).tmod ((i : Int) + 1) = ((R % (i + 1) : Nat) : Int) := by
        rw [show (i : Int) + 1 = ((i + 1 : Nat) : Int) by omega, tmodN]
      have next : (decide (R % (i + 1) = 0) && repB w.toNat l k.toNat s.toNat R (i + 1)) = false → ∀ j, j < i + 1 → (decide (R % (j + 1) = 0) && repB w.toNat l k.toNat s.toNat R (j + 1)) = false := fun hf j hj => by
        by_cases e : j = i
        · subst e; exact hf
        · exact hno j (by omega)
      by_cases hil : i + 1 < R
      · have hil' : ((i : Int) + 1 < R) = True := eq_true (by omega)
        by_cases hm : R % (i + 1) = 0
        · have hsp := @Nat.succ_ne_zero; repeat' (first | simp (disch := first | exact dschD10 | fail) only [go_sem, hsp, r6, r5, r1, chn, e1, hm, hil'] | refine WP_drw ?_ | refine cnd_intro (fun hsp => ?_) fun hsp => ?_)
          have q6 := r6
          refine WP_loop (fun σ => ∃ t : Nat, σ.fr 26 = .int .i64 (t : Int) ∧ σ.fr 25 = .int .i64 R ∧ σ.fr 7 = .bool (repB w.toNat l k.toNat s.toNat t (i + 1)) ∧ σ.fr 6 = .int .i64 ((i : Int) + 1) ∧ σ.fr 5 = .int .i64 R ∧ σ.fr 1 = .ptr (some ⟨h.length, 0, 0⟩) ∧ σ.h = h ++ [⟨.cells [.int .i64 w, v, .int .i64 k, .int .i64 s] 34 false false, 0⟩] ∧ t ≤ R ∧ (True)) (fun σ => match σ.fr 26 with | .int _ x => (((R : Nat) : Int) - x).toNat | _ => 0) ?_ ?_
          · refine ⟨0, ?_, ?_, ?_, ?_, ?_, ?_, ?_, by omega, trivial⟩
            iterate 7 focus (first | rfl | (simp (disch := first | exact dschD10 | fail) only [go_sem, Int.natCast_zero, r6, r5, r1, repB_zero]; first | done | rfl))
          · rintro ⟨fr, hp⟩ ⟨t, r26, r25, r7, r6, r5, r1, rh, hi, hP⟩
            dsimp only at r26 r25 r7 r6 r5 r1 rh hi hP
            subst rh
            have e2 : ((t : Int) + ((i : Int) + 1)).toNat = t + (i + 1) := by omega
            have e3 : (((liftN w.toNat l k.toNat s.toNat t : Nat) : Int) = ((liftN w.toNat l k.toNat s.toNat (t + (i + 1)) : Nat) : Int)) = (liftN w.toNat l k.toNat s.toNat t = liftN w.toNat l k.toNat s.toNat (t + (i + 1))) := propext (by omega)
            cases hb1 : repB w.toNat l k.toNat s.toNat t (i + 1) with
            | true =>
              rw [hb1] at r7
              have hsp := @Nat.succ_ne_zero; repeat' (first | simp (disch := first | exact dschD10 | fail) only [go_sem, hsp, r26, r25, r7, r6, r5, r1, chn, e2, e3] | refine WP_drw ?_ | refine cnd_intro (fun hsp => ?_) fun hsp => ?_)
              · exact ⟨⟨t + 1, by simp, by rw [repB_succ, hb1, Bool.true_and], by omega⟩, by omega⟩
              · have et : t = R := by omega
                rw [et] at hb1
                have ep : perN w.toNat l k.toNat s.toNat = i + 1 := by
                  unfold perN
                  rw [hR, findI_some (t := i) (by omega) (by rw [hb1]; simp [hm]) hno]
                rw [ep]
                all_goals (first | refine fI ?_ | refine fB ?_ | refine fII ?_ ?_ | refine fBI ?_ ?_ | refine fIII ?_ ?_ ?_ | refine fIIB ?_ ?_ ?_ | skip); all_goals (try dsimp only); all_goals (try with_reducible rfl); all_goals (try omega)
            | false =>
              rw [hb1] at r7
              have hsp := @Nat.succ_ne_zero; repeat' (first | simp (disch := first | exact dschD10 | fail) only [go_sem, hsp, r26, r25, r7, r6, r5, r1, chn, e2, e3] | refine WP_drw ?_ | refine cnd_intro (fun hsp => ?_) fun hsp => ?_)
              · exact ⟨⟨t + 1, by simp, by rw [repB_succ, hb1, Bool.false_and], by omega⟩, by omega⟩
              · have et : t = R := by omega
                rw [et] at hb1
                refine ⟨⟨i + 1, by omega, by omega, next (by rw [hb1]; simp)⟩, ?_⟩
                rw [q6]
                dsimp only
                omega
        · have hm' : (((R % (i + 1) : Nat) : Int) = 0) = False := eq_false (by omega)
          have hsp := @Nat.succ_ne_zero; repeat' (first | simp (disch := first | exact dschD10 | fail) only [go_sem, hsp, r6, r5, r1, chn, e1, hm', hil'] | refine WP_drw ?_ | refine cnd_intro (fun hsp => ?_) fun hsp => ?_)
          exact ⟨⟨i + 1, by omega, by omega, next (by simp [hm])⟩, by omega⟩
      · have hil' : ((i : Int) + 1 < R) = False := eq_false (by omega)
        have hsp := @Nat.succ_ne_zero; repeat' (first | simp (disch := first | exact dschD10 | fail) only [go_sem, hsp, r6, r5, r1, chn, hil'] | refine WP_drw ?_ | refine cnd_intro (fun hsp => ?_) fun hsp => ?_)
        have ep : perN w.toNat l k.toNat s.toNat = R := by
          unfold perN
          rw [hR, findI_none fun j hj => hno j (by omega)]
        rw [ep]
        all_goals (first | refine fI ?_ | refine fB ?_ | refine fII ?_ ?_ | refine fBI ?_ ?_ | refine fIII ?_ ?_ ?_ | refine fIIB ?_ ?_ ?_ | skip); all_goals (try dsimp only); all_goals (try with_reducible rfl); all_goals (try omega)
  · have e : perS w l k s = (0, chkC w l k s) := by unfold perS; rw [if_pos hc]
    rw [e]
    unfold tup2
    have hsp := @Nat.succ_ne_zero; repeat' (first | simp (disch := first | exact dschD10 | fail) only [go_sem, hsp, chn, hc] | refine WP_drw ?_ | refine cnd_intro (fun hsp => ?_) fun hsp => ?_)
    all_goals (first | refine fI ?_ | refine fB ?_ | refine fII ?_ ?_ | refine fBI ?_ ?_ | refine fIII ?_ ?_ ?_ | refine fIIB ?_ ?_ ?_ | skip); all_goals (try dsimp only); all_goals (try with_reducible rfl); all_goals (try omega)
attribute [go_sem] run38
end Go.AM
