/-
  Contracts of the reference: periods, where ribbons differ.
-/
import Derived.Test.YtppkmjfplhenmaaR4
set_option linter.unusedSimpArgs false
set_option linter.unusedVariables false
namespace Go.AM
open Go.Proofs.Try
theorem dschR6 {p : Prop} (h : p := by first | exact Nat.ne_of_beq_eq_false rfl | assumption | (apply asOne; (first | exact One.int | exact One.bool | exact newV_one | exact grV_one | exact cloneV_one | exact takF_one | assumption | exact Ints.one (by assumption) | exact One.lit ⟨rfl, rfl, rfl⟩)) | (apply asInts; (repeat first | assumption | (apply newV_ints' <;> first | assumption | (first | rfl | (simp only [List.length_append, List.length_cons, List.length_nil, List.length_set]; done) | (simp only [List.length_append, List.length_cons, List.length_nil, List.length_set]; omega))) | (apply grV_ints <;> first | assumption | (first | rfl | (simp only [List.length_append, List.length_cons, List.length_nil, List.length_set]; done) | (simp only [List.length_append, List.length_cons, List.length_nil, List.length_set]; omega))) | apply Ints.app); done) | (apply asScal; (first | apply allS1 | apply allS2 | apply allS3 | apply allS4) <;> (first | exact One.int | exact One.bool | exact newV_one | exact grV_one | exact cloneV_one | exact takF_one | assumption | exact Ints.one (by assumption) | exact One.lit ⟨rfl, rfl, rfl⟩)) | exact litT rfl | exact litF rfl | omega | (simp only [List.length_append, List.length_cons, List.length_nil, lst_len, List.length_set, ints_length, List.length_reverse]; first | done | omega) | fail) : p := h

theorem run102 {base : Nat} {h : Heap} {v : AVal} {l : List Int} {w k s : Int} (hI : Ints h v l) (hl : l.length ≤ 1000) (hw : 0 ≤ w ∧ w ≤ 100) :
    callL prog raw base (.fn 102 [] []) [chn w v k s] h = some (.int .i64 ((2 * l.length * w.toNat : Nat) : Int), h) := by
  obtain ⟨w, rfl⟩ := Int.eq_ofNat_of_zero_le hw.1
  simp only [Int.toNat_natCast]
  have h1 : 2 * l.length * w ≤ 2000 * 100 := Nat.mul_le_mul (by omega) (by omega)
  have h2 : (2 * (l.length : Int)) * (w : Int) = ((2 * l.length * w : Nat) : Int) := by simp [Int.natCast_mul]
  generalize 2 * l.length * w = m at *
  refine callL_run func102 rfl rfl ?_
  have hsp := @Nat.succ_ne_zero; repeat' (first | simp (disch := first | exact dschR6 | fail) only [go_sem, hsp, chn, h2] | refine WP_drw ?_ | refine cnd_intro (fun hsp => ?_) fun hsp => ?_)
  all_goals (first | refine fI ?_ | refine fB ?_ | refine fII ?_ ?_ | refine fBI ?_ ?_ | refine fIII ?_ ?_ ?_ | refine fIIB ?_ ?_ ?_ | skip); all_goals (try dsimp only); all_goals (try with_reducible rfl); all_goals (try omega)
attribute [go_sem] run102

/-- petershamref02.period. -/
def perM (w : Nat) (l : List Int) (k s m : Nat) : Nat := match findI (fun n => repB w l k s m (n + 1)) (m - 1) with | some n => n + 1 | none => m

theorem run101 {base : Nat} {h : Heap} {v : AVal} {l : List Int} {w k s m : Int} (hI : Ints h v l) (hc : chkC w l k s = 0) (hm : 1 ≤ m ∧ m ≤ 1000) :
    callL prog raw base (.fn 101 [] []) [chn w v k s, .int .i64 m] h = some (.int .i64 ((perM w.toNat l k.toNat s.toNat m.toNat : Nat) : Int), h) := by
  obtain ⟨m, rfl⟩ := Int.eq_ofNat_of_zero_le (show 0 ≤ m by omega)
  simp only [Int.toNat_natCast]
  refine callL_run func101 rfl rfl ?_
  have hsp := @Nat.succ_ne_zero; repeat' (first | simp (disch := first | exact dschR6 | fail) only [go_sem, hsp, chn] | refine WP_drw ?_ | refine cnd_intro (fun hsp => ?_) fun hsp => ?_)
  refine WP_loop (fun σ => ∃ n : Nat, σ.fr 5 = .int .i64 (n : Int) ∧ σ.fr 1 = .int .i64 m ∧ σ.fr 2 = .ptr (some ⟨h.length, 0, 0⟩) ∧ σ.h = h ++ [⟨.cells [.int .i64 w, v, .int .i64 k, .int .i64 s] 40 false false, 0⟩] ∧ n ≤ m ∧ (1 ≤ n ∧ ∀ j, j < n - 1 → repB w.toNat l k.toNat s.toNat m (j + 1) = false)) (fun σ => match σ.fr 5 with | .int _ x => (((m : Nat) : Int) - x).toNat | _ => 0) ?_ ?_
  · refine ⟨1, ?_, ?_, ?_, ?_, by omega, ?_⟩
    iterate 4 focus (first | rfl | (simp (disch := first | exact dschR6 | fail) only [go_sem, Int.natCast_zero]; first | done | rfl))
    exact ⟨by omega, fun j hj => by omega⟩
  · rintro ⟨fr, hp⟩ ⟨n, r5, r1, r2, rh, hi, hP⟩
    dsimp only at r5 r1 r2 rh hi hP
    subst rh
    obtain ⟨hn1, hno⟩ := hP
    have q5 := r5
    by_cases hnm : (n : Int) < m
    · have hnm' : ((n : Int) < m) = True := eq_true hnm
      have hsp := @Nat.succ_ne_zero; repeat' (first | simp (disch := first | exact dschR6 | fail) only [go_sem, hsp, r5, r1, r2, chn, hnm'] | refine WP_drw ?_ | refine cnd_intro (fun hsp => ?_) fun hsp => ?_)
      refine WP_loop (fun σ => ∃ t : Nat, σ.fr 7 = .int .i64 (t : Int) ∧ σ.fr 6 = .bool (repB w.toNat l k.toNat s.toNat t n) ∧ σ.fr 5 = .int .i64 n ∧ σ.fr 1 = .int .i64 m ∧ σ.fr 2 = .ptr (some ⟨h.length, 0, 0⟩) ∧ σ.h = h ++ [⟨.cells [.int .i64 w, v, .int .i64 k, .int .i64 s] 40 false false, 0⟩] ∧ t ≤ m ∧ (True)) (fun σ => match σ.fr 7 with | .int _ x => (((m : Nat) : Int) - x).toNat | _ => 0) ?_ ?_
      · refine ⟨0, ?_, ?_, ?_, ?_, ?_, ?_, by omega, trivial⟩
        iterate 6 focus (first | rfl | (simp (disch := first | exact dschR6 | fail) only [go_sem, Int.natCast_zero, r5, r1, r2, repB_zero]; first | done | rfl))
      · rintro ⟨fr, hp⟩ ⟨t, r7, r6, r5, r1, r2, rh, hi, hP⟩
        dsimp only at r7 r6 r5 r1 r2 rh hi hP
        subst rh
        have e2 : ((t : Int) + (n : Int)).toNat = t + n := by omega
        have e3 : (((liftN w.toNat l k.toNat s.toNat t : Nat) : Int) = ((liftN w.toNat l k.toNat s.toNat (t + n) : Nat) : Int)) = (liftN w.toNat l k.toNat s.toNat t = liftN w.toNat l k.toNat s.toNat (t + n)) := propext (by omega)
        have next : repB w.toNat l k.toNat s.toNat m n = false → ∀ j, j < n + 1 - 1 → repB w.toNat l k.toNat s.toNat m (j + 1) = false := fun hf j hj => by
          by_cases e : j = n - 1
          · subst e; rwa [show n - 1 + 1 = n by omega]
          · exact hno j (by omega)
        cases hb1 : repB w.toNat l k.toNat s.toNat t n with
        | true =>
          rw [hb1] at r6
          have hsp := @Nat.succ_ne_zero; repeat' (first | simp (disch := first | exact dschR6 | fail) only [go_sem, hsp, r7, r6, r5, r1, r2, chn, e2, e3] | refine WP_drw ?_ | refine cnd_intro (fun hsp => ?_) fun hsp => ?_)
          · exact ⟨⟨t + 1, by simp, by rw [repB_succ, hb1, Bool.true_and], by omega⟩, by omega⟩
          · have et : t = m := by omega
            rw [et] at hb1
            have ep : perM w.toNat l k.toNat s.toNat m = n := by
              unfold perM
              rw [findI_some (t := n - 1) (by omega) (by rw [show n - 1 + 1 = n by omega]; exact hb1) hno]
              simp only
              omega
            rw [ep]
            all_goals (first | refine fI ?_ | refine fB ?_ | refine fII ?_ ?_ | refine fBI ?_ ?_ | refine fIII ?_ ?_ ?_ | refine fIIB ?_ ?_ ?_ | skip); all_goals (try dsimp only); all_goals (try with_reducible rfl); all_goals (try omega)
        | false =>
          rw [hb1] at r6
          have hf : repB w.toNat l k.toNat s.toNat m n = false := by
            unfold repB at hb1 ⊢
            refine decide_eq_false fun hh => of_decide_eq_false hb1 fun j hj => hh j (by omega)
          have hsp := @Nat.succ_ne_zero; repeat' (first | simp (disch := first | exact dschR6 | fail) only [go_sem, hsp, r7, r6, r5, r1, r2, chn, e2, e3] | refine WP_drw ?_ | refine cnd_intro (fun hsp => ?_) fun hsp => ?_)
          all_goals (refine ⟨⟨n + 1, by simp, by omega, by omega, next hf⟩, ?_⟩; rw [q5]; dsimp only; omega)
    · have hnm' : ((n : Int) < m) = False := eq_false hnm
      have hsp := @Nat.succ_ne_zero; repeat' (first | simp (disch := first | exact dschR6 | fail) only [go_sem, hsp, r5, r1, r2, chn, hnm'] | refine WP_drw ?_ | refine cnd_intro (fun hsp => ?_) fun hsp => ?_)
      have ep : perM w.toNat l k.toNat s.toNat m = m := by
        unfold perM
        rw [findI_none fun j hj => hno j (by omega)]
      rw [ep]
      all_goals (first | refine fI ?_ | refine fB ?_ | refine fII ?_ ?_ | refine fBI ?_ ?_ | refine fIII ?_ ?_ ?_ | refine fIIB ?_ ?_ ?_ | skip); all_goals (try dsimp only); all_goals (try with_reducible rfl); all_goals (try omega)
attribute [go_sem] run101

/-- petershamref02.Period. -/
def perR (w : Nat) (l : List Int) (k s : Nat) : Nat := perM w l k s (if k = 1 ∧ 1 < l.length then 2 * l.length - 2 else 2 * l.length * w)
theorem perM_bd {w : Nat} {l : List Int} {k s m : Nat} (hm : 1 ≤ m) : 1 ≤ perM w l k s m ∧ perM w l k s m ≤ m := by
  unfold perM
  split
  · rename_i n hn
    have := (findI_is hn).1
    omega
  · omega

theorem run52 {base : Nat} {h : Heap} {v : AVal} {l : List Int} {w k s : Int} (hI : Ints h v l) (hc : chkC w l k s = 0) :
    callL prog raw base (.fn 52 [] []) [chn w v k s] h = some (.int .i64 ((perR w.toNat l k.toNat s.toNat : Nat) : Int), h) := by
  obtain ⟨hw, hn, hk, hs, _, hx⟩ := chkC_ok hc
  have hl : l.length ≤ 1000 := by omega
  have hw2 : 0 ≤ w ∧ w ≤ 100 := by omega
  have h1 : 1 ≤ 2 * l.length * w.toNat ∧ 2 * l.length * w.toNat ≤ 1000 := by
    have h2 : 2 * l.length * w.toNat ≤ 96 * 8 := Nat.mul_le_mul (by omega) (by omega)
    have h3 : 2 * 1 ≤ 2 * l.length * w.toNat := Nat.mul_le_mul (by omega) (by omega)
    omega
  unfold perR
  generalize hM : 2 * l.length * w.toNat = M at *
  have hM' : 1 ≤ (M : Int) ∧ (M : Int) ≤ 1000 := by omega
  refine callL_run func52 rfl rfl ?_
  by_cases hk1 : k = 1 ∧ 1 < l.length
  · rw [if_pos (by omega)]
    have a1 := hk1.1
    have a2 : ((l.length : Int) > 1) = True := eq_true (by omega)
    have a3 : 1 ≤ 2 * (l.length : Int) - 2 ∧ 2 * (l.length : Int) - 2 ≤ 1000 := by omega
    have a4 : (2 * (l.length : Int) - 2).toNat = 2 * l.length - 2 := by omega
    subst a1
    have hsp := @Nat.succ_ne_zero; repeat' (first | simp (disch := first | exact dschR6 | fail) only [go_sem, hsp, chn, a2, a4, hM] | refine WP_drw ?_ | refine cnd_intro (fun hsp => ?_) fun hsp => ?_)
    all_goals (first | refine fI ?_ | refine fB ?_ | refine fII ?_ ?_ | refine fBI ?_ ?_ | refine fIII ?_ ?_ ?_ | refine fIIB ?_ ?_ ?_ | skip); all_goals (try dsimp only); all_goals (try with_reducible rfl); all_goals (try omega)
  · rw [if_neg (by omega)]
    by_cases a1 : k = 1
    · have a2 : ((l.length : Int) > 1) = False := eq_false (by omega)
      subst a1
      have hsp := @Nat.succ_ne_zero; repeat' (first | simp (disch := first | exact dschR6 | fail) only [go_sem, hsp, chn, a2, hM] | refine WP_drw ?_ | refine cnd_intro (fun hsp => ?_) fun hsp => ?_)
      all_goals (first | refine fI ?_ | refine fB ?_ | refine fII ?_ ?_ | refine fBI ?_ ?_ | refine fIII ?_ ?_ ?_ | refine fIIB ?_ ?_ ?_ | skip); all_goals (try dsimp only); all_goals (try with_reducible rfl); all_goals (try omega)
    · have a2 : (k = 1) = False := eq_false a1
      have hsp := @Nat.succ_ne_zero; repeat' (first | simp (disch := first | exact dschR6 | fail) only [go_sem, hsp, chn, a2, hM] | refine WP_drw ?_ | refine cnd_intro (fun hsp => ?_) fun hsp => ?_)
      all_goals (first | refine fI ?_ | refine fB ?_ | refine fII ?_ ?_ | refine fBI ?_ ?_ | refine fIII ?_ ?_ ?_ | refine fIIB ?_ ?_ ?_ | skip); all_goals (try dsimp only); all_goals (try with_reducible rfl); all_goals (try omega)
attribute [go_sem] run52

/-- petershamref02.Differ. -/
def difR (w : Nat) (a b : List Int) (k s k' s' : Nat) : Option Nat := findI (fun t => decide (liftN w a k s t ≠ liftN w b k' s' t)) (perR w a k s * perR w b k' s')
def optI (o : Option Nat) : Int := match o with | some t => (t : Int) | none => -1
theorem perR_bd {w k s : Int} {l : List Int} (hc : chkC w l k s = 0) : 1 ≤ perR w.toNat l k.toNat s.toNat ∧ perR w.toNat l k.toNat s.toNat ≤ 768 := by
  obtain ⟨hw, hn, hk, hs, _, hx⟩ := chkC_ok hc
  have h2 : 2 * l.length * w.toNat ≤ 96 * 8 := Nat.mul_le_mul (by omega) (by omega)
  have h3 : 2 * 1 ≤ 2 * l.length * w.toNat := Nat.mul_le_mul (by omega) (by omega)
  unfold perR
  obtain ⟨M, hM⟩ : ∃ M, (if k.toNat = 1 ∧ 1 < l.length then 2 * l.length - 2 else 2 * l.length * w.toNat) = M := ⟨_, rfl⟩
  have hM2 : 1 ≤ M ∧ M ≤ 768 := by rw [← hM]; split <;> omega
  rw [hM]
  have := perM_bd (w := w.toNat) (l := l) (k := k.toNat) (s := s.toNat) hM2.1
  omega

theorem run54 {base : Nat} {h : Heap} {v v' : AVal} {a b : List Int} {w k s k' s' : Int} (hI : Ints h v a) (hI' : Ints h v' b) (hc : chkC w a k s = 0) (hc' : chkC w b k' s' = 0) :
    callL prog raw base (.fn 54 [] []) [chn w v k s, chn w v' k' s'] h = some (.int .i64 (optI (difR w.toNat a b k.toNat s.toNat k'.toNat s'.toNat)), h) := by
  have b1 := perR_bd hc
  have b2 := perR_bd hc'
  unfold difR
  generalize hx : perR w.toNat a k.toNat s.toNat = x at *
  generalize hy : perR w.toNat b k'.toNat s'.toNat = y at *
  have b3 : x * y ≤ 768 * 768 := Nat.mul_le_mul (by omega) (by omega)
  have e1 : (x : Int) * (y : Int) = ((x * y : Nat) : Int) := by rw [Int.natCast_mul]
  generalize hz : x * y = z at *
  refine callL_run func54 rfl rfl ?_
  have hsp := @Nat.succ_ne_zero; repeat' (first | simp (disch := first | exact dschR6 | fail) only [go_sem, hsp, chn, hx, hy] | refine WP_drw ?_ | refine cnd_intro (fun hsp => ?_) fun hsp => ?_)
  refine WP_loop (fun σ => ∃ t : Nat, σ.fr 7 = .int .i64 (t : Int) ∧ σ.fr 5 = .int .i64 x ∧ σ.fr 6 = .int .i64 y ∧ σ.fr 2 = .ptr (some ⟨h.length, 0, 0⟩) ∧ σ.fr 3 = .ptr (some ⟨h.length + 1, 0, 0⟩) ∧ σ.h = h ++ [⟨.cells [.int .i64 w, v, .int .i64 k, .int .i64 s] 40 false false, 0⟩] ++ [⟨.cells [.int .i64 w, v', .int .i64 k', .int .i64 s'] 40 false false, 0⟩] ∧ t ≤ z ∧ (∀ j, j < t → decide (liftN w.toNat a k.toNat s.toNat j ≠ liftN w.toNat b k'.toNat s'.toNat j) = false)) (fun σ => match σ.fr 7 with | .int _ x => (((z : Nat) : Int) - x).toNat | _ => 0) ?_ ?_
  · refine ⟨0, ?_, ?_, ?_, ?_, ?_, ?_, by omega, ?_⟩
    iterate 6 focus (first | rfl | (simp (disch := first | exact dschR6 | fail) only [go_sem, Int.natCast_zero]; first | done | rfl))
    intro j hj; omega
  · rintro ⟨fr, hp⟩ ⟨t, r7, r5, r6, r2, r3, rh, hi, hP⟩
    dsimp only at r7 r5 r6 r2 r3 rh hi hP
    subst rh
    have e3 : (((liftN w.toNat a k.toNat s.toNat t : Nat) : Int) = ((liftN w.toNat b k'.toNat s'.toNat t : Nat) : Int)) = (liftN w.toNat a k.toNat s.toNat t = liftN w.toNat b k'.toNat s'.toNat t) := propext (by omega)
    have hsp := @Nat.succ_ne_zero; repeat' (first | simp (disch := first | exact dschR6 | fail) only [go_sem, hsp, r7, r5, r6, r2, r3, chn, e1, e3] | refine WP_drw ?_ | refine cnd_intro (fun hsp => ?_) fun hsp => ?_)
    · refine ⟨⟨t + 1, by simp, by omega, fun j hj => ?_⟩, by omega⟩
      by_cases e : j = t
      · subst e; simpa using hsp
      · exact hP j (by omega)
    · rw [findI_some (t := t) (by omega) (by simpa using hsp) hP]
      unfold optI
      all_goals (first | refine fI ?_ | refine fB ?_ | refine fII ?_ ?_ | refine fBI ?_ ?_ | refine fIII ?_ ?_ ?_ | refine fIIB ?_ ?_ ?_ | skip); all_goals (try dsimp only); all_goals (try with_reducible rfl); all_goals (try omega)
    · rw [findI_none fun j hj => hP j (by omega)]
      unfold optI
      all_goals (first | refine fI ?_ | refine fB ?_ | refine fII ?_ ?_ | refine fBI ?_ ?_ | refine fIII ?_ ?_ ?_ | refine fIIB ?_ ?_ ?_ | skip); all_goals (try dsimp only); all_goals (try with_reducible rfl); all_goals (try omega)
attribute [go_sem] run54
end Go.AM
