/-
  Contracts of the reference: floats.
-/
import Derived.Test.YtppkmjfplhenmaaR6
set_option linter.unusedSimpArgs false
set_option linter.unusedVariables false
namespace Go.AM
open Go.Proofs.Try
theorem dschR7 {p : Prop} (h : p := by first | exact Nat.ne_of_beq_eq_false rfl | assumption | (apply asOne; (first | exact One.int | exact One.bool | exact newV_one | exact grV_one | exact cloneV_one | exact takF_one | assumption | exact Ints.one (by assumption) | exact One.lit ⟨rfl, rfl, rfl⟩)) | (apply asInts; (repeat first | assumption | (apply newV_ints' <;> first | assumption | (first | rfl | (simp only [List.length_append, List.length_cons, List.length_nil, List.length_set]; done) | (simp only [List.length_append, List.length_cons, List.length_nil, List.length_set]; omega))) | (apply grV_ints <;> first | assumption | (first | rfl | (simp only [List.length_append, List.length_cons, List.length_nil, List.length_set]; done) | (simp only [List.length_append, List.length_cons, List.length_nil, List.length_set]; omega))) | apply Ints.app); done) | (apply asScal; (first | apply allS1 | apply allS2 | apply allS3 | apply allS4) <;> (first | exact One.int | exact One.bool | exact newV_one | exact grV_one | exact cloneV_one | exact takF_one | assumption | exact Ints.one (by assumption) | exact One.lit ⟨rfl, rfl, rfl⟩)) | exact litT rfl | exact litF rfl | omega | (simp only [List.length_append, List.length_cons, List.length_nil, lst_len, List.length_set, ints_length, List.length_reverse]; first | done | omega) | fail) : p := h

theorem run84N {base j : Nat} {H : Heap} (hj : j ≤ 60) : callL prog raw base (.fn 84 [] []) [.int .i64 (j : Int)] H = some (.int .i64 ((2 ^ j : Nat) : Int), H) := by
  rw [run84 (by omega) (by omega)]
  simp
theorem quo_pow {a j : Nat} (ha : a < 9223372036854775808) : binA prog .quo 3 (.int .i64 (a : Int)) (.int .i64 ((2 ^ j : Nat) : Int)) = some (.int .i64 ((a / 2 ^ j : Nat) : Int)) := by
  have h0 := Nat.two_pow_pos j
  have h1 : a / 2 ^ j ≤ a := Nat.div_le_self _ _
  rw [bin_quo (by omega), tdivN]
  generalize a / 2 ^ j = q at h1
  exact congrArg (fun z => some (AVal.int .i64 z)) (wrap64 (by omega) (by omega))
theorem rem_two {a : Nat} : binA prog .rem 3 (.int .i64 (a : Int)) (.int .i64 2) = some (.int .i64 ((a % 2 : Nat) : Int)) := by
  rw [bin_rem (by omega)]
  rfl
attribute [go_sem 2000] run84N quo_pow rem_two

/-- How long a float is from t on, as far as n. -/
def lngN (p : Nat → Bool) (n t : Nat) : Nat := match findI (fun j => p (t + j)) n with | some j => j | none => n
theorem lngN_le {p : Nat → Bool} {n t : Nat} : lngN p n t ≤ n := by
  unfold lngN
  split
  · rename_i j hj
    have := (findI_is hj).1
    omega
  · omega
def fltT (p : Nat → Bool) (n m : Nat) : Nat → Nat
  | 0 => m
  | t + 1 => if p t = true then fltT p n m t else max (fltT p n m t) (lngN p n t)
def nevB (p : Nat → Bool) : Nat → Bool
  | 0 => true
  | t + 1 => nevB p t && !p t
/-- The longest of the floats of the first threads. -/
def fltR (w : Nat) (l : List Int) (k s n : Nat) : Nat → Nat
  | 0 => 0
  | j + 1 => fltT (bitN w l k s j) n (fltR w l k s n j) n
/-- petershamref02.Float. -/
def floR (w : Nat) (l : List Int) (k s n : Nat) : Int := if ∀ j, j < w → nevB (bitN w l k s j) n = false then (fltR w l k s n w : Nat) else -1
theorem fltT_zero {p : Nat → Bool} {n m : Nat} : fltT p n m 0 = m := rfl
theorem nevB_zero {p : Nat → Bool} : nevB p 0 = true := rfl
theorem fltR_zero {w : Nat} {l : List Int} {k s n : Nat} : fltR w l k s n 0 = 0 := rfl
theorem maxN {a b : Nat} : max (a : Int) (b : Int) = ((max a b : Nat) : Int) := by omega

theorem run53 {base : Nat} {h : Heap} {v : AVal} {l : List Int} {w k s : Int} (hI : Ints h v l) (hc : chkC w l k s = 0) :
    callL prog raw base (.fn 53 [] []) [chn w v k s] h = some (.int .i64 (floR w.toNat l k.toNat s.toNat (perR w.toNat l k.toNat s.toNat)), h) := by
  obtain ⟨hw, hn, hk, hs, _, hx⟩ := chkC_ok hc
  have b1 := perR_bd hc
  generalize hN : perR w.toNat l k.toNat s.toNat = n at *
  refine callL_run func53 rfl rfl ?_
  have hsp := @Nat.succ_ne_zero; repeat' (first | simp (disch := first | exact dschR7 | fail) only [go_sem, hsp, chn, hN] | refine WP_drw ?_ | refine cnd_intro (fun hsp => ?_) fun hsp => ?_)
  refine WP_loop (fun σ => ∃ j : Nat, σ.fr 5 = .int .i64 (j : Int) ∧ σ.fr 1 = .ptr (some ⟨h.length, 0, 0⟩) ∧ σ.fr 3 = .int .i64 n ∧ σ.fr 4 = .int .i64 (fltR w.toNat l k.toNat s.toNat n j : Nat) ∧ σ.h = h ++ [⟨.cells [.int .i64 w, v, .int .i64 k, .int .i64 s] 40 false false, 0⟩] ∧ j ≤ w.toNat ∧ (∀ i, i < j → nevB (bitN w.toNat l k.toNat s.toNat i) n = false)) (fun σ => match σ.fr 5 with | .int _ x => (((w.toNat : Nat) : Int) - x).toNat | _ => 0) ?_ ?_
  · refine ⟨0, ?_, ?_, ?_, ?_, ?_, by omega, ?_⟩
    iterate 5 focus (first | rfl | (simp (disch := first | exact dschR7 | fail) only [go_sem, Int.natCast_zero, fltR_zero]; first | done | rfl))
    intro i hi; omega
  · rintro ⟨fr, hp⟩ ⟨j, r5, r1, r3, r4, rh, hi, hP⟩
    dsimp only at r5 r1 r3 r4 rh hi hP
    subst rh
    have q5 := r5
    have hP0 := hP
    by_cases hjw : (j : Int) < w
    · have hjw' : ((j : Int) < w) = True := eq_true hjw
      have hsp := @Nat.succ_ne_zero; repeat' (first | simp (disch := first | exact dschR7 | fail) only [go_sem, hsp, r5, r1, r3, r4, chn, hjw'] | refine WP_drw ?_ | refine cnd_intro (fun hsp => ?_) fun hsp => ?_)
      refine WP_loop (fun σ => ∃ t : Nat, σ.fr 7 = .int .i64 (t : Int) ∧ σ.fr 5 = .int .i64 j ∧ σ.fr 1 = .ptr (some ⟨h.length, 0, 0⟩) ∧ σ.fr 3 = .int .i64 n ∧ σ.fr 4 = .int .i64 (fltT (bitN w.toNat l k.toNat s.toNat j) n (fltR w.toNat l k.toNat s.toNat n j) t : Nat) ∧ σ.fr 6 = .bool (nevB (bitN w.toNat l k.toNat s.toNat j) t) ∧ σ.h = h ++ [⟨.cells [.int .i64 w, v, .int .i64 k, .int .i64 s] 40 false false, 0⟩] ∧ t ≤ n ∧ (True)) (fun σ => match σ.fr 7 with | .int _ x => (((n : Nat) : Int) - x).toNat | _ => 0) ?_ ?_
      · refine ⟨0, ?_, ?_, ?_, ?_, ?_, ?_, ?_, by omega, trivial⟩
        iterate 7 focus (first | rfl | (simp (disch := first | exact dschR7 | fail) only [go_sem, Int.natCast_zero, r5, r1, r3, r4, fltT_zero, nevB_zero]; first | done | rfl))
      · rintro ⟨fr, hp⟩ ⟨t, r7, r5, r1, r3, r4, r6, rh, hi, hP⟩
        dsimp only at r7 r5 r1 r3 r4 r6 rh hi hP
        subst rh
        have q7 := r7
        have hs1 := liftN_small hc t
        by_cases htn : (t : Int) < n
        · have htn' : ((t : Int) < n) = True := eq_true htn
          cases hb : bitN w.toNat l k.toNat s.toNat j t with
          | true =>
            have e1 : (((liftN w.toNat l k.toNat s.toNat t / 2 ^ j % 2 : Nat) : Int) = 1) = True := eq_true (by have := of_decide_eq_true hb; omega)
            have hsp := @Nat.succ_ne_zero; repeat' (first | simp (disch := first | exact dschR7 | fail) only [go_sem, hsp, r7, r5, r1, r3, r4, r6, chn, htn', e1] | refine WP_drw ?_ | refine cnd_intro (fun hsp => ?_) fun hsp => ?_)
            refine ⟨⟨t + 1, by simp, ?_, ?_, by omega⟩, by omega⟩
            · rw [fltT, if_pos hb]
            · rw [nevB, hb]; simp
          | false =>
            have e1 : (((liftN w.toNat l k.toNat s.toNat t / 2 ^ j % 2 : Nat) : Int) = 1) = False := eq_false (by have := of_decide_eq_false hb; omega)
            have hsp := @Nat.succ_ne_zero; repeat' (first | simp (disch := first | exact dschR7 | fail) only [go_sem, hsp, r7, r5, r1, r3, r4, r6, chn, htn', e1] | refine WP_drw ?_ | refine cnd_intro (fun hsp => ?_) fun hsp => ?_)
            refine WP_loop (fun σ => ∃ g : Nat, σ.fr 8 = .int .i64 (g : Int) ∧ σ.fr 7 = .int .i64 t ∧ σ.fr 5 = .int .i64 j ∧ σ.fr 1 = .ptr (some ⟨h.length, 0, 0⟩) ∧ σ.fr 3 = .int .i64 n ∧ σ.fr 4 = .int .i64 (fltT (bitN w.toNat l k.toNat s.toNat j) n (fltR w.toNat l k.toNat s.toNat n j) t : Nat) ∧ σ.fr 6 = .bool (nevB (bitN w.toNat l k.toNat s.toNat j) t) ∧ σ.h = h ++ [⟨.cells [.int .i64 w, v, .int .i64 k, .int .i64 s] 40 false false, 0⟩] ∧ g ≤ n ∧ (∀ i, i < g → bitN w.toNat l k.toNat s.toNat j (t + i) = false)) (fun σ => match σ.fr 8 with | .int _ x => (((n : Nat) : Int) - x).toNat | _ => 0) ?_ ?_
            · refine ⟨0, ?_, ?_, ?_, ?_, ?_, ?_, ?_, ?_, by omega, ?_⟩
              iterate 8 focus (first | rfl | (simp (disch := first | exact dschR7 | fail) only [go_sem, Int.natCast_zero, r7, r5, r1, r3, r4, r6]; first | done | rfl))
              intro i hi; omega
            · rintro ⟨fr, hp⟩ ⟨g, r8, r7, r5, r1, r3, r4, r6, rh, hi, hP⟩
              dsimp only at r8 r7 r5 r1 r3 r4 r6 rh hi hP
              subst rh
              have hs2 := liftN_small hc (t + g)
              have e2 : ((t : Int) + (g : Int)).toNat = t + g := by omega
              have fin : ∀ (_ : lngN (bitN w.toNat l k.toNat s.toNat j) n t = g), ((max (fltT (bitN w.toNat l k.toNat s.toNat j) n (fltR w.toNat l k.toNat s.toNat n j) t) g : Nat) : Int) = (fltT (bitN w.toNat l k.toNat s.toNat j) n (fltR w.toNat l k.toNat s.toNat n j) (t + 1) : Nat) := fun hg => by
                rw [fltT, if_neg (by rw [hb]; simp), hg]
              have nev : nevB (bitN w.toNat l k.toNat s.toNat j) t = nevB (bitN w.toNat l k.toNat s.toNat j) (t + 1) := by rw [nevB, hb]; simp
              by_cases hgn : (g : Int) < n
              · have hgn' : ((g : Int) < n) = True := eq_true hgn
                cases hb2 : bitN w.toNat l k.toNat s.toNat j (t + g) with
                | false =>
                  have e3 : (((liftN w.toNat l k.toNat s.toNat (t + g) / 2 ^ j % 2 : Nat) : Int) = 0) = True := eq_true (by have := of_decide_eq_false hb2; omega)
                  have hsp := @Nat.succ_ne_zero; repeat' (first | simp (disch := first | exact dschR7 | fail) only [go_sem, hsp, r8, r7, r5, r1, r3, r4, r6, chn, hgn', e2, e3] | refine WP_drw ?_ | refine cnd_intro (fun hsp => ?_) fun hsp => ?_)
                  refine ⟨⟨g + 1, by simp, by omega, fun i hi => ?_⟩, by omega⟩
                  by_cases e : i = g
                  · subst e; exact hb2
                  · exact hP i (by omega)
                | true =>
                  have e3 : (((liftN w.toNat l k.toNat s.toNat (t + g) / 2 ^ j % 2 : Nat) : Int) = 0) = False := eq_false (by have := of_decide_eq_true hb2; omega)
                  have hg : lngN (bitN w.toNat l k.toNat s.toNat j) n t = g := by
                    unfold lngN
                    rw [findI_some (t := g) (by omega) hb2 hP]
                  have hsp := @Nat.succ_ne_zero; repeat' (first | simp (disch := first | exact dschR7 | fail) only [go_sem, hsp, r8, r7, r5, r1, r3, r4, r6, chn, hgn', e2, e3, maxN] | refine WP_drw ?_ | refine cnd_intro (fun hsp => ?_) fun hsp => ?_)
                  refine ⟨⟨t + 1, by simp, by rw [fin hg], by rw [nev], by omega⟩, ?_⟩
                  rw [q7]; dsimp only; omega
              · have hgn' : ((g : Int) < n) = False := eq_false hgn
                have hg : lngN (bitN w.toNat l k.toNat s.toNat j) n t = g := by
                  unfold lngN
                  rw [findI_none fun i hi => hP i (by omega)]
                  simp only
                  omega
                have hsp := @Nat.succ_ne_zero; repeat' (first | simp (disch := first | exact dschR7 | fail) only [go_sem, hsp, r8, r7, r5, r1, r3, r4, r6, chn, hgn', maxN] | refine WP_drw ?_ | refine cnd_intro (fun hsp => ?_) fun hsp => ?_)
                refine ⟨⟨t + 1, by simp, by rw [fin hg], by rw [nev], by omega⟩, ?_⟩
                rw [q7]; dsimp only; omega
        · have htn' : ((t : Int) < n) = False := eq_false htn
          have et : t = n := by omega
          subst et
          cases hnv : nevB (bitN w.toNat l k.toNat s.toNat j) t with
          | true =>
            rw [hnv] at r6
            have hsp := @Nat.succ_ne_zero; repeat' (first | simp (disch := first | exact dschR7 | fail) only [go_sem, hsp, r7, r5, r1, r3, r4, r6, chn, htn'] | refine WP_drw ?_ | refine cnd_intro (fun hsp => ?_) fun hsp => ?_)
            unfold floR
            rw [if_neg (fun hh => by have := hh j (by omega); rw [hnv] at this; cases this)]
            all_goals (first | refine fI ?_ | refine fB ?_ | refine fII ?_ ?_ | refine fBI ?_ ?_ | refine fIII ?_ ?_ ?_ | refine fIIB ?_ ?_ ?_ | skip); all_goals (try dsimp only); all_goals (try with_reducible rfl); all_goals (try omega)
          | false =>
            rw [hnv] at r6
            have hsp := @Nat.succ_ne_zero; repeat' (first | simp (disch := first | exact dschR7 | fail) only [go_sem, hsp, r7, r5, r1, r3, r4, r6, chn, htn'] | refine WP_drw ?_ | refine cnd_intro (fun hsp => ?_) fun hsp => ?_)
            refine ⟨⟨j + 1, by simp, rfl, by omega, fun i hi => ?_⟩, ?_⟩
            · by_cases e : i = j
              · subst e; exact hnv
              · exact hP0 i (by omega)
            · rw [q5]; dsimp only; omega
    · have hjw' : ((j : Int) < w) = False := eq_false hjw
      have ej : j = w.toNat := by omega
      subst ej
      have hsp := @Nat.succ_ne_zero; repeat' (first | simp (disch := first | exact dschR7 | fail) only [go_sem, hsp, r5, r1, r3, r4, chn, hjw'] | refine WP_drw ?_ | refine cnd_intro (fun hsp => ?_) fun hsp => ?_)
      unfold floR
      rw [if_pos hP]
      all_goals (first | refine fI ?_ | refine fB ?_ | refine fII ?_ ?_ | refine fBI ?_ ?_ | refine fIII ?_ ?_ ?_ | refine fIIB ?_ ?_ ?_ | skip); all_goals (try dsimp only); all_goals (try with_reducible rfl); all_goals (try omega)
attribute [go_sem] run53
end Go.AM
