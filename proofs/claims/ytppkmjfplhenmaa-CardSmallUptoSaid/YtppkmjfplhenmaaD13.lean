/-
  Contracts: the best change.
-/
import Derived.Test.YtppkmjfplhenmaaD12
set_option linter.unusedSimpArgs false
set_option linter.unusedVariables false
namespace Go.AM
open Go.Proofs.Try
theorem dschD13 {p : Prop} (h : p := by first | exact Nat.ne_of_beq_eq_false rfl | assumption | (apply asOne; (first | exact One.int | exact One.bool | exact newV_one | exact grV_one | exact cloneV_one | exact takF_one | assumption | exact Ints.one (by assumption) | exact One.lit ⟨rfl, rfl, rfl⟩)) | (apply asInts; (repeat first | assumption | (apply newV_ints' <;> first | assumption | (first | rfl | (simp only [List.length_append, List.length_cons, List.length_nil, List.length_set]; done) | (simp only [List.length_append, List.length_cons, List.length_nil, List.length_set]; omega))) | (apply grV_ints <;> first | assumption | (first | rfl | (simp only [List.length_append, List.length_cons, List.length_nil, List.length_set]; done) | (simp only [List.length_append, List.length_cons, List.length_nil, List.length_set]; omega))) | apply Ints.app); done) | (apply asScal; (first | apply allS1 | apply allS2 | apply allS3 | apply allS4) <;> (first | exact One.int | exact One.bool | exact newV_one | exact grV_one | exact cloneV_one | exact takF_one | assumption | exact Ints.one (by assumption) | exact One.lit ⟨rfl, rfl, rfl⟩)) | exact litT rfl | exact litF rfl | omega | (simp only [List.length_append, List.length_cons, List.length_nil, lst_len, List.length_set, ints_length, List.length_reverse]; first | done | omega) | fail) : p := h

theorem tup4_eq {a b c d a' b' c' d' : AVal} (h1 : a = a') (h2 : b = b') (h3 : c = c') (h4 : d = d') : AVal.tuple [a, b, c, d] = AVal.tuple [a', b', c', d'] := by rw [h1, h2, h3, h4]

/-- The best square so far: throw, thread, cards, found. -/
def bestep (w : Nat) (l : List Int) (t : Nat) (st : Nat × Nat × Int × Bool) (k : Nat) : Nat × Nat × Int × Bool :=
  if (fewestS w (chgL l t k)).2.1 < st.2.2.1 then (t, k, (fewestS w (chgL l t k)).2.1, true) else st
def brow (w : Nat) (l : List Int) (t : Nat) (st : Nat × Nat × Int × Bool) (m : Nat) : Nat × Nat × Int × Bool := (List.range m).foldl (bestep w l t) st
def ball (w : Nat) (l : List Int) (m : Nat) : Nat × Nat × Int × Bool := (List.range m).foldl (fun st t => brow w l t st w) (0, 0, (fewestS w l).2.1, false)
theorem brow_zero {w : Nat} {l : List Int} {t : Nat} {st : Nat × Nat × Int × Bool} : brow w l t st 0 = st := rfl
theorem brow_succ {w : Nat} {l : List Int} {t m : Nat} {st : Nat × Nat × Int × Bool} : brow w l t st (m + 1) = bestep w l t (brow w l t st m) m := by simp [brow, List.range_succ]
theorem ball_zero {w : Nat} {l : List Int} : ball w l 0 = (0, 0, (fewestS w l).2.1, false) := rfl
theorem ball_succ {w : Nat} {l : List Int} {m : Nat} : ball w l (m + 1) = brow w l m (ball w l m) w := by simp [ball, List.range_succ]

theorem brow_pos {w : Nat} {l : List Int} {t k : Nat} {st : Nat × Nat × Int × Bool} (h : (fewestS w (chgL l t k)).2.1 < (brow w l t st k).2.2.1) : brow w l t st (k + 1) = (t, k, (fewestS w (chgL l t k)).2.1, true) := by rw [brow_succ, bestep, if_pos h]
theorem brow_neg {w : Nat} {l : List Int} {t k : Nat} {st : Nat × Nat × Int × Bool} (h : ¬ (fewestS w (chgL l t k)).2.1 < (brow w l t st k).2.2.1) : brow w l t st (k + 1) = brow w l t st k := by rw [brow_succ, bestep, if_neg h]

/-- card.Best: throw, thread, cards, error. -/
def bestS (w : Int) (l : List Int) : Int × Int × Int × Int :=
  if chk w l ≠ 0 then (0, 0, 0, chk w l) else if (ball w.toNat l l.length).2.2.2 = true then (((ball w.toNat l l.length).1 : Nat), ((ball w.toNat l l.length).2.1 : Nat), (ball w.toNat l l.length).2.2.1, 0) else (0, 0, 0, 6)
def tup4 (x : Int × Int × Int × Int) : AVal := .tuple [.int .i64 x.1, .int .i64 x.2.1, .int .i64 x.2.2.1, .int .i64 x.2.2.2]

theorem sqr_iff {w : Int} {l : List Int} {t k : Int} (h1 : chk w l = 0) (h2 : 0 ≤ t ∧ t < l.length) (h3 : 0 ≤ k ∧ k < w) : sqr w l t k = 0 := by
  unfold sqr
  rw [if_neg (by simp [h1]), if_neg (by omega)]

theorem run66 {base : Nat} {h : Heap} {v : AVal} {l : List Int} {w : Int} (hI : Ints h v l) :
    callL prog raw base (.fn 66 [] []) [pap w v] h = some (tup4 (bestS w l), h) := by
  refine callL_run func66 rfl rfl ?_
  by_cases hc : chk w l = 0
  · obtain ⟨hw, hp, hx⟩ := chk_ok hc
    unfold tup4
    rw [bestS, if_neg (by simp [hc])]
    have hsp := @Nat.succ_ne_zero; repeat' (first | simp (disch := first | exact dschD13 | fail) only [go_sem, hsp, pap, pln, hc] | refine WP_drw ?_ | refine cnd_intro (fun hsp => ?_) fun hsp => ?_)
    refine WP_loop (fun σ => ∃ t : Nat, ∃ T : Heap, σ.fr 23 = .int .i64 (t : Int) ∧ σ.fr 22 = .int .i64 l.length ∧ σ.fr 1 = .ptr (some ⟨h.length, 0, 0⟩) ∧ σ.fr 2 = .int .i64 ((ball w.toNat l t).1 : Nat) ∧ σ.fr 3 = .int .i64 ((ball w.toNat l t).2.1 : Nat) ∧ σ.fr 4 = .int .i64 (ball w.toNat l t).2.2.1 ∧ σ.fr 5 = .int .i64 0 ∧ σ.fr 7 = .bool (ball w.toNat l t).2.2.2 ∧ σ.h = h ++ [⟨.cells [.int .i64 w, v] 24 false false, 0⟩] ++ T ∧ t ≤ l.length ∧ (True)) (fun σ => match σ.fr 23 with | .int _ x => (((l.length : Nat) : Int) - x).toNat | _ => 0) ?_ ?_
    · refine ⟨0, [], ?_, ?_, ?_, ?_, ?_, ?_, ?_, ?_, ?_, by omega, trivial⟩
      iterate 8 focus (first | rfl | (simp (disch := first | exact dschD13 | fail) only [go_sem, Int.natCast_zero, ball_zero]; first | done | rfl))
      dsimp only
      rw [List.append_nil]
    · rintro ⟨fr, hp⟩ ⟨t, T, r23, r22, r1, r2, r3, r4, r5, r7, rh, hi, hP⟩
      dsimp only at r23 r22 r1 r2 r3 r4 r5 r7 rh hi hP
      subst rh
      have q23 := r23
      have hsp := @Nat.succ_ne_zero; repeat' (first | simp (disch := first | exact dschD13 | fail) only [go_sem, hsp, r23, r22, r1, r2, r3, r4, r5, r7, pap, pln, hc] | refine WP_drw ?_ | refine cnd_intro (fun hsp => ?_) fun hsp => ?_)
      · refine WP_loop (fun σ => ∃ k : Nat, ∃ T2 : Heap, σ.fr 28 = .int .i64 (k : Int) ∧ σ.fr 27 = .int .i64 w ∧ σ.fr 8 = .int .i64 t ∧ σ.fr 23 = .int .i64 t ∧ σ.fr 22 = .int .i64 l.length ∧ σ.fr 1 = .ptr (some ⟨h.length, 0, 0⟩) ∧ σ.fr 2 = .int .i64 ((brow w.toNat l t (ball w.toNat l t) k).1 : Nat) ∧ σ.fr 3 = .int .i64 ((brow w.toNat l t (ball w.toNat l t) k).2.1 : Nat) ∧ σ.fr 4 = .int .i64 (brow w.toNat l t (ball w.toNat l t) k).2.2.1 ∧ σ.fr 5 = .int .i64 0 ∧ σ.fr 7 = .bool (brow w.toNat l t (ball w.toNat l t) k).2.2.2 ∧ σ.h = h ++ [⟨.cells [.int .i64 w, v] 24 false false, 0⟩] ++ T2 ∧ k ≤ w.toNat ∧ (True)) (fun σ => match σ.fr 28 with | .int _ x => (((w.toNat : Nat) : Int) - x).toNat | _ => 0) ?_ ?_
        · refine ⟨0, T, ?_, ?_, ?_, ?_, ?_, ?_, ?_, ?_, ?_, ?_, ?_, ?_, by omega, trivial⟩
          iterate 11 focus (first | rfl | (simp (disch := first | exact dschD13 | fail) only [go_sem, Int.natCast_zero, r23, r22, r1, r2, r3, r4, r5, r7, brow_zero]; first | done | rfl))
          rfl
        · rintro ⟨fr, hp⟩ ⟨k, T2, r28, r27, r8, r23, r22, r1, r2, r3, r4, r5, r7, rh, hi, hP⟩
          dsimp only at r28 r27 r8 r23 r22 r1 r2 r3 r4 r5 r7 rh hi hP
          subst rh
          by_cases hkw : (k : Int) < w
          · have hs := sqr_iff (t := t) (k := k) hc (by omega) (by omega)
            have hc2 := chg_ok hs
            have hs2 := small_chg hs
            simp only [Int.toNat_natCast] at hc2 hs2
            have hkw' : ((k : Int) < w) = True := eq_true hkw
            have hrun : ∀ {base : Nat} {H : Heap}, Ints H v l → callL prog raw base (.fn 106 [] []) [pap w v, .int .i64 t, .int .i64 k] H = some (pap w (newV H.length (chgL l t k)), H ++ newH (chgL l t k)) := fun {base H} hI' => by
              have := run106 (base := base) hI' hs
              simpa only [Int.toNat_natCast] using this
            have hsp := @Nat.succ_ne_zero; repeat' (first | simp (disch := first | exact dschD13 | fail) only [go_sem, hsp, r28, r27, r8, r23, r22, r1, r2, r3, r4, r5, r7, pap, pln, hc, hc2, hrun, hkw'] | refine WP_drw ?_ | refine cnd_intro (fun hsp => ?_) fun hsp => ?_)
            · exact ⟨⟨k + 1, T2 ++ newH (chgL l t k), by simp, by rw [brow_pos hsp], by rw [brow_pos hsp], by rw [brow_pos hsp], by rw [brow_pos hsp], by simp only [List.append_assoc], by omega⟩, by omega⟩
            · exact ⟨⟨k + 1, T2 ++ newH (chgL l t k), by simp, by rw [brow_neg hsp], by rw [brow_neg hsp], by rw [brow_neg hsp], by rw [brow_neg hsp], by simp only [List.append_assoc], by omega⟩, by omega⟩
          · have hkw' : ((k : Int) < w) = False := eq_false hkw
            have ek : k = w.toNat := by omega
            subst ek
            have hsp := @Nat.succ_ne_zero; repeat' (first | simp (disch := first | exact dschD13 | fail) only [go_sem, hsp, r28, r27, r8, r23, r22, r1, r2, r3, r4, r5, r7, pap, pln, hkw'] | refine WP_drw ?_ | refine cnd_intro (fun hsp => ?_) fun hsp => ?_)
            refine ⟨⟨t + 1, T2, by simp, by rw [ball_succ], by rw [ball_succ], by rw [ball_succ], by rw [ball_succ], rfl, by omega⟩, ?_⟩
            rw [q23]
            dsimp only
            omega
      · have et : t = l.length := by omega
        subst et
        rw [if_neg (by rw [hsp]; simp)]
        exact fin_pl rfl rfl (.app (.app .refl))
      · have et : t = l.length := by omega
        subst et
        rw [if_pos (by simpa using hsp)]
        exact fin_pl rfl rfl (.app (.app .refl))
  · unfold tup4
    rw [bestS, if_pos hc]
    have hsp := @Nat.succ_ne_zero; repeat' (first | simp (disch := first | exact dschD13 | fail) only [go_sem, hsp, pap, hc] | refine WP_drw ?_ | refine cnd_intro (fun hsp => ?_) fun hsp => ?_)
    exact fin_pl rfl rfl (.app .refl)
attribute [go_sem] run66
end Go.AM
