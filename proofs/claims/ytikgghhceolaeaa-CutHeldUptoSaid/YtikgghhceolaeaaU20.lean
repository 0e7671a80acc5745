/-
  The law's own reckoning of one cut (taken).
-/
import Derived.Test.YtikgghhceolaeaaU19
import Derived.Test.YtikgghhceolaeaaU11
set_option linter.unusedSimpArgs false
set_option linter.unusedVariables false
namespace Go.AM
open Go.Proofs.Try
theorem dschN51 {p : Prop} (h : p := by first | exact Nat.ne_of_beq_eq_false rfl | assumption | (apply asOne; (first | exact One.int | exact One.bool | assumption | exact Ints.one (by assumption) | exact Rows.one (by assumption) | exact Own.one (by assumption) | exact One.lit ⟨rfl, rfl, rfl⟩)) | (apply asInts; (repeat first | assumption | exact ints_nil | apply Ints.app); done) | (apply asRows; (repeat first | assumption | exact Rows.nil | apply Rows.app); done) | (apply asScal; (first | apply allS1 | apply allS2 | apply allS3 | apply allS4) <;> (first | exact One.int | exact One.bool | assumption | exact Ints.one (by assumption) | exact Rows.one (by assumption) | exact Own.one (by assumption) | exact One.lit ⟨rfl, rfl, rfl⟩)) | exact litT rfl | exact litF rfl | omega | (simp only [List.length_append, List.length_cons, List.length_nil, List.length_set, List.length_reverse]; first | done | omega) | fail) : p := h
attribute [-go_sem] put_ne put_same
attribute [local go_sem ↓] put_if
/-- What the law says of a cut: its end, what it earns, whether it is allowed. -/
def tknW (R : Rib) (w : Wnt) (x : Nat) (j : Bool) : Int × Int × Bool :=
  if j = true then (if okT R w x true = true then ((uniP R w x true).1.getD ((uniP R w x true).1.length - 1) 0 + 1, max 0 (w.pr - w.off * (uniP R w x true).2), decide ((uniP R w x true).2 ≤ w.jn)) else (0, 0, false))
  else ((x : Int) + w.lg, max 0 (w.pr - w.off * cntB (badF R) x w.lg.toNat), decide ((x : Int) + w.lg ≤ R.L) && decide (cntB (badF R) x w.lg.toNat ≤ w.fl))
def tknR (R : Rib) (c : Ct) : Int × Int × Bool := if (0 ≤ c.w ∧ c.w ≤ (R.W.length : Int) - 1) ∧ (0 ≤ c.f ∧ c.f ≤ R.L - 1) then (match R.W[c.w.toNat]? with | none => (0, 0, false) | some w => tknW R w c.f.toNat c.j) else (0, 0, false)
theorem tknW_f {R : Rib} {w : Wnt} {x : Nat} : tknW R w x false = ((x : Int) + w.lg, max 0 (w.pr - w.off * cntB (badF R) x w.lg.toNat), decide ((x : Int) + w.lg ≤ R.L) && decide (cntB (badF R) x w.lg.toNat ≤ w.fl)) := rfl
theorem tknW_is {R : Rib} {w : Wnt} {x : Nat} {j : Bool} (hw : WntOk w) (hx : x < R.L.toNat) : takL R w x j = if (tknW R w x j).2.2 = true then some ((tknW R w x j).1, (tknW R w x j).2.1) else none := by
  cases j with
  | true =>
    unfold takL tknW
    rw [if_pos rfl]
    by_cases c : okT R w x true = true
    · rw [if_pos c]
      by_cases d : (uniP R w x true).2 ≤ w.jn
      · rw [if_pos ⟨c, d⟩, if_pos (decide_eq_true d)]
      · rw [if_neg (fun q => d q.2), if_neg (by simpa using d)]
    · rw [if_neg c, if_neg (fun q => c q.1), if_neg (by simp)]
  | false =>
    rw [takL_free hw hx, tknW_f]
    by_cases c : (x : Int) + w.lg ≤ R.L ∧ cntB (badF R) x w.lg.toNat ≤ w.fl
    · rw [if_pos c, if_pos (by rw [decide_eq_true c.1, decide_eq_true c.2]; rfl)]
    · rw [if_neg c, if_neg (fun q => c (by rw [Bool.and_eq_true, decide_eq_true_eq, decide_eq_true_eq] at q; exact q))]
def gpI (o : List Int) (u : Nat) : Int := if gapB o u = true then 1 else 0
/-- What holds in the joined cut's loop. -/
structure Jn (R : Rib) (w : Wnt) (x u : Nat) (o : List Int) (f : Int) : Prop where
  k : UnK x 0 w.lg u o f
  un : unL (badF R) true w.lg (R.L.toNat - u) u o f = uniP R w x true
  st : o = [] → u = x
  hd : x < u → badF R x = false
  ls : o ≠ [] → if badF R (u - 1) = true then o.getD (o.length - 1) 0 < (u : Int) - 1 else o.getD (o.length - 1) 0 = (u : Int) - 1
  en : (o.length : Int) = w.lg → o.getD (o.length - 1) 0 = (u : Int) - 1
theorem gap_is {R : Rib} {w : Wnt} {x u : Nat} {o : List Int} {f : Int} (h : Jn R w x u o f) (h0 : o ≠ []) : gapB o u = badF R (u - 1) := by
  have hl : 0 < o.length := List.length_pos_iff.2 h0
  have := h.ls h0
  unfold gapB
  rw [decide_eq_true hl, Bool.true_and]
  by_cases c : badF R (u - 1) = true
  · rw [if_pos c] at this
    rw [c, decide_eq_true this]
  · rw [if_neg c] at this
    rw [Bool.not_eq_true] at c
    rw [c, decide_eq_false (by omega)]
theorem getD_last {l : List Int} {x : Int} : (l ++ [x]).getD ((l ++ [x]).length - 1) 0 = x := by
  simp [List.getD_eq_getElem?_getD]
theorem Jn.good {R : Rib} {w : Wnt} {x u : Nat} {o : List Int} {f : Int} (h : Jn R w x u o f) (hu : u < R.L.toNat) (hl : (o.length : Int) < w.lg) (hb : badF R u = false) : Jn R w x (u + 1) (o ++ [(u : Int)]) (f + gpI o u) ∧ gpI (o ++ [(u : Int)]) (u + 1) = 0 := by
  have eS : unS (badF R) true u o f = (o ++ [(u : Int)], f + gpI o u) := by
    unfold unS gpI
    rw [hb]
    simp only [Bool.true_and, Bool.or_false, Bool.false_eq_true, if_false]
    by_cases c : gapB o u = true
    · rw [if_pos c, if_pos c]
    · rw [if_neg c, if_neg c, Int.add_zero]
  have hk := h.k.step (j := true) (bad := badF R) hl
  have hun := h.un
  rw [unL_at hu, if_pos hl, eS] at hun
  rw [eS] at hk
  refine ⟨⟨hk, hun, fun q => by simp at q, fun q => ?_, fun _ => ?_, fun _ => ?_⟩, ?_⟩
  · by_cases e : x < u
    · exact h.hd e
    · have hx := h.k.n
      rw [show x = u by omega]; exact hb
  · rw [getD_last, Nat.add_sub_cancel, hb, if_neg (by simp)]; omega
  · rw [getD_last]; omega
  · have h2 : ¬ ((u : Int) < ((u + 1 : Nat) : Int) - 1) := by omega
    unfold gpI gapB
    rw [getD_last, decide_eq_false h2, Bool.and_false, if_neg (by simp)]
theorem Jn.bad {R : Rib} {w : Wnt} {x u : Nat} {o : List Int} {f : Int} (h : Jn R w x u o f) (hu : u < R.L.toNat) (hl : (o.length : Int) < w.lg) (hb : badF R u = true) (hx : u ≠ x) : Jn R w x (u + 1) o f ∧ gpI o (u + 1) = 1 ∧ gpI o u = if badF R (u - 1) = true then 1 else 0 := by
  have h0 : o ≠ [] := fun q => hx (h.st q)
  have hlo : 0 < o.length := List.length_pos_iff.2 h0
  have eS : unS (badF R) true u o f = (o, f) := by unfold unS; rw [hb]; rfl
  have hk := h.k.step (j := true) (bad := badF R) hl
  have hun := h.un
  rw [unL_at hu, if_pos hl, eS] at hun
  rw [eS] at hk
  have hm := h.k.b _ (getD_mem' (l := o) (d := 0) (i := o.length - 1) (by omega))
  refine ⟨⟨hk, hun, fun q => absurd q h0, fun q => ?_, fun _ => ?_, fun q => by omega⟩, ?_, ?_⟩
  · have := h.k.n
    exact h.hd (by omega)
  · rw [Nat.add_sub_cancel, hb, if_pos rfl]; omega
  · unfold gpI gapB
    rw [decide_eq_true hlo, decide_eq_true (by omega)]; rfl
  · unfold gpI
    rw [gap_is h h0]
set_option maxRecDepth 100000 in
set_option maxHeartbeats 8000000 in
theorem run_taken {base : Nat} {h : Heap} {v : AVal} {R : Rib} {c : Ct} (hA : RibAt h v R) (hR : RibOk R) :
    callL prog raw base (.fn 50 [] []) [v, .agg [.int .i64 c.w, .int .i64 c.f, .bool c.j]] h = some (.tuple [.int .i64 (tknR R c).1, .int .i64 (tknR R c).2.1, .bool (tknR R c).2.2], h) := by
  have hAe := fun H (e : Ext h H) => hA.ext e
  obtain ⟨fv, wv, rfl, hF, hW⟩ := hA
  have o1 := hF.one
  have o2 := hW.one
  have hL := hR.L
  have hnF := hR.nF
  have hnW := hR.nW
  obtain ⟨cw, cf, cj⟩ := c
  obtain ⟨G0, eG0⟩ : ∃ G0, G0 = h ++ [ribB R.L fv wv] ++ [cutB ⟨cw, cf, cj⟩] := ⟨_, rfl⟩
  have x0 : Ext h G0 := by rw [eG0]; exact .app (.app .refl)
  have g0 : G0[h.length]? = some (ribB R.L fv wv) := by rw [eG0]; exact get_app (get_eq rfl)
  have g1 : G0[h.length + 1]? = some (cutB ⟨cw, cf, cj⟩) := by rw [eG0]; exact get_eq (by simp)
  have l0 : G0.length = h.length + 2 := by rw [eG0]; simp
  have hn := (hW.ext x0).len (P := prog) Fc.el23
  unfold ribB cutB at eG0
  unfold ribB at g0
  unfold cutB at g1
  refine callL_run func50 rfl rfl ?_
  by_cases ct : (0 ≤ cw ∧ cw ≤ (R.W.length : Int) - 1) ∧ (0 ≤ cf ∧ cf ≤ R.L - 1)
  · obtain ⟨k, rfl⟩ := Int.eq_ofNat_of_zero_le ct.1.1
    obtain ⟨x, rfl⟩ := Int.eq_ofNat_of_zero_le ct.2.1
    have hkl : k < R.W.length := by omega
    have hw : R.W[k]? = some R.W[k] := List.getElem?_eq_getElem hkl
    generalize R.W[k] = w at hw
    have hwo := hR.W w (List.mem_of_getElem? hw)
    have hlg := hwo.lg
    have hpr := hwo.pr
    have hof := hwo.off
    have hx : x < R.L.toNat := by omega
    have e0 : tknR R ⟨(k : Int), (x : Int), cj⟩ = tknW R w x cj := by
      unfold tknR
      simp only
      rw [if_pos ct, Int.toNat_natCast, hw, Int.toNat_natCast]
    rw [e0]
    have t1 : ((k : Int) < 0) = False := eq_false (by omega)
    have t2 : ((k : Int) ≥ (R.W.length : Int)) = False := eq_false (by omega)
    have t3 : ((x : Int) < 0) = False := eq_false (by omega)
    have t4 : ((x : Int) ≥ R.L) = False := eq_false (by omega)
    have a1 := wnt_ad (hW.ext x0) hkl
    have b1 := wnt_ld (hW.ext x0) hw
    obtain ⟨G1, eG1⟩ : ∃ G1, G1 = G0 ++ [wntBk w] := ⟨_, rfl⟩
    have x1 : Ext G0 G1 := by rw [eG1]; exact .app .refl
    have gw : G1[G0.length]? = some (wntBk w) := by rw [eG1]; exact get_eq rfl
    have g01 := x1.get g0
    have g11 := x1.get g1
    have xh := x0.trans x1
    have st5 : ∀ (F : ABlk → Heap), stQ h.length G0.length (some ⟨.cells [.int .i64 0, .int .i64 0, .int .i64 0, .int .i64 0, .int .i64 0] 49 false false, 0⟩) 0 0 [.int .i64 w.lg, .int .i64 w.pr, .int .i64 w.off, .int .i64 w.fl, .int .i64 w.jn] F = some (F (wntBk w)) := fun F => stQ_ok (by simp) rfl (by omega)
    have iF := hF.ext xh
    have hnf := lenI iF
    unfold wntBk at eG1 gw st5
    cases cj with
    | false =>
      obtain ⟨m, em⟩ : ∃ m, m = w.lg.toNat := ⟨_, rfl⟩
      have hsp := @Nat.succ_ne_zero; repeat' (first | simp (disch := first | exact dschN51 | fail) only [go_sem, ↓reduceIte, hsp, ← eG0, g0, g1, hn, t1, t2, t3, t4, a1, b1, st5, ← eG1, g01, g11, gw, hnf] | refine WP_drw ?_ | refine cnd_intro (fun hsp => ?_) fun hsp => ?_)
      refine WP_count [(9, 11), (55, 70)] 0 R.F.length (Nat.zero_le _) (fun _ i fr H => fr 55 = .int .i64 (i : Int) ∧ H = G1 ∧ fr 9 = .int .i64 (((R.F.take i).filter (inRg x m)).length : Int)) ?_ ?_ ?_
      · exact ⟨by (simp (disch := first | exact dschN51 | fail) only [go_sem, ↓reduceIte, Int.natCast_zero]; first | done | rfl), rfl, by simp (disch := first | exact dschN51 | fail) only [go_sem, ↓reduceIte]; rfl⟩
      · rintro i fr H hi0 hi hAg ⟨r55, rfl, r9⟩
        have q2 := hAg 2 rfl
        have q3 := hAg 3 rfl
        have q4 := hAg 4 rfl
        have q5 := hAg 5 rfl
        have q6 := hAg 6 rfl
        have q7 := hAg 7 rfl
        have q8 := hAg 8 rfl
        have q53 := hAg 53 rfl
        have q54 := hAg 54 rfl
        try simp (disch := first | exact dschN51 | fail) only [go_sem, ↓reduceIte] at q2 q3 q4 q5 q6 q7 q8 q53 q54
        have hlt : ((i : Int) < (R.F.length : Int)) = True := eq_true (by omega)
        have ai := adrI (i := (i : Int)) (by omega) iF (by omega)
        rw [Int.toNat_natCast] at ai
        have li := loadI iF hi
        have hle : ((R.F.take i).filter (inRg x m)).length ≤ i := Nat.le_trans (List.length_filter_le _ _) (by rw [List.length_take]; omega)
        have htk : (R.F.take (i + 1)).filter (inRg x m) = (R.F.take i).filter (inRg x m) ++ if inRg x m (R.F.getD i 0) = true then [R.F.getD i 0] else [] := by
          rw [take_succD hi, List.filter_append, List.filter_cons, List.filter_nil]
        obtain ⟨y, ey⟩ : ∃ y, y = R.F.getD i 0 := ⟨_, rfl⟩
        rw [← ey] at li htk
        by_cases y1 : (x : Int) ≤ y
        · have u1 : (y ≥ (x : Int)) = True := eq_true y1
          by_cases y2 : y < (x : Int) + w.lg
          · have u2 : (y < (x : Int) + w.lg) = True := eq_true y2
            rw [if_pos (by unfold inRg; exact decide_eq_true ⟨y1, by omega⟩)] at htk
            have hsp := @Nat.succ_ne_zero; repeat' (first | simp (disch := first | exact dschN51 | fail) only [go_sem, ↓reduceIte, hsp, r55, r9, q2, q3, q4, q5, q6, q7, q8, q53, q54, hlt, ai, li, g11, u1, u2] | refine WP_drw ?_ | refine cnd_intro (fun hsp => ?_) fun hsp => ?_)
            exact ⟨by (repeat first | exact Agree.refl | assumption | refine Agree.put rfl ?_ | refine Agree.put0 ?_ | refine Agree.sub rfl (by assumption) ?_), by omega, by rw [htk]; simp⟩
          · have u2 : (y < (x : Int) + w.lg) = False := eq_false y2
            rw [if_neg (by unfold inRg; rw [decide_eq_true_eq]; omega), List.append_nil] at htk
            have hsp := @Nat.succ_ne_zero; repeat' (first | simp (disch := first | exact dschN51 | fail) only [go_sem, ↓reduceIte, hsp, r55, r9, q2, q3, q4, q5, q6, q7, q8, q53, q54, hlt, ai, li, g11, u1, u2] | refine WP_drw ?_ | refine cnd_intro (fun hsp => ?_) fun hsp => ?_)
            exact ⟨by (repeat first | exact Agree.refl | assumption | refine Agree.put rfl ?_ | refine Agree.put0 ?_ | refine Agree.sub rfl (by assumption) ?_), by omega, by rw [htk]⟩
        · have u1 : (y ≥ (x : Int)) = False := eq_false y1
          rw [if_neg (by unfold inRg; rw [decide_eq_true_eq]; omega), List.append_nil] at htk
          have hsp := @Nat.succ_ne_zero; repeat' (first | simp (disch := first | exact dschN51 | fail) only [go_sem, ↓reduceIte, hsp, r55, r9, q2, q3, q4, q5, q6, q7, q8, q53, q54, hlt, ai, li, g11, u1] | refine WP_drw ?_ | refine cnd_intro (fun hsp => ?_) fun hsp => ?_)
          exact ⟨by (repeat first | exact Agree.refl | assumption | refine Agree.put rfl ?_ | refine Agree.put0 ?_ | refine Agree.sub rfl (by assumption) ?_), by omega, by rw [htk]⟩
      · rintro fr H hAg ⟨r55, rfl, r9⟩
        have q2 := hAg 2 rfl
        have q3 := hAg 3 rfl
        have q4 := hAg 4 rfl
        have q5 := hAg 5 rfl
        have q6 := hAg 6 rfl
        have q7 := hAg 7 rfl
        have q8 := hAg 8 rfl
        have q53 := hAg 53 rfl
        have q54 := hAg 54 rfl
        try simp (disch := first | exact dschN51 | fail) only [go_sem, ↓reduceIte] at q2 q3 q4 q5 q6 q7 q8 q53 q54
        have hlt : ((R.F.length : Int) < (R.F.length : Int)) = False := eq_false (by omega)
        rw [List.take_length, cnt_faults hR] at r9
        have hcl : 0 ≤ cntB (badF R) x m ∧ cntB (badF R) x m ≤ 12 := by
          rw [← cnt_faults hR]
          have := List.length_filter_le (inRg x m) R.F
          omega
        obtain ⟨n, ecn⟩ : ∃ n, n = cntB (badF R) x m := ⟨_, rfl⟩
        rw [← ecn] at r9 hcl
        have hmul : 0 ≤ n * w.off ∧ n * w.off ≤ 240 := ⟨Int.mul_nonneg hcl.1 hof.1, by
          have := Int.mul_le_mul hcl.2 hof.2 hof.1 (by omega : (0 : Int) ≤ 12)
          omega⟩
        have et : tknW R w x false = ((x : Int) + w.lg, max 0 (w.pr - n * w.off), decide ((x : Int) + w.lg ≤ R.L) && decide (n ≤ w.fl)) := by
          rw [tknW_f, ← em, ← ecn, Int.mul_comm]
        rw [et]
        by_cases y1 : (x : Int) + w.lg ≤ R.L
        · have u1 : ((x : Int) + w.lg ≤ R.L) = True := eq_true y1
          rw [decide_eq_true y1, Bool.true_and]
          have hsp := @Nat.succ_ne_zero; repeat' (first | simp (disch := first | exact dschN51 | fail) only [go_sem, ↓reduceIte, hsp, r55, r9, q2, q3, q4, q5, q6, q7, q8, q53, q54, hlt, gw, g01, u1] | refine WP_drw ?_ | refine cnd_intro (fun hsp => ?_) fun hsp => ?_)
          exact fin_pl rfl rfl xh
        · have u1 : ((x : Int) + w.lg ≤ R.L) = False := eq_false y1
          rw [decide_eq_false y1, Bool.false_and]
          have hsp := @Nat.succ_ne_zero; repeat' (first | simp (disch := first | exact dschN51 | fail) only [go_sem, ↓reduceIte, hsp, r55, r9, q2, q3, q4, q5, q6, q7, q8, q53, q54, hlt, gw, g01, u1] | refine WP_drw ?_ | refine cnd_intro (fun hsp => ?_) fun hsp => ?_)
          exact fin_pl rfl rfl xh
    | true =>
      have hsp := @Nat.succ_ne_zero; repeat' (first | simp (disch := first | exact dschN51 | fail) only [go_sem, ↓reduceIte, hsp, ← eG0, g0, g1, hn, t1, t2, t3, t4, a1, b1, st5, ← eG1, g01, g11, gw, hnf] | refine WP_drw ?_ | refine cnd_intro (fun hsp => ?_) fun hsp => ?_)
      refine WP_count [(4, 6), (12, 120)] x R.L.toNat (by omega) (fun _ u fr H => fr 12 = .int .i64 (u : Int) ∧ H = G1 ∧ ∃ o f, fr 13 = .int .i64 (f + gpI o u) ∧ fr 14 = .int .i64 (w.lg - o.length) ∧ Jn R w x u o f) ?_ ?_ ?_
      · refine ⟨by (simp (disch := first | exact dschN51 | fail) only [go_sem, ↓reduceIte, Int.natCast_zero]; first | done | rfl), rfl, [], 0, by simp (disch := first | exact dschN51 | fail) only [go_sem, ↓reduceIte]; rfl, by simp (disch := first | exact dschN51 | fail) only [go_sem, ↓reduceIte]; simp, ⟨UnK.start, rfl, fun _ => rfl, fun q => by omega, fun q => absurd rfl q, fun q => by simp at q; omega⟩⟩
      · rintro u fr H hu0 hu hAg ⟨r12, rfl, o, f, r13, r14, hj⟩
        have q2 := hAg 2 rfl
        have q3 := hAg 3 rfl
        have q7 := hAg 7 rfl
        try simp (disch := first | exact dschN51 | fail) only [go_sem, ↓reduceIte] at q2 q3 q7
        have hog := hj.k.g
        have hfb := hj.k.f
        have hol := hj.k.n
        have hgb : 0 ≤ gpI o u ∧ gpI o u ≤ 1 := by unfold gpI; split <;> omega
        by_cases y0 : (o.length : Int) < w.lg
        · have u0 : (w.lg - (o.length : Int) > 0) = True := eq_true (by omega)
          have u1 : ((u : Int) ≥ R.L) = False := eq_false (by omega)
          have hc1 := fun base => run_contains (base := base) (x := (u : Int)) iF
          have hc2 := fun base => run_contains (base := base) (x := (u : Int) - 1) iF
          rcases Bool.eq_false_or_eq_true (badF R u) with qb | qb
          · rw [show decide ((u : Int) ∈ R.F) = true from qb] at hc1
            by_cases y2 : u = x
            · have u2 : ((u : Int) = (x : Int)) = True := eq_true (by omega)
              have et : tknW R w x true = (0, 0, false) := by
                unfold tknW
                rw [if_pos rfl, if_neg]
                unfold okT
                rw [← y2, qb]; simp
              rw [et]
              have hsp := @Nat.succ_ne_zero; repeat' (first | simp (disch := first | exact dschN51 | fail) only [go_sem, ↓reduceIte, hsp, r12, r13, r14, q2, q3, q7, u0, g01, u1, hc1, Bool.not_true, g11, u2] | refine WP_drw ?_ | refine cnd_intro (fun hsp => ?_) fun hsp => ?_)
              exact fin_pl rfl rfl xh
            · have u2 : ((u : Int) = (x : Int)) = False := eq_false (by omega)
              obtain ⟨hj2, hg2, hg1⟩ := hj.bad hu y0 qb y2
              have ep : decide ((u : Int) - 1 ∈ R.F) = badF R (u - 1) := by unfold badF; rw [show ((u - 1 : Nat) : Int) = (u : Int) - 1 by omega]
              rw [ep] at hc2
              rcases Bool.eq_false_or_eq_true (badF R (u - 1)) with qp | qp
              · rw [qp] at hc2
                rw [qp, if_pos rfl] at hg1
                have hsp := @Nat.succ_ne_zero; repeat' (first | simp (disch := first | exact dschN51 | fail) only [go_sem, ↓reduceIte, hsp, r12, r13, r14, q2, q3, q7, u0, g01, u1, hc1, Bool.not_true, g11, u2, hc2] | refine WP_drw ?_ | refine cnd_intro (fun hsp => ?_) fun hsp => ?_)
                exact ⟨by (repeat first | exact Agree.refl | assumption | refine Agree.put rfl ?_ | refine Agree.put0 ?_ | refine Agree.sub rfl (by assumption) ?_), by omega, o, f, by rw [hg2, hg1], rfl, hj2⟩
              · rw [qp] at hc2
                rw [qp, if_neg (by simp)] at hg1
                have hsp := @Nat.succ_ne_zero; repeat' (first | simp (disch := first | exact dschN51 | fail) only [go_sem, ↓reduceIte, hsp, r12, r13, r14, q2, q3, q7, u0, g01, u1, hc1, Bool.not_true, g11, u2, hc2, Bool.not_false] | refine WP_drw ?_ | refine cnd_intro (fun hsp => ?_) fun hsp => ?_)
                exact ⟨by (repeat first | exact Agree.refl | assumption | refine Agree.put rfl ?_ | refine Agree.put0 ?_ | refine Agree.sub rfl (by assumption) ?_), by omega, o, f, by rw [hg2, hg1]; simp, rfl, hj2⟩
          · rw [show decide ((u : Int) ∈ R.F) = false from qb] at hc1
            obtain ⟨hj2, hg2⟩ := hj.good hu y0 qb
            have hsp := @Nat.succ_ne_zero; repeat' (first | simp (disch := first | exact dschN51 | fail) only [go_sem, ↓reduceIte, hsp, r12, r13, r14, q2, q3, q7, u0, g01, u1, hc1, Bool.not_false] | refine WP_drw ?_ | refine cnd_intro (fun hsp => ?_) fun hsp => ?_)
            exact ⟨by (repeat first | exact Agree.refl | assumption | refine Agree.put rfl ?_ | refine Agree.put0 ?_ | refine Agree.sub rfl (by assumption) ?_), by omega, _, _, by rw [hg2, Int.add_zero], by rw [show w.lg - (((o ++ [(u : Int)]).length : Nat) : Int) = w.lg - (o.length : Int) - 1 by rw [List.length_append, List.length_singleton]; omega], hj2⟩
        · have u0 : (w.lg - (o.length : Int) > 0) = False := eq_false (by omega)
          have hlg : (o.length : Int) = w.lg := by omega
          have hen := hj.en hlg
          have hun := hj.un
          have hno : ¬ (o.getD (o.length - 1) 0 < (u : Int) - 1) := by omega
          have hg0 : gpI o u = 0 := by unfold gpI gapB; rw [decide_eq_false hno, Bool.and_false, if_neg (by simp)]
          have huo : uniP R w x true = (o, f) := by
            rw [← hun]
            by_cases c : u < R.L.toNat
            · rw [unL_at c, if_neg (by omega)]
            · rw [show R.L.toNat - u = 0 by omega, unL]
          have hxu : x < u := by have := hj.k.n; omega
          have hok : okT R w x true = true := by unfold okT; rw [hj.hd hxu, huo, decide_eq_true hlg]; rfl
          have et : tknW R w x true = ((u : Int), max 0 (w.pr - w.off * f), decide (f ≤ w.jn)) := by
            unfold tknW; rw [if_pos rfl, if_pos hok, huo]; simp only; rw [hen]; congr 1; omega
          have hfb := hj.k.f
          have hol := hj.k.n
          have hmul : 0 ≤ w.off * f ∧ w.off * f ≤ 1200 := ⟨Int.mul_nonneg hof.1 hfb.1, by
            have := Int.mul_le_mul hof.2 (show f ≤ 60 by omega) hfb.1 (by omega : (0 : Int) ≤ 20)
            omega⟩
          have hmc : f * w.off = w.off * f := Int.mul_comm _ _
          rw [hg0, Int.add_zero] at r13
          rw [et]
          have hsp := @Nat.succ_ne_zero; repeat' (first | simp (disch := first | exact dschN51 | fail) only [go_sem, ↓reduceIte, hsp, r12, r13, r14, q2, q3, q7, u0, gw, hmc] | refine WP_drw ?_ | refine cnd_intro (fun hsp => ?_) fun hsp => ?_)
          exact fin_pl rfl rfl xh
      · rintro fr H hAg ⟨r12, rfl, o, f, r13, r14, hj⟩
        have q2 := hAg 2 rfl
        have q3 := hAg 3 rfl
        have q7 := hAg 7 rfl
        try simp (disch := first | exact dschN51 | fail) only [go_sem, ↓reduceIte] at q2 q3 q7
        have hog := hj.k.g
        have hfb := hj.k.f
        have hol := hj.k.n
        obtain ⟨u, eu⟩ : ∃ u, u = R.L.toNat := ⟨_, rfl⟩
        rw [← eu] at r12 r13 hj hol
        by_cases y0 : (o.length : Int) < w.lg
        · have u0 : (w.lg - (o.length : Int) > 0) = True := eq_true (by omega)
          have u1 : ((u : Int) ≥ R.L) = True := eq_true (by omega)
          have et : tknW R w x true = (0, 0, false) := by
            have hun := hj.un
            rw [show R.L.toNat - u = 0 by omega, unL] at hun
            unfold tknW
            rw [if_pos rfl, if_neg]
            unfold okT
            rw [← hun, decide_eq_false (by simp only; omega)]; simp
          rw [et]
          have hsp := @Nat.succ_ne_zero; repeat' (first | simp (disch := first | exact dschN51 | fail) only [go_sem, ↓reduceIte, hsp, r12, r13, r14, q2, q3, q7, u0, g01, u1] | refine WP_drw ?_ | refine cnd_intro (fun hsp => ?_) fun hsp => ?_)
          exact fin_pl rfl rfl xh
        · have u0 : (w.lg - (o.length : Int) > 0) = False := eq_false (by omega)
          have hlg : (o.length : Int) = w.lg := by omega
          have hen := hj.en hlg
          have hun := hj.un
          have hno : ¬ (o.getD (o.length - 1) 0 < (u : Int) - 1) := by omega
          have hg0 : gpI o u = 0 := by unfold gpI gapB; rw [decide_eq_false hno, Bool.and_false, if_neg (by simp)]
          have huo : uniP R w x true = (o, f) := by
            rw [← hun]
            by_cases c : u < R.L.toNat
            · rw [unL_at c, if_neg (by omega)]
            · rw [show R.L.toNat - u = 0 by omega, unL]
          have hxu : x < u := by have := hj.k.n; omega
          have hok : okT R w x true = true := by unfold okT; rw [hj.hd hxu, huo, decide_eq_true hlg]; rfl
          have et : tknW R w x true = ((u : Int), max 0 (w.pr - w.off * f), decide (f ≤ w.jn)) := by
            unfold tknW; rw [if_pos rfl, if_pos hok, huo]; simp only; rw [hen]; congr 1; omega
          have hfb := hj.k.f
          have hol := hj.k.n
          have hmul : 0 ≤ w.off * f ∧ w.off * f ≤ 1200 := ⟨Int.mul_nonneg hof.1 hfb.1, by
            have := Int.mul_le_mul hof.2 (show f ≤ 60 by omega) hfb.1 (by omega : (0 : Int) ≤ 20)
            omega⟩
          have hmc : f * w.off = w.off * f := Int.mul_comm _ _
          rw [hg0, Int.add_zero] at r13
          rw [et]
          have hsp := @Nat.succ_ne_zero; repeat' (first | simp (disch := first | exact dschN51 | fail) only [go_sem, ↓reduceIte, hsp, r12, r13, r14, q2, q3, q7, u0, gw, hmc] | refine WP_drw ?_ | refine cnd_intro (fun hsp => ?_) fun hsp => ?_)
          exact fin_pl rfl rfl xh
  · have e0 : tknR R ⟨cw, cf, cj⟩ = (0, 0, false) := by unfold tknR; rw [if_neg ct]
    rw [e0]
    by_cases y1 : cw < 0
    · have t1 : (cw < 0) = True := eq_true y1
      have hsp := @Nat.succ_ne_zero; repeat' (first | simp (disch := first | exact dschN51 | fail) only [go_sem, ↓reduceIte, hsp, ← eG0, g0, g1, hn, t1] | refine WP_drw ?_ | refine cnd_intro (fun hsp => ?_) fun hsp => ?_)
      exact fin_pl rfl rfl x0
    · have t1 : (cw < 0) = False := eq_false y1
      by_cases y2 : cw ≥ (R.W.length : Int)
      · have t2 : (cw ≥ (R.W.length : Int)) = True := eq_true y2
        have hsp := @Nat.succ_ne_zero; repeat' (first | simp (disch := first | exact dschN51 | fail) only [go_sem, ↓reduceIte, hsp, ← eG0, g0, g1, hn, t1, t2] | refine WP_drw ?_ | refine cnd_intro (fun hsp => ?_) fun hsp => ?_)
        exact fin_pl rfl rfl x0
      · have t2 : (cw ≥ (R.W.length : Int)) = False := eq_false y2
        by_cases y3 : cf < 0
        · have t3 : (cf < 0) = True := eq_true y3
          have hsp := @Nat.succ_ne_zero; repeat' (first | simp (disch := first | exact dschN51 | fail) only [go_sem, ↓reduceIte, hsp, ← eG0, g0, g1, hn, t1, t2, t3] | refine WP_drw ?_ | refine cnd_intro (fun hsp => ?_) fun hsp => ?_)
          exact fin_pl rfl rfl x0
        · have t3 : (cf < 0) = False := eq_false y3
          have t4 : (cf ≥ R.L) = True := eq_true (by omega)
          have hsp := @Nat.succ_ne_zero; repeat' (first | simp (disch := first | exact dschN51 | fail) only [go_sem, ↓reduceIte, hsp, ← eG0, g0, g1, hn, t1, t2, t3, t4] | refine WP_drw ?_ | refine cnd_intro (fun hsp => ?_) fun hsp => ?_)
          exact fin_pl rfl rfl x0
end Go.AM
/-
  The law's own reckoning of a plan (earned).
-/
namespace Go.AM
open Go.Proofs.Try
attribute [-go_sem] put_ne put_same
attribute [local go_sem ↓] put_if
end Go.AM
/-
  (The heap behind a spool that was turned, own rows: G1.)
-/
/-
  Contracts: a ribbon that is made (Made).
-/
namespace Go.AM
open Go.Proofs.Try
theorem dschN53 {p : Prop} (h : p := by first | exact Nat.ne_of_beq_eq_false rfl | assumption | (apply asOne; (first | exact One.int | exact One.bool | assumption | exact Ints.one (by assumption) | exact Rows.one (by assumption) | exact Own.one (by assumption) | exact One.lit ⟨rfl, rfl, rfl⟩)) | (apply asSp; (repeat first | assumption | apply SpAt.set | (refine SpAt.new ?_ (by (first | rfl | (simp only [List.length_append, List.length_cons, List.length_nil, List.length_set]; done) | (simp only [List.length_append, List.length_cons, List.length_nil, List.length_set]; omega)))) | apply SpAt.app | apply Bytes.app); done) | (apply asBytes; (repeat first | assumption | apply Bytes.app); done) | (apply asInts; (repeat first | assumption | exact ints_nil | apply Ints.app); done) | (apply asRows; (repeat first | assumption | exact Rows.nil | apply Rows.app); done) | (apply asScal; (first | apply allS1 | apply allS2 | apply allS3 | apply allS4) <;> (first | exact One.int | exact One.bool | assumption | exact Ints.one (by assumption) | exact Rows.one (by assumption) | exact Own.one (by assumption) | exact One.lit ⟨rfl, rfl, rfl⟩)) | exact litT rfl | exact litF rfl | omega | (simp only [List.length_append, List.length_cons, List.length_nil, List.length_set, List.length_reverse]; first | done | omega) | fail) : p := h
attribute [-go_sem] put_ne put_same
attribute [local go_sem ↓] put_if
theorem bsWW1 {lit : Bool} {H : Heap} {w : Wnt} : bsA prog lit H 23 1 [(0, .agg [.int .i64 w.lg, .int .i64 w.pr, .int .i64 w.off, .int .i64 w.fl, .int .i64 w.jn])] = some (.slice (some ⟨H.length, 0, 0⟩) 1 1, H ++ [rowE encW 49 [w] 0]) := by
  simp [bsA, rowOf, Fc.el23, fillA, repCells, AVal.isN, AVal.cells, splice, rowE, flat, encW]
theorem snocWW {b base : Nat} {A : Heap} {w : AVal} {l : List Wnt} {r : Wnt} (hO : Own encW 49 b A w l) (hb : base ≤ b) (hbh : b ≤ A.length) (hl : l.length ≤ 1000000) :
    ∃ w' H, appendA prog base (A ++ [rowE encW 49 [r] 0]) 23 w (.slice (some ⟨A.length, 0, 0⟩) 1 1) = some (w', H) ∧ Own encW 49 b H w' (l ++ [r]) ∧ A.length ≤ H.length ∧ (∀ G, G.length ≤ b → Ext G A → Ext G H) ∧ One w' ∧ KeepO encW 49 A H := by
  obtain ⟨B, eB⟩ : ∃ B, B = A ++ [rowE encW 49 [r] 0] := ⟨_, rfl⟩
  have xB : Ext A B := by rw [eB]; exact .app .refl
  have lB' : B.length = A.length + 1 := by rw [eB]; simp
  have hx : Rows encW B (.slice (some ⟨A.length, 0, 0⟩) 1 1) [r] := Rows.own (by rw [eB]; exact get_eq rfl) rfl (by simp)
  rw [← eB]
  obtain ⟨w', H, a1, a2, a3, a4, a5, a6⟩ := (hO.ext xB).appendRX (P := prog) (base := base) (t := 23) hx Fc.el23 encW_sc hb (by omega) (by simp) (by simp; omega)
  have a6 : KeepO encW 49 B H := a6
  exact ⟨w', H, a1, a2, by omega, fun G h1 h2 => a4 G h1 (h2.trans xB), a5, fun i y hi hy => a6 i y (xB.get hi) hy⟩
theorem stN53 {base : Nat} {l : List Oper} {s : St} {Q : AExit → St → Prop} : WP prog raw base (.region 11 l.toArray true) s Q = WPS prog raw base (.region 11 l.toArray true) s Q := WP_stop
attribute [local go_sem ↓ 3000] stN53
set_option maxRecDepth 100000 in
set_option maxHeartbeats 4000000 in
theorem run_LMadeD {base id k0 : Nat} {h : Heap} {v : AVal} {silk : List Int} {A B D : Int} (hb : base ≤ h.length) (hS : SpAt h id v silk k0) (hk : k0 ≤ 100000) (hA : 1 ≤ A ∧ A ≤ 60) (hB : 0 ≤ B ∧ B ≤ 12) (hD : 0 ≤ D ∧ D ≤ 6) :
    Ret prog raw base (.fn 26 [] []) [.ptr (some ⟨id, 0, 0⟩), .int .i64 A, .int .i64 B, .int .i64 D] h (fun w H => ∃ L F W fv wv k', w = .agg [.int .i64 L, fv, wv] ∧ (k0 ≤ k' ∧ k' ≤ k0 + 100) ∧ SpE h id v silk k' H ∧ Own encI 3 h.length H fv F ∧ Own encW 49 h.length H wv W ∧ RibOk ⟨L, F, W⟩ ∧ L ≤ A ∧ (F.length : Int) ≤ B ∧ (W.length : Int) ≤ D) := by
  have hid := lt_of_get hS.1
  have hS0 : SpAt (h ++ [ribB 0 (.slice none 0 0) (.slice none 0 0)]) id v silk k0 := hS.app
  have b1 := up_bd (silk := silk) (k := k0) (n := A - 1) (by omega)
  have b2 := up_bd (silk := silk) (k := k0 + 1) (n := B) (by omega)
  obtain ⟨G, eG⟩ : ∃ G, G = h ++ [ribB 0 (.slice none 0 0) (.slice none 0 0)] := ⟨_, rfl⟩
  rw [← eG] at hS0
  have lG : G.length = h.length + 1 := by rw [eG]; simp
  have xG : Ext h G := by rw [eG]; exact .app .refl
  have g0 : G[h.length]? = some (ribB 0 (.slice none 0 0) (.slice none 0 0)) := by rw [eG]; exact get_eq rfl
  have f1 := fun base => run_from (base := base) (lo := 1) (hi := A) hS0 (by omega) (by omega) (by omega)
  obtain ⟨L, eL⟩ : ∃ L, L = 1 + up silk k0 (A - 1) := ⟨_, rfl⟩
  have hL : 1 ≤ L ∧ L ≤ A := by omega
  rw [← eL] at f1
  obtain ⟨G1, eG1⟩ : ∃ G1, G1 = G.set id (spB v silk (k0 + 1)) := ⟨_, rfl⟩
  rw [← eG1] at f1
  have q1 : SpE h id v silk (k0 + 1) G1 := by rw [eG1]; exact ((SpE.refl hS).ext xG).step hid
  have l1 : G1.length = h.length + 1 := by rw [eG1, List.length_set, lG]
  have g1 : G1[h.length]? = some (ribB 0 (.slice none 0 0) (.slice none 0 0)) := by rw [eG1, List.getElem?_set_ne (by omega)]; exact g0
  obtain ⟨G2, eG2⟩ : ∃ G2, G2 = G1 ++ [ribB L (.slice none 0 0) (.slice none 0 0)] := ⟨_, rfl⟩
  have q2 : SpE h id v silk (k0 + 1) G2 := by rw [eG2]; exact q1.app
  have l2 : G2.length = h.length + 2 := by rw [eG2]; simp [l1]
  have g2 : G2[h.length]? = some (ribB 0 (.slice none 0 0) (.slice none 0 0)) := by rw [eG2]; exact get_app g1
  have c2 : G2[h.length + 1]? = some (ribB L (.slice none 0 0) (.slice none 0 0)) := by rw [eG2]; exact get_eq (by rw [l1])
  have f2 := fun base => run_upto (base := base) (n := B) (q2.at hS) (by omega) (by omega)
  obtain ⟨m, em⟩ : ∃ m, m = up silk (k0 + 1) B := ⟨_, rfl⟩
  rw [← em] at b2 f2
  obtain ⟨G3, eG3⟩ : ∃ G3, G3 = G2.set id (spB v silk (k0 + 1 + 1)) := ⟨_, rfl⟩
  rw [← eG3] at f2
  have q3 : SpE h id v silk (k0 + 1 + 1) G3 := by rw [eG3]; exact q2.step hid
  have l3 : G3.length = h.length + 2 := by rw [eG3, List.length_set, l2]
  have g3 : G3[h.length]? = some (ribB 0 (.slice none 0 0) (.slice none 0 0)) := by rw [eG3, List.getElem?_set_ne (by omega)]; exact g2
  have c3 : G3[h.length + 1]? = some (ribB L (.slice none 0 0) (.slice none 0 0)) := by rw [eG3, List.getElem?_set_ne (by omega)]; exact c2
  have hq : 0 ≤ L.tdiv (max 1 m) ∧ L.tdiv (max 1 m) ≤ 60 := by
    rw [Int.tdiv_eq_ediv_of_nonneg (by omega)]
    have h1 : 0 < max 1 m := by omega
    refine ⟨Int.ediv_nonneg (by omega) (by omega), ?_⟩
    exact Int.le_trans (Int.ediv_le_self _ (by omega)) (by omega)
  have hm0 : max 1 m ≠ 0 := by omega
  have hm1 : (max 1 m = 0) = False := eq_false hm0
  obtain ⟨X, eX⟩ : ∃ X, X = max 2 (L.tdiv (max 1 m)) := ⟨_, rfl⟩
  have hX : 2 ≤ X ∧ X ≤ 60 := by omega
  clear eL b1
  rw [show h.length + 1 = G1.length from l1.symm] at c2 c3
  unfold ribB at eG eG2
  have c3' := c3
  unfold ribB at c3'
  refine ret_raw func26 rfl (by kernel_rfl) ?_
  have hsp := @Nat.succ_ne_zero; repeat' (first | simp (disch := first | exact dschN53 | fail) only [go_sem, ↓reduceIte, hsp, ← eG, f1, ← eG2, f2, c3'] | refine WP_drw ?_ | refine cnd_intro (fun hsp => ?_) fun hsp => ?_)
  obtain ⟨n, en⟩ := Int.eq_ofNat_of_zero_le (show 0 ≤ L by omega)
  refine WP_count [(11, 11), (21, 45)] 0 n (Nat.zero_le _) (fun _ i fr K => fr 21 = .int .i64 (i : Int) ∧ ∃ F fv k', (k0 ≤ k' ∧ k' ≤ k0 + 2 + i) ∧ SpE h id v silk k' K ∧ K[h.length]? = some (ribB 0 (.slice none 0 0) (.slice none 0 0)) ∧ K[G1.length]? = some (ribB L fv (.slice none 0 0)) ∧ Own encI 3 (h.length + 2) K fv F ∧ (F.length : Int) ≤ m ∧ (∀ y ∈ F, 0 ≤ y ∧ y < (i : Int)) ∧ F.Pairwise (· < ·) ∧ h.length + 2 ≤ K.length) ?_ ?_ ?_
  · exact ⟨by (simp (disch := first | exact dschN53 | fail) only [go_sem, ↓reduceIte, Int.natCast_zero]; first | done | rfl), [], _, k0 + 1 + 1, by omega, q3, g3, c3, Own.nil, by simp; omega, by simp, by simp, by omega⟩
  · rintro i fr K hi0 hi hAg ⟨r21, F, fv, k', hk', xK, gK, cK, oF, hFl, hFb, hFs, lK⟩
    have q0 := hAg 0 rfl
    have q3 := hAg 3 rfl
    have q8 := hAg 8 rfl
    have q9 := hAg 9 rfl
    have q10 := hAg 10 rfl
    have q20 := hAg 20 rfl
    try simp (disch := first | exact dschN53 | fail) only [go_sem, ↓reduceIte] at q0 q3 q8 q9 q10 q20
    have hlt : ((i : Int) < L) = True := eq_true (by omega)
    have of1 := oF.one
    have hSK := xK.at hS
    have iF : Ints K fv F := own_ints oF ⟨by omega, fun y hy => by have := hFb y hy; omega⟩
    have hn := lenI iF
    have cK' := cK
    unfold ribB at cK'
    by_cases c1 : (F.length : Int) < m
    · have t1 : ((F.length : Int) < m) = True := eq_true c1
      have e1 := fun base => run_once (base := base) (n := X) hSK (by omega) (by omega)
      rw [eX] at e1
      obtain ⟨K1, eK1⟩ : ∃ K1, K1 = K.set id (spB v silk (k' + 1)) := ⟨_, rfl⟩
      rw [← eK1] at e1
      have xK1 : SpE h id v silk (k' + 1) K1 := by rw [eK1]; exact xK.step hid
      have gK1 : K1[h.length]? = some (ribB 0 (.slice none 0 0) (.slice none 0 0)) := by rw [eK1, List.getElem?_set_ne (by omega)]; exact gK
      have cK1 : K1[G1.length]? = some (ribB L fv (.slice none 0 0)) := by rw [eK1, List.getElem?_set_ne (by omega)]; exact cK
      have oF1 : Own encI 3 (h.length + 2) K1 fv F := by rw [eK1]; exact oF.set (by omega)
      have lK1 : K1.length = K.length := by rw [eK1, List.length_set]
      have cK1' := cK1
      unfold ribB at cK1'
      rcases Bool.eq_false_or_eq_true (decide (up silk k' (max 2 (L.tdiv (max 1 m)) - 1) = 0)) with qb | qb
      · rw [qb] at e1
        obtain ⟨w', K3, ea, oW, lW, eW2, oneW, kW⟩ := oF1.append1X (P := prog) (y := (i : Int)) (a := .int .i64 (i : Int)) (base := base) (t := 22) rfl rfl Fc.el22 encI_sc (by omega) (by omega) (by omega)
        have kW : KeepO encI 3 K1 K3 := kW
        have cK3 := kW.box cK1'
        have gK3 := kW.box gK1
        have xK3 : SpE h id v silk (k' + 1) K3 := eW2 _ (by rw [List.length_set]; omega) xK1
        have hsp := @Nat.succ_ne_zero; repeat' (first | simp (disch := first | exact dschN53 | fail) only [go_sem, ↓reduceIte, hsp, r21, q0, q3, q8, q9, q10, q20, hlt, cK', hn, t1, hm1, hm0, e1, cK1', ea, cK3] | refine WP_drw ?_ | refine cnd_intro (fun hsp => ?_) fun hsp => ?_)
        refine ⟨by (repeat first | exact Agree.refl | assumption | refine Agree.put rfl ?_ | refine Agree.put0 ?_ | refine Agree.sub rfl (by assumption) ?_), by omega, F ++ [(i : Int)], w', k' + 1, by omega, Ext.set xK3 (by rw [List.length_set]; omega), gK3, rfl, Own.setBox oW cK3, by simp; omega, fun y hy => ?_, ?_, by omega⟩
        · rcases List.mem_append.1 hy with hy | hy
          · have := hFb y hy; omega
          · rw [List.mem_singleton] at hy; omega
        · refine List.pairwise_append.2 ⟨hFs, by simp, fun a ha b hb => ?_⟩
          have := hFb a ha
          rw [List.mem_singleton] at hb; omega
      · rw [qb] at e1
        have hsp := @Nat.succ_ne_zero; repeat' (first | simp (disch := first | exact dschN53 | fail) only [go_sem, ↓reduceIte, hsp, r21, q0, q3, q8, q9, q10, q20, hlt, cK', hn, t1, hm1, hm0, e1] | refine WP_drw ?_ | refine cnd_intro (fun hsp => ?_) fun hsp => ?_)
        exact ⟨by (repeat first | exact Agree.refl | assumption | refine Agree.put rfl ?_ | refine Agree.put0 ?_ | refine Agree.sub rfl (by assumption) ?_), by omega, F, fv, k' + 1, by omega, xK1, gK1, cK1, oF1, hFl, fun y hy => by have := hFb y hy; omega, hFs, by omega⟩
    · have t1 : ((F.length : Int) < m) = False := eq_false c1
      have hsp := @Nat.succ_ne_zero; repeat' (first | simp (disch := first | exact dschN53 | fail) only [go_sem, ↓reduceIte, hsp, r21, q0, q3, q8, q9, q10, q20, hlt, cK', hn, t1] | refine WP_drw ?_ | refine cnd_intro (fun hsp => ?_) fun hsp => ?_)
      exact ⟨by (repeat first | exact Agree.refl | assumption | refine Agree.put rfl ?_ | refine Agree.put0 ?_ | refine Agree.sub rfl (by assumption) ?_), by omega, F, fv, k', by omega, xK, gK, rfl, oF, hFl, fun y hy => by have := hFb y hy; omega, hFs, lK⟩
  · rintro fr K hAg ⟨r21, F, fv, k', hk', xK, gK, cK, oF, hFl, hFb, hFs, lK⟩
    have q0 := hAg 0 rfl
    have q3 := hAg 3 rfl
    have q8 := hAg 8 rfl
    have q9 := hAg 9 rfl
    have q10 := hAg 10 rfl
    have q20 := hAg 20 rfl
    try simp (disch := first | exact dschN53 | fail) only [go_sem, ↓reduceIte] at q0 q3 q8 q9 q10 q20
    have hlt : ((n : Int) < L) = False := eq_false (by omega)
    have of1 := oF.one
    have hSK := xK.at hS
    have ubz := up_bd (silk := silk) (k := k') (n := D) (by omega)
    have ez := fun base => run_upto (base := base) (n := D) hSK (by omega) (by omega)
    obtain ⟨z, ezz⟩ := Int.eq_ofNat_of_zero_le ubz.1
    rw [ezz] at ez ubz
    obtain ⟨K0, eK0⟩ : ∃ K0, K0 = K.set id (spB v silk (k' + 1)) := ⟨_, rfl⟩
    rw [← eK0] at ez
    have xK0 : SpE h id v silk (k' + 1) K0 := by rw [eK0]; exact xK.step hid
    have gK0 : K0[h.length]? = some (ribB 0 (.slice none 0 0) (.slice none 0 0)) := by rw [eK0, List.getElem?_set_ne (by omega)]; exact gK
    have cK0 : K0[G1.length]? = some (ribB L fv (.slice none 0 0)) := by rw [eK0, List.getElem?_set_ne (by omega)]; exact cK
    have oF0 : Own encI 3 (h.length + 2) K0 fv F := by rw [eK0]; exact oF.set (by omega)
    have lK0 : K0.length = K.length := by rw [eK0, List.length_set]
    have hsp := @Nat.succ_ne_zero; repeat' (first | simp (disch := first | exact dschN53 | fail) only [go_sem, ↓reduceIte, hsp, r21, q0, q3, q8, q9, q10, q20, hlt, ez] | refine WP_drw ?_ | refine cnd_intro (fun hsp => ?_) fun hsp => ?_)
    refine WP_count [(49, 67)] 0 z (Nat.zero_le _) (fun _ j fr K' => fr 49 = .int .i64 (j : Int) ∧ ∃ W wv k2, (k0 ≤ k2 ∧ k2 ≤ k' + 1 + 5 * j) ∧ SpE h id v silk k2 K' ∧ K'[h.length]? = some (ribB 0 (.slice none 0 0) (.slice none 0 0)) ∧ K'[G1.length]? = some (ribB L fv wv) ∧ Own encI 3 (h.length + 2) K' fv F ∧ Own encW 49 (h.length + 2) K' wv W ∧ W.length ≤ j ∧ (∀ w ∈ W, WntOk w) ∧ h.length + 2 ≤ K'.length) ?_ ?_ ?_
    · exact ⟨by (simp (disch := first | exact dschN53 | fail) only [go_sem, ↓reduceIte, Int.natCast_zero]; first | done | rfl), [], .slice none 0 0, k' + 1, by omega, xK0, gK0, cK0, oF0, Own.nil, by simp, by simp, by omega⟩
    · rintro j fr2 K' hj0 hj hA2 ⟨r49, W, wv, k2, hk2, xK2, gK2, cK2, oF2, oW2, hWl, hWo, lK2⟩
      have d0 := hA2 0 rfl
      have d8 := hA2 8 rfl
      have d9 := hA2 9 rfl
      have d48 := hA2 48 rfl
      try simp (disch := first | exact dschN53 | fail) only [go_sem, ↓reduceIte, q0, q8, q9] at d0 d8 d9 d48
      have hlt2 : ((j : Int) < (z : Int)) = True := eq_true (by omega)
      have owv := oW2.one
      have ub1 := up_bd (silk := silk) (k := k2) (n := (9 - 1)) (by omega)
      have e1 := fun base => run_from (base := base) (lo := 1) (hi := 9) (xK2.at hS) (by omega) (by omega) (by omega)
      obtain ⟨w1, ew1⟩ : ∃ w1, w1 = 1 + up silk k2 (9 - 1) := ⟨_, rfl⟩
      rw [← ew1] at e1
      obtain ⟨M1, eM1⟩ : ∃ M1, M1 = K'.set id (spB v silk (k2 + 1)) := ⟨_, rfl⟩
      rw [← eM1] at e1
      have xM1 : SpE h id v silk (k2 + 1) M1 := by rw [eM1]; exact xK2.step hid
      have gM1 : M1[h.length]? = some (ribB 0 (.slice none 0 0) (.slice none 0 0)) := by rw [eM1, List.getElem?_set_ne (by omega)]; exact gK2
      have cM1 : M1[G1.length]? = some (ribB L fv wv) := by rw [eM1, List.getElem?_set_ne (by omega)]; exact cK2
      have fM1 : Own encI 3 (h.length + 2) M1 fv F := by rw [eM1]; exact oF2.set (by omega)
      have wM1 : Own encW 49 (h.length + 2) M1 wv W := by rw [eM1]; exact oW2.set (by omega)
      have lM1 : M1.length = K'.length := by rw [eM1, List.length_set]
      have ub2 := up_bd (silk := silk) (k := (k2 + 1)) (n := 40) (by omega)
      have e2 := fun base => run_upto (base := base) (n := 40) (xM1.at hS) (by omega) (by omega)
      obtain ⟨w2, ew2⟩ : ∃ w2, w2 = up silk ((k2 + 1)) 40 := ⟨_, rfl⟩
      rw [← ew2] at e2
      obtain ⟨M2, eM2⟩ : ∃ M2, M2 = M1.set id (spB v silk ((k2 + 1) + 1)) := ⟨_, rfl⟩
      rw [← eM2] at e2
      have xM2 : SpE h id v silk ((k2 + 1) + 1) M2 := by rw [eM2]; exact xM1.step hid
      have gM2 : M2[h.length]? = some (ribB 0 (.slice none 0 0) (.slice none 0 0)) := by rw [eM2, List.getElem?_set_ne (by omega)]; exact gM1
      have cM2 : M2[G1.length]? = some (ribB L fv wv) := by rw [eM2, List.getElem?_set_ne (by omega)]; exact cM1
      have fM2 : Own encI 3 (h.length + 2) M2 fv F := by rw [eM2]; exact fM1.set (by omega)
      have wM2 : Own encW 49 (h.length + 2) M2 wv W := by rw [eM2]; exact wM1.set (by omega)
      have lM2 : M2.length = M1.length := by rw [eM2, List.length_set]
      have ub3 := up_bd (silk := silk) (k := ((k2 + 1) + 1)) (n := 8) (by omega)
      have e3 := fun base => run_upto (base := base) (n := 8) (xM2.at hS) (by omega) (by omega)
      obtain ⟨w3, ew3⟩ : ∃ w3, w3 = up silk (((k2 + 1) + 1)) 8 := ⟨_, rfl⟩
      rw [← ew3] at e3
      obtain ⟨M3, eM3⟩ : ∃ M3, M3 = M2.set id (spB v silk (((k2 + 1) + 1) + 1)) := ⟨_, rfl⟩
      rw [← eM3] at e3
      have xM3 : SpE h id v silk (((k2 + 1) + 1) + 1) M3 := by rw [eM3]; exact xM2.step hid
      have gM3 : M3[h.length]? = some (ribB 0 (.slice none 0 0) (.slice none 0 0)) := by rw [eM3, List.getElem?_set_ne (by omega)]; exact gM2
      have cM3 : M3[G1.length]? = some (ribB L fv wv) := by rw [eM3, List.getElem?_set_ne (by omega)]; exact cM2
      have fM3 : Own encI 3 (h.length + 2) M3 fv F := by rw [eM3]; exact fM2.set (by omega)
      have wM3 : Own encW 49 (h.length + 2) M3 wv W := by rw [eM3]; exact wM2.set (by omega)
      have lM3 : M3.length = M2.length := by rw [eM3, List.length_set]
      have ub4 := up_bd (silk := silk) (k := (((k2 + 1) + 1) + 1)) (n := 2) (by omega)
      have e4 := fun base => run_upto (base := base) (n := 2) (xM3.at hS) (by omega) (by omega)
      obtain ⟨w4, ew4⟩ : ∃ w4, w4 = up silk ((((k2 + 1) + 1) + 1)) 2 := ⟨_, rfl⟩
      rw [← ew4] at e4
      obtain ⟨M4, eM4⟩ : ∃ M4, M4 = M3.set id (spB v silk ((((k2 + 1) + 1) + 1) + 1)) := ⟨_, rfl⟩
      rw [← eM4] at e4
      have xM4 : SpE h id v silk ((((k2 + 1) + 1) + 1) + 1) M4 := by rw [eM4]; exact xM3.step hid
      have gM4 : M4[h.length]? = some (ribB 0 (.slice none 0 0) (.slice none 0 0)) := by rw [eM4, List.getElem?_set_ne (by omega)]; exact gM3
      have cM4 : M4[G1.length]? = some (ribB L fv wv) := by rw [eM4, List.getElem?_set_ne (by omega)]; exact cM3
      have fM4 : Own encI 3 (h.length + 2) M4 fv F := by rw [eM4]; exact fM3.set (by omega)
      have wM4 : Own encW 49 (h.length + 2) M4 wv W := by rw [eM4]; exact wM3.set (by omega)
      have lM4 : M4.length = M3.length := by rw [eM4, List.length_set]
      have ub5 := up_bd (silk := silk) (k := ((((k2 + 1) + 1) + 1) + 1)) (n := 2) (by omega)
      have e5 := fun base => run_upto (base := base) (n := 2) (xM4.at hS) (by omega) (by omega)
      obtain ⟨w5, ew5⟩ : ∃ w5, w5 = up silk (((((k2 + 1) + 1) + 1) + 1)) 2 := ⟨_, rfl⟩
      rw [← ew5] at e5
      obtain ⟨M5, eM5⟩ : ∃ M5, M5 = M4.set id (spB v silk (((((k2 + 1) + 1) + 1) + 1) + 1)) := ⟨_, rfl⟩
      rw [← eM5] at e5
      have xM5 : SpE h id v silk (((((k2 + 1) + 1) + 1) + 1) + 1) M5 := by rw [eM5]; exact xM4.step hid
      have gM5 : M5[h.length]? = some (ribB 0 (.slice none 0 0) (.slice none 0 0)) := by rw [eM5, List.getElem?_set_ne (by omega)]; exact gM4
      have cM5 : M5[G1.length]? = some (ribB L fv wv) := by rw [eM5, List.getElem?_set_ne (by omega)]; exact cM4
      have fM5 : Own encI 3 (h.length + 2) M5 fv F := by rw [eM5]; exact fM4.set (by omega)
      have wM5 : Own encW 49 (h.length + 2) M5 wv W := by rw [eM5]; exact wM4.set (by omega)
      have lM5 : M5.length = M4.length := by rw [eM5, List.length_set]
      obtain ⟨wr, ewr⟩ : ∃ wr : Wnt, wr = ⟨w1, w2, w3, w4, w5⟩ := ⟨_, rfl⟩
      have hwr : WntOk wr := by rw [ewr]; exact ⟨by simp only; omega, by simp only; omega, by simp only; omega, by simp only; omega, by simp only; omega⟩
      have bsw : ∀ {lit : Bool}, bsA prog lit M5 23 1 [(0, .agg [.int .i64 w1, .int .i64 w2, .int .i64 w3, .int .i64 w4, .int .i64 w5])] = some (.slice (some ⟨M5.length, 0, 0⟩) 1 1, M5 ++ [rowE encW 49 [wr] 0]) := fun {lit} => by
        rw [ewr]; exact bsWW1 (w := ⟨w1, w2, w3, w4, w5⟩)
      obtain ⟨w', M6, ea, oW6, lW6, eW6, oneW, kW⟩ := snocWW (base := base) (r := wr) wM5 (by omega) (by omega) (by omega)
      have c6 := kW.box cM5
      have g6 := kW.box gM5
      have f6 := kW.own fM5 (by decide)
      have x6 : SpE h id v silk ((((((k2 + 1) + 1) + 1) + 1) + 1)) M6 := eW6 _ (by rw [List.length_set]; omega) xM5
      have cK2' := cK2
      have c6' := c6
      unfold ribB at cK2' c6'
      have hlow : refsLow K'.length wv := oW2.low_refs
      have hsp := @Nat.succ_ne_zero; repeat' (first | simp (disch := first | exact dschN53 | fail) only [go_sem, ↓reduceIte, hsp, r49, d0, d8, d9, d48, q0, q3, q8, q9, q10, q20, hlt2] | refine WP_drw ?_ | refine cnd_intro (fun hsp => ?_) fun hsp => ?_)
      refine WPS_go ?_
      refine WP_wild [⟨1, 23, 51, ⟨G1.length, 0, 2⟩, wv, 14⟩] (by kernel_rfl) (by kernel_rfl) (by kernel_rfl) ⟨hlow, trivial⟩ fun KK hK => ?_
      iterate 17
        rw [TRS_cons]
        refine ⟨by first | (simp (disch := first | exact dschN53 | fail) only [go_sem, ↓reduceIte, r49, d0, d8, d9, d48, q0, q3, q8, q9, q10, q20, cK2', e1, cM1, e2, cM2, e3, cM3, e4, cM4, e5, cM5, bsw, ea, c6', ldsQ_cons, ldsQ_nil, grdQ_cons, grdQ_nil, if_true, Nat.reduceLeDiff]; done) | exact trivial, ?_⟩
        simp (disch := first | exact dschN53 | fail) only [go_sem, ↓reduceIte, r49, d0, d8, d9, d48, q0, q3, q8, q9, q10, q20, cK2', e1, cM1, e2, cM2, e3, cM3, e4, cM4, e5, cM5, bsw, ea, c6']
      rw [TRS_nil]
      refine ⟨by first | (simp (disch := first | exact dschN53 | fail) only [go_sem, ↓reduceIte, r49, d0, d8, d9, d48, q0, q3, q8, q9, q10, q20, cK2', e1, cM1, e2, cM2, e3, cM3, e4, cM4, e5, cM5, bsw, ea, c6', ldsQ_cons, ldsQ_nil, grdQ_cons, grdQ_nil, if_true, Nat.reduceLeDiff]; done) | exact trivial, ?_⟩
      subst hK
      have hsp := @Nat.succ_ne_zero; repeat' (first | simp (disch := first | exact dschN53 | fail) only [go_sem, ↓reduceIte, hsp, r49, d0, d8, d9, d48, q0, q3, q8, q9, q10, q20] | refine WP_drw ?_ | refine cnd_intro (fun hsp => ?_) fun hsp => ?_)
      refine ⟨by (repeat first | exact Agree.refl | assumption | refine Agree.put rfl ?_ | refine Agree.put0 ?_ | refine Agree.sub rfl (by assumption) ?_), by omega, W ++ [wr], w', _, ?_, Ext.set x6 (by rw [List.length_set]; omega), g6, rfl, Own.setBox f6 c6, Own.setBox oW6 c6, by simp; omega, fun w hw => ?_, by omega⟩
      · omega
      · rcases List.mem_append.1 hw with hw | hw
        · exact hWo w hw
        · rw [List.mem_singleton] at hw; rw [hw]; exact hwr
    · rintro fr2 K' hA2 ⟨r49, W, wv, k2, hk2, xK2, gK2, cK2, oF2, oW2, hWl, hWo, lK2⟩
      have d0 := hA2 0 rfl
      have d8 := hA2 8 rfl
      have d9 := hA2 9 rfl
      have d48 := hA2 48 rfl
      try simp (disch := first | exact dschN53 | fail) only [go_sem, ↓reduceIte, q0, q8, q9] at d0 d8 d9 d48
      have hlt2 : ((z : Int) < (z : Int)) = False := eq_false (by omega)
      have owv := oW2.one
      have gK2' := gK2
      have cK2' := cK2
      unfold ribB at gK2' cK2'
      have hsp := @Nat.succ_ne_zero; repeat' (first | simp (disch := first | exact dschN53 | fail) only [go_sem, ↓reduceIte, hsp, r49, d0, d8, d9, d48, q0, q3, q8, q9, q10, q20, hlt2, cK2', gK2'] | refine WP_drw ?_ | refine cnd_intro (fun hsp => ?_) fun hsp => ?_)
      refine ⟨L, F, W, fv, wv, k2, rfl, by omega, Ext.set xK2 (by rw [List.length_set]; omega), (oF2.setBox gK2').low (by omega), (oW2.setBox gK2').low (by omega), ⟨by simp only; omega, by simp only; omega, by simp only; omega, hWo, fun y hy => by have := hFb y hy; simp only; omega, hFs⟩, hL.2, by omega, by omega⟩
theorem run_LMade {base id k0 : Nat} {h : Heap} {v : AVal} {silk : List Int} {A B D : Int} (hb : base ≤ h.length) (hS : SpAt h id v silk k0) (hk : k0 ≤ 100000) (hA : 1 ≤ A ∧ A ≤ 60) (hB : 0 ≤ B ∧ B ≤ 12) (hD : 0 ≤ D ∧ D ≤ 6) :
    Ret prog raw base (.fn 26 [] []) [.ptr (some ⟨id, 0, 0⟩), .int .i64 A, .int .i64 B, .int .i64 D] h (fun w H => ∃ L F W fv wv k', w = .agg [.int .i64 L, fv, wv] ∧ (k0 ≤ k' ∧ k' ≤ k0 + 100) ∧ SpE h id v silk k' H ∧ Own encI 3 h.length H fv F ∧ Own encW 49 h.length H wv W ∧ RibOk ⟨L, F, W⟩ ∧ L ≤ A) := by
  obtain ⟨w, H, e, L, F, W, fv, wv, k', a1, a2, a3, a4, a5, a6, a7, a8⟩ := run_LMadeD hb hS hk hA hB hD
  exact ⟨w, H, e, L, F, W, fv, wv, k', a1, a2, a3, a4, a5, a6, a7⟩
end Go.AM
