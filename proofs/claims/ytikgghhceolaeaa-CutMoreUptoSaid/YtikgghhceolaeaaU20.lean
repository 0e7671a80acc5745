/-
  Contracts: a ribbon that is made (Made).
-/
import Derived.Test.YtikgghhceolaeaaU19
set_option linter.unusedSimpArgs false
set_option linter.unusedVariables false
namespace Go.AM
open Go.Proofs.Try
theorem dschN53 {p : Prop} (h : p := by first | exact Nat.ne_of_beq_eq_false rfl | assumption | (apply asOne; (first | exact One.int | exact One.bool | assumption | exact Ints.one (by assumption) | exact Rows.one (by assumption) | exact Own.one (by assumption) | exact One.lit ⟨rfl, rfl, rfl⟩)) | (apply asSp; (repeat first | assumption | apply SpAt.set | (refine SpAt.new ?_ (by (first | rfl | (simp only [List.length_append, List.length_cons, List.length_nil, List.length_set]; done) | (simp only [List.length_append, List.length_cons, List.length_nil, List.length_set]; omega)))) | apply SpAt.app | apply Bytes.app); done) | (apply asBytes; (repeat first | assumption | apply Bytes.app); done) | (apply asInts; (repeat first | assumption | exact ints_nil | apply Ints.app); done) | (apply asRows; (repeat first | assumption | exact Rows.nil | apply Rows.app); done) | (apply asScal; (first | apply allS1 | apply allS2 | apply allS3 | apply allS4) <;> (first | exact One.int | exact One.bool | assumption | exact Ints.one (by assumption) | exact Rows.one (by assumption) | exact Own.one (by assumption) | exact One.lit ⟨rfl, rfl, rfl⟩)) | exact litT rfl | exact litF rfl | omega | (simp only [List.length_append, List.length_cons, List.length_nil, List.length_set, List.length_reverse]; first | done | omega) | fail) : p := h
attribute [-go_sem] put_ne put_same
attribute [local go_sem ↓] put_if
theorem bsWW1 {lit : Bool} {H : Heap} {w : Wnt} : bsA prog lit H 23 1 [(0, .agg [.int .i64 w.lg, .int .i64 w.pr, .int .i64 w.off, .int .i64 w.fl, .int .i64 w.jn])] = some (.slice (some ⟨H.length, 0, 0⟩) 1 1, H ++ [rowE encW 49 [w] 0]) := by
  simp [bsA, rowOf, Fc.el23, fillA, repCells, AVal.isN, AVal.cells, splice, rowE, flat, encW]
theorem snocWW {b base : Nat} {A : Heap} {w : AVal} {l : List Wnt} {r : Wnt} (hO : Own encW 49 b A w l) (hb : base ≤ b) (hbh : b ≤ A.length) (hl : l.length ≤ 1000000) :
    ∃ w' H, appendA prog base (A ++ [rowE encW 49 [r] 0]) 23 w (.slice (some ⟨A.length, 0, 0⟩) 1 1) = some (w', H) ∧ Own encW 49 b H w' (l ++ [r]) ∧ A.length ≤ H.length ∧ (∀ G, G.length ≤ b → Ext G A → Ext G H) ∧ One w' ∧ KeepO encW 49 A H := by
  obtain ⟨B, eB⟩ : ∃ B, B = A ++ [rowE encW 49 [r] 0] := ⟨_, rfl⟩
  have xB : Ext A B := by rw [eB]; exact .app .refl
  have lB' : B.length = A.length + 1 := by rw [eB]; simp
  have hx : Rows encW B (.slice (some ⟨A.length, 0, 0⟩) 1 1) [r] := Rows.own (by rw [eB]; exact get_eq rfl) rfl (by simp)
  rw [← eB]
  obtain ⟨w', H, a1, a2, a3, a4, a5, a6⟩ := (hO.ext xB).appendRX (P := prog) (base := base) (t := 23) hx Fc.el23 encW_sc hb (by omega) (by simp) (by simp; omega)
  have a6 : KeepO encW 49 B H := a6
  exact ⟨w', H, a1, a2, by omega, fun G h1 h2 => a4 G h1 (h2.trans xB), a5, fun i y hi hy => a6 i y (xB.get hi) hy⟩
theorem stN53 {base : Nat} {l : List Oper} {s : St} {Q : AExit → St → Prop} : WP prog raw base (.region 11 l.toArray true) s Q = WPS prog raw base (.region 11 l.toArray true) s Q := WP_stop
attribute [local go_sem ↓ 3000] stN53
set_option maxRecDepth 100000 in
set_option maxHeartbeats 4000000 in
theorem run_LMadeD {base id k0 : Nat} {h : Heap} {v : AVal} {silk : List Int} {A B D : Int} (hb : base ≤ h.length) (hS : SpAt h id v silk k0) (hk : k0 ≤ 100000) (hA : 1 ≤ A ∧ A ≤ 60) (hB : 0 ≤ B ∧ B ≤ 12) (hD : 0 ≤ D ∧ D ≤ 6) :
    Ret prog raw base (.fn 26 [] []) [.ptr (some ⟨id, 0, 0⟩), .int .i64 A, .int .i64 B, .int .i64 D] h (fun w H => ∃ L F W fv wv k', w = .agg [.int .i64 L, fv, wv] ∧ (k0 ≤ k' ∧ k' ≤ k0 + 100) ∧ SpE h id v silk k' H ∧ Own encI 3 h.length H fv F ∧ Own encW 49 h.length H wv W ∧ RibOk ⟨L, F, W⟩ ∧ L ≤ A ∧ (F.length : Int) ≤ B ∧ (W.length : Int) ≤ D) := by
  have hid := lt_of_get hS.1
  have hS0 : SpAt (h ++ [ribB 0 (.slice none 0 0) (.slice none 0 0)]) id v silk k0 := hS.app
  have b1 := up_bd (silk := silk) (k := k0) (n := A - 1) (by omega)
  have b2 := up_bd (silk := silk) (k := k0 + 1) (n := B) (by omega)
  obtain ⟨G, eG⟩ : ∃ G, G = h ++ [ribB 0 (.slice none 0 0) (.slice none 0 0)] := ⟨_, rfl⟩
  rw [← eG] at hS0
  have lG : G.length = h.length + 1 := by rw [eG]; simp
  have xG : Ext h G := by rw [eG]; exact .app .refl
  have g0 : G[h.length]? = some (ribB 0 (.slice none 0 0) (.slice none 0 0)) := by rw [eG]; exact get_eq rfl
  have f1 := fun base => run_from (base := base) (lo := 1) (hi := A) hS0 (by omega) (by omega) (by omega)
  obtain ⟨L, eL⟩ : ∃ L, L = 1 + up silk k0 (A - 1) := ⟨_, rfl⟩
  have hL : 1 ≤ L ∧ L ≤ A := by omega
  rw [← eL] at f1
  obtain ⟨G1, eG1⟩ : ∃ G1, G1 = G.set id (spB v silk (k0 + 1)) := ⟨_, rfl⟩
  rw [← eG1] at f1
  have q1 : SpE h id v silk (k0 + 1) G1 := by rw [eG1]; exact ((SpE.refl hS).ext xG).step hid
  have l1 : G1.length = h.length + 1 := by rw [eG1, List.length_set, lG]
  have g1 : G1[h.length]? = some (ribB 0 (.slice none 0 0) (.slice none 0 0)) := by rw [eG1, List.getElem?_set_ne (by omega)]; exact g0
  obtain ⟨G2, eG2⟩ : ∃ G2, G2 = G1 ++ [ribB L (.slice none 0 0) (.slice none 0 0)] := ⟨_, rfl⟩
  have q2 : SpE h id v silk (k0 + 1) G2 := by rw [eG2]; exact q1.app
  have l2 : G2.length = h.length + 2 := by rw [eG2]; simp [l1]
  have g2 : G2[h.length]? = some (ribB 0 (.slice none 0 0) (.slice none 0 0)) := by rw [eG2]; exact get_app g1
  have c2 : G2[h.length + 1]? = some (ribB L (.slice none 0 0) (.slice none 0 0)) := by rw [eG2]; exact get_eq (by rw [l1])
  have f2 := fun base => run_upto (base := base) (n := B) (q2.at hS) (by omega) (by omega)
  obtain ⟨m, em⟩ : ∃ m, m = up silk (k0 + 1) B := ⟨_, rfl⟩
  rw [← em] at b2 f2
  obtain ⟨G3, eG3⟩ : ∃ G3, G3 = G2.set id (spB v silk (k0 + 1 + 1)) := ⟨_, rfl⟩
  rw [← eG3] at f2
  have q3 : SpE h id v silk (k0 + 1 + 1) G3 := by rw [eG3]; exact q2.step hid
  have l3 : G3.length = h.length + 2 := by rw [eG3, List.length_set, l2]
  have g3 : G3[h.length]? = some (ribB 0 (.slice none 0 0) (.slice none 0 0)) := by rw [eG3, List.getElem?_set_ne (by omega)]; exact g2
  have c3 : G3[h.length + 1]? = some (ribB L (.slice none 0 0) (.slice none 0 0)) := by rw [eG3, List.getElem?_set_ne (by omega)]; exact c2
  have hq : 0 ≤ L.tdiv (max 1 m) ∧ L.tdiv (max 1 m) ≤ 60 := by
    rw [Int.tdiv_eq_ediv_of_nonneg (by omega)]
    have h1 : 0 < max 1 m := by omega
    refine ⟨Int.ediv_nonneg (by omega) (by omega), ?_⟩
    exact Int.le_trans (Int.ediv_le_self _ (by omega)) (by omega)
  have hm0 : max 1 m ≠ 0 := by omega
  have hm1 : (max 1 m = 0) = False := eq_false hm0
  obtain ⟨X, eX⟩ : ∃ X, X = max 2 (L.tdiv (max 1 m)) := ⟨_, rfl⟩
  have hX : 2 ≤ X ∧ X ≤ 60 := by omega
  clear eL b1
  rw [show h.length + 1 = G1.length from l1.symm] at c2 c3
  unfold ribB at eG eG2
  have c3' := c3
  unfold ribB at c3'
  refine ret_raw func26 rfl (by kernel_rfl) ?_
  have hsp := @Nat.succ_ne_zero; repeat' (first | simp (disch := first | exact dschN53 | fail) only [go_sem, ↓reduceIte, hsp, ← eG, f1, ← eG2, f2, c3'] | refine WP_drw ?_ | refine cnd_intro (fun hsp => ?_) fun hsp => ?_)
  obtain ⟨n, en⟩ := Int.eq_ofNat_of_zero_le (show 0 ≤ L by omega)
  refine WP_count [(11, 11), (21, 45)] 0 n (Nat.zero_le _) (fun _ i fr K => fr 21 = .int .i64 (i : Int) ∧ ∃ F fv k', (k0 ≤ k' ∧ k' ≤ k0 + 2 + i) ∧ SpE h id v silk k' K ∧ K[h.length]? = some (ribB 0 (.slice none 0 0) (.slice none 0 0)) ∧ K[G1.length]? = some (ribB L fv (.slice none 0 0)) ∧ Own encI 3 (h.length + 2) K fv F ∧ (F.length : Int) ≤ m ∧ (∀ y ∈ F, 0 ≤ y ∧ y < (i : Int)) ∧ F.Pairwise (· < ·) ∧ h.length + 2 ≤ K.length) ?_ ?_ ?_
  · exact ⟨by (simp (disch := first | exact dschN53 | fail) only [go_sem, ↓reduceIte, Int.natCast_zero]; first | done | rfl), [], _, k0 + 1 + 1, by omega, q3, g3, c3, Own.nil, by simp; omega, by simp, by simp, by omega⟩
  · rintro i fr K hi0 hi hAg ⟨r21, F, fv, k', hk', xK, gK, cK, oF, hFl, hFb, hFs, lK⟩
    have q0 := hAg 0 rfl
    have q3 := hAg 3 rfl
    have q8 := hAg 8 rfl
    have q9 := hAg 9 rfl
    have q10 := hAg 10 rfl
    have q20 := hAg 20 rfl
    try simp (disch := first | exact dschN53 | fail) only [go_sem, ↓reduceIte] at q0 q3 q8 q9 q10 q20
    have hlt : ((i : Int) < L) = True := eq_true (by omega)
    have of1 := oF.one
    have hSK := xK.at hS
    have iF : Ints K fv F := own_ints oF ⟨by omega, fun y hy => by have := hFb y hy; omega⟩
    have hn := lenI iF
    have cK' := cK
    unfold ribB at cK'
    by_cases c1 : (F.length : Int) < m
    · have t1 : ((F.length : Int) < m) = True := eq_true c1
      have e1 := fun base => run_once (base := base) (n := X) hSK (by omega) (by omega)
      rw [eX] at e1
      obtain ⟨K1, eK1⟩ : ∃ K1, K1 = K.set id (spB v silk (k' + 1)) := ⟨_, rfl⟩
      rw [← eK1] at e1
      have xK1 : SpE h id v silk (k' + 1) K1 := by rw [eK1]; exact xK.step hid
      have gK1 : K1[h.length]? = some (ribB 0 (.slice none 0 0) (.slice none 0 0)) := by rw [eK1, List.getElem?_set_ne (by omega)]; exact gK
      have cK1 : K1[G1.length]? = some (ribB L fv (.slice none 0 0)) := by rw [eK1, List.getElem?_set_ne (by omega)]; exact cK
      have oF1 : Own encI 3 (h.length + 2) K1 fv F := by rw [eK1]; exact oF.set (by omega)
      have lK1 : K1.length = K.length := by rw [eK1, List.length_set]
      have cK1' := cK1
      unfold ribB at cK1'
      rcases Bool.eq_false_or_eq_true (decide (up silk k' (max 2 (L.tdiv (max 1 m)) - 1) = 0)) with qb | qb
      · rw [qb] at e1
        obtain ⟨w', K3, ea, oW, lW, eW2, oneW, kW⟩ := oF1.append1X (P := prog) (y := (i : Int)) (a := .int .i64 (i : Int)) (base := base) (t := 22) rfl rfl Fc.el22 encI_sc (by omega) (by omega) (by omega)
        have kW : KeepO encI 3 K1 K3 := kW
        have cK3 := kW.box cK1'
        have gK3 := kW.box gK1
        have xK3 : SpE h id v silk (k' + 1) K3 := eW2 _ (by rw [List.length_set]; omega) xK1
        have hsp := @Nat.succ_ne_zero; repeat' (first | simp (disch := first | exact dschN53 | fail) only [go_sem, ↓reduceIte, hsp, r21, q0, q3, q8, q9, q10, q20, hlt, cK', hn, t1, hm1, hm0, e1, cK1', ea, cK3] | refine WP_drw ?_ | refine cnd_intro (fun hsp => ?_) fun hsp => ?_)
        refine ⟨by (repeat first | exact Agree.refl | assumption | refine Agree.put rfl ?_ | refine Agree.put0 ?_ | refine Agree.sub rfl (by assumption) ?_), by omega, F ++ [(i : Int)], w', k' + 1, by omega, Ext.set xK3 (by rw [List.length_set]; omega), gK3, rfl, Own.setBox oW cK3, by simp; omega, fun y hy => ?_, ?_, by omega⟩
        · rcases List.mem_append.1 hy with hy | hy
          · have := hFb y hy; omega
          · rw [List.mem_singleton] at hy; omega
        · refine List.pairwise_append.2 ⟨hFs, by simp, fun a ha b hb => ?_⟩
          have := hFb a ha
          rw [List.mem_singleton] at hb; omega
      · rw [qb] at e1
        have hsp := @Nat.succ_ne_zero; repeat' (first | simp (disch := first | exact dschN53 | fail) only [go_sem, ↓reduceIte, hsp, r21, q0, q3, q8, q9, q10, q20, hlt, cK', hn, t1, hm1, hm0, e1] | refine WP_drw ?_ | refine cnd_intro (fun hsp => ?_) fun hsp => ?_)
        exact ⟨by (repeat first | exact Agree.refl | assumption | refine Agree.put rfl ?_ | refine Agree.put0 ?_ | refine Agree.sub rfl (by assumption) ?_), by omega, F, fv, k' + 1, by omega, xK1, gK1, cK1, oF1, hFl, fun y hy => by have := hFb y hy; omega, hFs, by omega⟩
    · have t1 : ((F.length : Int) < m) = False := eq_false c1
      have hsp := @Nat.succ_ne_zero; repeat' (first | simp (disch := first | exact dschN53 | fail) only [go_sem, ↓reduceIte, hsp, r21, q0, q3, q8, q9, q10, q20, hlt, cK', hn, t1] | refine WP_drw ?_ | refine cnd_intro (fun hsp => ?_) fun hsp => ?_)
      exact ⟨by (repeat first | exact Agree.refl | assumption | refine Agree.put rfl ?_ | refine Agree.put0 ?_ | refine Agree.sub rfl (by assumption) ?_), by omega, F, fv, k', by omega, xK, gK, rfl, oF, hFl, fun y hy => by have := hFb y hy; omega, hFs, lK⟩
  · rintro fr K hAg ⟨r21, F, fv, k', hk', xK, gK, cK, oF, hFl, hFb, hFs, lK⟩
    have q0 := hAg 0 rfl
    have q3 := hAg 3 rfl
    have q8 := hAg 8 rfl
    have q9 := hAg 9 rfl
    have q10 := hAg 10 rfl
    have q20 := hAg 20 rfl
    try simp (disch := first | exact dschN53 | fail) only [go_sem, ↓reduceIte] at q0 q3 q8 q9 q10 q20
    have hlt : ((n : Int) < L) = False := eq_false (by omega)
    have of1 := oF.one
    have hSK := xK.at hS
    have ubz := up_bd (silk := silk) (k := k') (n := D) (by omega)
    have ez := fun base => run_upto (base := base) (n := D) hSK (by omega) (by omega)
    obtain ⟨z, ezz⟩ := Int.eq_ofNat_of_zero_le ubz.1
    rw [ezz] at ez ubz
    obtain ⟨K0, eK0⟩ : ∃ K0, K0 = K.set id (spB v silk (k' + 1)) := ⟨_, rfl⟩
    rw [← eK0] at ez
    have xK0 : SpE h id v silk (k' + 1) K0 := by rw [eK0]; exact xK.step hid
    have gK0 : K0[h.length]? = some (ribB 0 (.slice none 0 0) (.slice none 0 0)) := by rw [eK0, List.getElem?_set_ne (by omega)]; exact gK
    have cK0 : K0[G1.length]? = some (ribB L fv (.slice none 0 0)) := by rw [eK0, List.getElem?_set_ne (by omega)]; exact cK
    have oF0 : Own encI 3 (h.length + 2) K0 fv F := by rw [eK0]; exact oF.set (by omega)
    have lK0 : K0.length = K.length := by rw [eK0, List.length_set]
    have hsp := @Nat.succ_ne_zero; repeat' (first | simp (disch := first | exact dschN53 | fail) only [go_sem, ↓reduceIte, hsp, r21, q0, q3, q8, q9, q10, q20, hlt, ez] | refine WP_drw ?_ | refine cnd_intro (fun hsp => ?_) fun hsp => ?_)
    refine WP_count [(49, 67)] 0 z (Nat.zero_le _) (fun _ j fr K' => fr 49 = .int .i64 (j : Int) ∧ ∃ W wv k2, (k0 ≤ k2 ∧ k2 ≤ k' + 1 + 5 * j) ∧ SpE h id v silk k2 K' ∧ K'[h.length]? = some (ribB 0 (.slice none 0 0) (.slice none 0 0)) ∧ K'[G1.length]? = some (ribB L fv wv) ∧ Own encI 3 (h.length + 2) K' fv F ∧ Own encW 49 (h.length + 2) K' wv W ∧ W.length ≤ j ∧ (∀ w ∈ W, WntOk w) ∧ h.length + 2 ≤ K'.length) ?_ ?_ ?_
    · exact ⟨by (simp (disch := first | exact dschN53 | fail) only [go_sem, ↓reduceIte, Int.natCast_zero]; first | done | rfl), [], .slice none 0 0, k' + 1, by omega, xK0, gK0, cK0, oF0, Own.nil, by simp, by simp, by omega⟩
    · rintro j fr2 K' hj0 hj hA2 ⟨r49, W, wv, k2, hk2, xK2, gK2, cK2, oF2, oW2, hWl, hWo, lK2⟩
      have d0 := hA2 0 rfl
      have d8 := hA2 8 rfl
      have d9 := hA2 9 rfl
      have d48 := hA2 48 rfl
      try simp (disch := first | exact dschN53 | fail) only [go_sem, ↓reduceIte, q0, q8, q9] at d0 d8 d9 d48
      have hlt2 : ((j : Int) < (z : Int)) = True := eq_true (by omega)
      have owv := oW2.one
      have ub1 := up_bd (silk := silk) (k := k2) (n := (9 - 1)) (by omega)
      have e1 := fun base => run_from (base := base) (lo := 1) (hi := 9) (xK2.at hS) (by omega) (by omega) (by omega)
      obtain ⟨w1, ew1⟩ : ∃ w1, w1 = 1 + up silk k2 (9 - 1) := ⟨_, rfl⟩
      rw [← ew1] at e1
      obtain ⟨M1, eM1⟩ : ∃ M1, M1 = K'.set id (spB v silk (k2 + 1)) := ⟨_, rfl⟩
      rw [← eM1] at e1
      have xM1 : SpE h id v silk (k2 + 1) M1 := by rw [eM1]; exact xK2.step hid
      have gM1 : M1[h.length]? = some (ribB 0 (.slice none 0 0) (.slice none 0 0)) := by rw [eM1, List.getElem?_set_ne (by omega)]; exact gK2
      have cM1 : M1[G1.length]? = some (ribB L fv wv) := by rw [eM1, List.getElem?_set_ne (by omega)]; exact cK2
      have fM1 : Own encI 3 (h.length + 2) M1 fv F := by rw [eM1]; exact oF2.set (by omega)
      have wM1 : Own encW 49 (h.length + 2) M1 wv W := by rw [eM1]; exact oW2.set (by omega)
      have lM1 : M1.length = K'.length := by rw [eM1, List.length_set]
      have ub2 := up_bd (silk := silk) (k := (k2 + 1)) (n := 40) (by omega)
      have e2 := fun base => run_upto (base := base) (n := 40) (xM1.at hS) (by omega) (by omega)
      obtain ⟨w2, ew2⟩ : ∃ w2, w2 = up silk ((k2 + 1)) 40 := ⟨_, rfl⟩
      rw [← ew2] at e2
      obtain ⟨M2, eM2⟩ : ∃ M2, M2 = M1.set id (spB v silk ((k2 + 1) + 1)) := ⟨_, rfl⟩
      rw [← eM2] at e2
      have xM2 : SpE h id v silk ((k2 + 1) + 1) M2 := by rw [eM2]; exact xM1.step hid
      have gM2 : M2[h.length]? = some (ribB 0 (.slice none 0 0) (.slice none 0 0)) := by rw [eM2, List.getElem?_set_ne (by omega)]; exact gM1
      have cM2 : M2[G1.length]? = some (ribB L fv wv) := by rw [eM2, List.getElem?_set_ne (by omega)]; exact cM1
      have fM2 : Own encI 3 (h.length + 2) M2 fv F := by rw [eM2]; exact fM1.set (by omega)
      have wM2 : Own encW 49 (h.length + 2) M2 wv W := by rw [eM2]; exact wM1.set (by omega)
      have lM2 : M2.length = M1.length := by rw [eM2, List.length_set]
      have ub3 := up_bd (silk := silk) (k := ((k2 + 1) + 1)) (n := 8) (by omega)
      have e3 := fun base => run_upto (base := base) (n := 8) (xM2.at hS) (by omega) (by omega)
      obtain ⟨w3, ew3⟩ : ∃ w3, w3 = up silk (((k2 + 1) + 1)) 8 := ⟨_, rfl⟩
      rw [← ew3] at e3
      obtain ⟨M3, eM3⟩ : ∃ M3, M3 = M2.set id (spB v silk (((k2 + 1) + 1) + 1)) := ⟨_, rfl⟩
      rw [← eM3] at e3
      have xM3 : SpE h id v silk (((k2 + 1) + 1) + 1) M3 := by rw [eM3]; exact xM2.step hid
      have gM3 : M3[h.length]? = some (ribB 0 (.slice none 0 0) (.slice none 0 0)) := by rw [eM3, List.getElem?_set_ne (by omega)]; exact gM2
      have cM3 : M3[G1.length]? = some (ribB L fv wv) := by rw [eM3, List.getElem?_set_ne (by omega)]; exact cM2
      have fM3 : Own encI 3 (h.length + 2) M3 fv F := by rw [eM3]; exact fM2.set (by omega)
      have wM3 : Own encW 49 (h.length + 2) M3 wv W := by rw [eM3]; exact wM2.set (by omega)
      have lM3 : M3.length = M2.length := by rw [eM3, List.length_set]
      have ub4 := up_bd (silk := silk) (k := (((k2 + 1) + 1) + 1)) (n := 2) (by omega)
      have e4 := fun base => run_upto (base := base) (n := 2) (xM3.at hS) (by omega) (by omega)
      obtain ⟨w4, ew4⟩ : ∃ w4, w4 = up silk ((((k2 + 1) + 1) + 1)) 2 := ⟨_, rfl⟩
      rw [← ew4] at e4
      obtain ⟨M4, eM4⟩ : ∃ M4, M4 = M3.set id (spB v silk ((((k2 + 1) + 1) + 1) + 1)) := ⟨_, rfl⟩
      rw [← eM4] at e4
      have xM4 : SpE h id v silk ((((k2 + 1) + 1) + 1) + 1) M4 := by rw [eM4]; exact xM3.step hid
      have gM4 : M4[h.length]? = some (ribB 0 (.slice none 0 0) (.slice none 0 0)) := by rw [eM4, List.getElem?_set_ne (by omega)]; exact gM3
      have cM4 : M4[G1.length]? = some (ribB L fv wv) := by rw [eM4, List.getElem?_set_ne (by omega)]; exact cM3
      have fM4 : Own encI 3 (h.length + 2) M4 fv F := by rw [eM4]; exact fM3.set (by omega)
      have wM4 : Own encW 49 (h.length + 2) M4 wv W := by rw [eM4]; exact wM3.set (by omega)
      have lM4 : M4.length = M3.length := by rw [eM4, List.length_set]
      have ub5 := up_bd (silk := silk) (k := ((((k2 + 1) + 1) + 1) + 1)) (n := 2) (by omega)
      have e5 := fun base => run_upto (base := base) (n := 2) (xM4.at hS) (by omega) (by omega)
      obtain ⟨w5, ew5⟩ : ∃ w5, w5 = up silk (((((k2 + 1) + 1) + 1) + 1)) 2 := ⟨_, rfl⟩
      rw [← ew5] at e5
      obtain ⟨M5, eM5⟩ : ∃ M5, M5 = M4.set id (spB v silk (((((k2 + 1) + 1) + 1) + 1) + 1)) := ⟨_, rfl⟩
      rw [← eM5] at e5
      have xM5 : SpE h id v silk (((((k2 + 1) + 1) + 1) + 1) + 1) M5 := by rw [eM5]; exact xM4.step hid
      have gM5 : M5[h.length]? = some (ribB 0 (.slice none 0 0) (.slice none 0 0)) := by rw [eM5, List.getElem?_set_ne (by omega)]; exact gM4
      have cM5 : M5[G1.length]? = some (ribB L fv wv) := by rw [eM5, List.getElem?_set_ne (by omega)]; exact cM4
      have fM5 : Own encI 3 (h.length + 2) M5 fv F := by rw [eM5]; exact fM4.set (by omega)
      have wM5 : Own encW 49 (h.length + 2) M5 wv W := by rw [eM5]; exact wM4.set (by omega)
      have lM5 : M5.length = M4.length := by rw [eM5, List.length_set]
      obtain ⟨wr, ewr⟩ : ∃ wr : Wnt, wr = ⟨w1, w2, w3, w4, w5⟩ := ⟨_, rfl⟩
      have hwr : WntOk wr := by rw [ewr]; exact ⟨by simp only; omega, by simp only; omega, by simp only; omega, by simp only; omega, by simp only; omega⟩
      have bsw : ∀ {lit : Bool}, bsA prog lit M5 23 1 [(0, .agg [.int .i64 w1, .int .i64 w2, .int .i64 w3, .int .i64 w4, .int .i64 w5])] = some (.slice (some ⟨M5.length, 0, 0⟩) 1 1, M5 ++ [rowE encW 49 [wr] 0]) := fun {lit} => by
        rw [ewr]; exact bsWW1 (w := ⟨w1, w2, w3, w4, w5⟩)
      obtain ⟨w', M6, ea, oW6, lW6, eW6, oneW, kW⟩ := snocWW (base := base) (r := wr) wM5 (by omega) (by omega) (by omega)
      have c6 := kW.box cM5
      have g6 := kW.box gM5
      have f6 := kW.own fM5 (by decide)
      have x6 : SpE h id v silk ((((((k2 + 1) + 1) + 1) + 1) + 1)) M6 := eW6 _ (by rw [List.length_set]; omega) xM5
      have cK2' := cK2
      have c6' := c6
      unfold ribB at cK2' c6'
      have hlow : refsLow K'.length wv := oW2.low_refs
      have hsp := @Nat.succ_ne_zero; repeat' (first | simp (disch := first | exact dschN53 | fail) only [go_sem, ↓reduceIte, hsp, r49, d0, d8, d9, d48, q0, q3, q8, q9, q10, q20, hlt2] | refine WP_drw ?_ | refine cnd_intro (fun hsp => ?_) fun hsp => ?_)
      refine WPS_go ?_
      refine WP_wild [⟨1, 23, 51, ⟨G1.length, 0, 2⟩, wv, 14⟩] (by kernel_rfl) (by kernel_rfl) (by kernel_rfl) ⟨hlow, trivial⟩ fun KK hK => ?_
      iterate 17
        rw [TRS_cons]
        refine ⟨by first | (simp (disch := first | exact dschN53 | fail) only [go_sem, ↓reduceIte, r49, d0, d8, d9, d48, q0, q3, q8, q9, q10, q20, cK2', e1, cM1, e2, cM2, e3, cM3, e4, cM4, e5, cM5, bsw, ea, c6', ldsQ_cons, ldsQ_nil, grdQ_cons, grdQ_nil, if_true, Nat.reduceLeDiff]; done) | exact trivial, ?_⟩
        simp (disch := first | exact dschN53 | fail) only [go_sem, ↓reduceIte, r49, d0, d8, d9, d48, q0, q3, q8, q9, q10, q20, cK2', e1, cM1, e2, cM2, e3, cM3, e4, cM4, e5, cM5, bsw, ea, c6']
      rw [TRS_nil]
      refine ⟨by first | (simp (disch := first | exact dschN53 | fail) only [go_sem, ↓reduceIte, r49, d0, d8, d9, d48, q0, q3, q8, q9, q10, q20, cK2', e1, cM1, e2, cM2, e3, cM3, e4, cM4, e5, cM5, bsw, ea, c6', ldsQ_cons, ldsQ_nil, grdQ_cons, grdQ_nil, if_true, Nat.reduceLeDiff]; done) | exact trivial, ?_⟩
      subst hK
      have hsp := @Nat.succ_ne_zero; repeat' (first | simp (disch := first | exact dschN53 | fail) only [go_sem, ↓reduceIte, hsp, r49, d0, d8, d9, d48, q0, q3, q8, q9, q10, q20] | refine WP_drw ?_ | refine cnd_intro (fun hsp => ?_) fun hsp => ?_)
      refine ⟨by (repeat first | exact Agree.refl | assumption | refine Agree.put rfl ?_ | refine Agree.put0 ?_ | refine Agree.sub rfl (by assumption) ?_), by omega, W ++ [wr], w', _, ?_, Ext.set x6 (by rw [List.length_set]; omega), g6, rfl, Own.setBox f6 c6, Own.setBox oW6 c6, by simp; omega, fun w hw => ?_, by omega⟩
      · omega
      · rcases List.mem_append.1 hw with hw | hw
        · exact hWo w hw
        · rw [List.mem_singleton] at hw; rw [hw]; exact hwr
    · rintro fr2 K' hA2 ⟨r49, W, wv, k2, hk2, xK2, gK2, cK2, oF2, oW2, hWl, hWo, lK2⟩
      have d0 := hA2 0 rfl
      have d8 := hA2 8 rfl
      have d9 := hA2 9 rfl
      have d48 := hA2 48 rfl
      try simp (disch := first | exact dschN53 | fail) only [go_sem, ↓reduceIte, q0, q8, q9] at d0 d8 d9 d48
      have hlt2 : ((z : Int) < (z : Int)) = False := eq_false (by omega)
      have owv := oW2.one
      have gK2' := gK2
      have cK2' := cK2
      unfold ribB at gK2' cK2'
      have hsp := @Nat.succ_ne_zero; repeat' (first | simp (disch := first | exact dschN53 | fail) only [go_sem, ↓reduceIte, hsp, r49, d0, d8, d9, d48, q0, q3, q8, q9, q10, q20, hlt2, cK2', gK2'] | refine WP_drw ?_ | refine cnd_intro (fun hsp => ?_) fun hsp => ?_)
      refine ⟨L, F, W, fv, wv, k2, rfl, by omega, Ext.set xK2 (by rw [List.length_set]; omega), (oF2.setBox gK2').low (by omega), (oW2.setBox gK2').low (by omega), ⟨by simp only; omega, by simp only; omega, by simp only; omega, hWo, fun y hy => by have := hFb y hy; simp only; omega, hFs⟩, hL.2, by omega, by omega⟩
end Go.AM
/-
  The law's own word on values (holds).
-/
namespace Go.AM
open Go.Proofs.Try
attribute [-go_sem] put_ne put_same
attribute [local go_sem ↓] put_if
end Go.AM
/-
  A plan that is tried (tried).
-/
namespace Go.AM
open Go.Proofs.Try
attribute [-go_sem] put_ne put_same
attribute [local go_sem ↓] put_if
end Go.AM
/-
  CutEarned, walked.
-/
namespace Go.AM
open Go.Proofs.Try
attribute [-go_sem] put_ne put_same
attribute [local go_sem ↓] put_if
end Go.AM
/-
  Plain: values that hold are no less; the ribbon from a unit on.
-/
namespace Go.AM
section
variable {bad bad' : Nat → Bool} {j : Bool} {lg : Int} {u : Nat}
end
/-- The ribbon from a unit on. -/
def tlR (R : Rib) (u : Nat) : Rib := ⟨R.L - u, (R.F.filter fun y => decide ((u : Int) ≤ y)).map (· - (u : Int)), R.W⟩
section
variable {R : Rib} {u x : Nat}
end
end Go.AM
/-
  Plain: more wants, better wants and longer ribbons earn no less.
-/
namespace Go.AM
/-- Where each cut has one that is as good, no less is earned. -/
theorem valD_mono {R R' : Rib} (hR : RibOk R) (hR' : RibOk R') (hL : R.L.toNat ≤ R'.L.toNat)
    (h : ∀ (k : Nat) (w : Wnt) (x : Nat) (j : Bool) (e p : Int), x < R.L.toNat → R.W[k]? = some w → takL R w x j = some (e, p) → ∃ (k' : Nat) (w' : Wnt) (p' : Int), R'.W[k']? = some w' ∧ takL R' w' x j = some (e, p') ∧ p ≤ p') : valD R 0 ≤ valD R' 0 := by
  refine valD_least hR (v := valD R') (valD_bd hR').1 (fun x hx => valD_up hR' (by omega)) (fun x hx c hc => ?_) R.L.toNat 0 (by omega)
  obtain ⟨k, w, j, hw, ht, he⟩ := cutL_mem.1 hc
  obtain ⟨k', w', p', hw', ht', hp⟩ := h k w x j c.2.1 c.2.2 hx hw ht
  have hm : ((⟨(k' : Int), (x : Int), j⟩ : Ct), (c.2.1, p')) ∈ cutL R' x := cutL_mem.2 ⟨k', w', j, hw', ht', rfl⟩
  have := valD_cut hR' (show x < R'.L.toNat by omega) hm
  simp only at this
  omega
theorem valD_want {L : Int} {F : List Int} {W : List Wnt} {w : Wnt} (hR : RibOk ⟨L, F, W⟩) (hR' : RibOk ⟨L, F, W ++ [w]⟩) : valD ⟨L, F, W⟩ 0 ≤ valD ⟨L, F, W ++ [w]⟩ 0 :=
  valD_mono hR hR' (Nat.le_refl _) fun k v x j e p _ hv ht => ⟨k, v, p, by
    simp only at hv ⊢
    rw [List.getElem?_append_left (List.getElem?_eq_some_iff.1 hv).1]; exact hv, ht, Int.le_refl _⟩
structure WntLe (w w' : Wnt) : Prop where
  lg : w'.lg = w.lg
  pr : w.pr ≤ w'.pr
  off : w'.off ≤ w.off
  fl : w.fl ≤ w'.fl
  jn : w.jn ≤ w'.jn
theorem takL_le {R : Rib} {w w' : Wnt} {x : Nat} {j : Bool} {e p : Int} (hR : RibOk R) (hx : x < R.L.toNat) (h : WntLe w w') (ht : takL R w x j = some (e, p)) : ∃ p', takL R w' x j = some (e, p') ∧ p ≤ p' := by
  have hu : uniP R w' x j = uniP R w x j := by unfold uniP; rw [h.lg]
  unfold takL okT at ht ⊢
  rw [hu, h.lg]
  split at ht
  · rename_i c
    simp only [Option.some.injEq, Prod.mk.injEq] at ht
    obtain ⟨rfl, rfl⟩ := ht
    have hlim : limW w j ≤ limW w' j := by unfold limW; split <;> first | exact h.jn | exact h.fl
    refine ⟨max 0 (w'.pr - w'.off * (uniP R w x j).2), ?_, ?_⟩
    · rw [if_pos ⟨c.1, Int.le_trans c.2 hlim⟩]
    · obtain ⟨u, _, _, hk, _⟩ := uniP_k (w := w) (j := j) hR hx
      have h1 := Int.mul_le_mul_of_nonneg_right h.off hk.f.1
      have h2 := h.pr
      omega
  · cases ht
theorem valD_set {L : Int} {F : List Int} {W : List Wnt} {k : Nat} {w w' : Wnt} (hw : W[k]? = some w) (h : WntLe w w') (hR : RibOk ⟨L, F, W⟩) (hR' : RibOk ⟨L, F, W.set k w'⟩) : valD ⟨L, F, W⟩ 0 ≤ valD ⟨L, F, W.set k w'⟩ 0 :=
  valD_mono hR hR' (Nat.le_refl _) fun i v x j e p hx hv ht => by
    have hi := (List.getElem?_eq_some_iff.1 hv).1
    by_cases c : k = i
    · subst c
      simp only at hv hi
      rw [hw] at hv
      obtain rfl := Option.some.inj hv
      obtain ⟨p', ht', hp⟩ := takL_le hR hx h ht
      exact ⟨k, w', p', by simp only; rw [List.getElem?_set_self hi], ht', hp⟩
    · exact ⟨i, v, p, by simp only; rw [List.getElem?_set_ne c]; exact hv, ht, Int.le_refl _⟩
theorem unL_more {bad : Nat → Bool} {j : Bool} {lg : Int} : ∀ (n u : Nat) (o : List Int) (f : Int), lg ≤ ((unL bad j lg n u o f).1.length : Int) → unL bad j lg (n + 1) u o f = unL bad j lg n u o f
  | 0, u, o, f, h => by
    have h : lg ≤ (o.length : Int) := h
    show (if (o.length : Int) < lg then unL bad j lg 0 (u + 1) (unS bad j u o f).1 (unS bad j u o f).2 else (o, f)) = (o, f)
    rw [if_neg (by omega)]
  | n + 1, u, o, f, h => by
    by_cases c : (o.length : Int) < lg
    · have e : ∀ m, unL bad j lg (m + 1) u o f = unL bad j lg m (u + 1) (unS bad j u o f).1 (unS bad j u o f).2 := fun m => by rw [unL, if_pos c]
      rw [e n] at h
      rw [e (n + 1), e n, unL_more n _ _ _ h]
    · have e : ∀ m, unL bad j lg (m + 1) u o f = (o, f) := fun m => by rw [unL, if_neg c]
      rw [e, e]
theorem valD_long {L : Int} {F : List Int} {W : List Wnt} (hR : RibOk ⟨L, F, W⟩) (hR' : RibOk ⟨L + 1, F, W⟩) : valD ⟨L, F, W⟩ 0 ≤ valD ⟨L + 1, F, W⟩ 0 := by
  have hL := hR.L
  simp only at hL
  refine valD_mono hR hR' (by simp only; omega) fun k w x j e p hx hw ht => ⟨k, w, p, hw, ?_, Int.le_refl _⟩
  simp only at hx
  have hok : okT ⟨L, F, W⟩ w x j = true := by
    unfold takL at ht
    split at ht
    · rename_i c; exact c.1
    · cases ht
  have hl : ((uniP ⟨L, F, W⟩ w x j).1.length : Int) = w.lg := by
    unfold okT at hok
    simp only [Bool.and_eq_true, decide_eq_true_eq] at hok
    exact hok.2
  have hu : uniP ⟨L + 1, F, W⟩ w x j = uniP ⟨L, F, W⟩ w x j := by
    unfold uniP at hl ⊢
    simp only at hl ⊢
    rw [show (L + 1).toNat - x = (L.toNat - x) + 1 by omega]
    exact unL_more _ _ _ _ (by rw [show badF ⟨L + 1, F, W⟩ = badF ⟨L, F, W⟩ from rfl]; omega)
  unfold takL okT at ht ⊢
  rw [hu, show badF ⟨L + 1, F, W⟩ = badF ⟨L, F, W⟩ from rfl]
  exact ht
end Go.AM
/-
  CutMore, walked.
-/
namespace Go.AM
open Go.Proofs.Try
attribute [-go_sem] put_ne put_same
attribute [local go_sem ↓] put_if
theorem cvtN {x : Int} (hx : 0 ≤ x ∧ x ≤ 255) : convA prog 3 5 (.int .u8 x) = some (.int .i64 x) := by
  have h : convA prog 3 5 (.int .u8 x) = some (.int .i64 (IntKind.i64.wrap x)) := by kernel_rfl
  rw [h, wrap64 (by omega) (by omega)]
/-- A want is appended to one's own wants. -/
theorem snocWE {b base : Nat} {A : Heap} {w : AVal} {l : List Wnt} {r : Wnt} (hO : OwnE encW 49 b A w l) (hb : base ≤ b) (hbh : b ≤ A.length) (hl : l.length ≤ 1000000) :
    ∃ w' H, appendA prog base (A ++ [rowE encW 49 [r] 0]) 23 w (.slice (some ⟨A.length, 0, 0⟩) 1 1) = some (w', H) ∧ OwnE encW 49 b H w' (l ++ [r]) ∧ A.length ≤ H.length ∧ (∀ G, G.length ≤ b → Ext G A → Ext G H) ∧ One w' ∧ KeepO encW 49 A H ∧
      ∀ {α : Type} {E2 : Enc α} {e2 b2 : Nat} {v2 : AVal} {l2 : List α}, OwnE E2 e2 b2 A v2 l2 → (∀ r n c, w = .slice (some r) n c → r.id < b2) → OwnE E2 e2 b2 H v2 l2 := by
  obtain ⟨B, eB⟩ : ∃ B, B = A ++ [rowE encW 49 [r] 0] := ⟨_, rfl⟩
  have xB : Ext A B := by rw [eB]; exact .app .refl
  have lB' : B.length = A.length + 1 := by rw [eB]; simp
  have hx : Rows encW B (.slice (some ⟨A.length, 0, 0⟩) 1 1) [r] := Rows.own (by rw [eB]; exact get_eq rfl) rfl (by simp)
  have hx1 := hx.lenA
  have hx2 := hx.firstN
  rw [← eB]
  have fl : (flat encW [r]).all AVal.scalar = true := flat_scalar encW_sc _
  simp only [List.length_singleton] at hx1 hx2
  have emp : ∀ {H : Heap}, H = B ++ [rowE encW 49 [r] 0] → l = [] → OwnE encW 49 b H (.slice (some ⟨B.length, 0, 0⟩) 1 1) (l ++ [r]) ∧ A.length ≤ H.length ∧ (∀ G, G.length ≤ b → Ext G A → Ext G H) ∧ One (.slice (some ⟨B.length, 0, 0⟩) 1 1) ∧ KeepO encW 49 A H ∧
      ∀ {α : Type} {E2 : Enc α} {e2 b2 : Nat} {v2 : AVal} {l2 : List α}, OwnE E2 e2 b2 A v2 l2 → (∀ r n c, w = .slice (some r) n c → r.id < b2) → OwnE E2 e2 b2 H v2 l2 := by
    intro H eH el
    have xH : Ext A H := by rw [eH]; exact xB.app
    subst el
    exact ⟨.inl (.inr ⟨B.length, 0, rfl, by rw [eH]; exact get_eq rfl, by omega, by simp⟩), xH.len, fun G _ g => g.trans xH, ⟨rfl, rfl, rfl⟩, fun i y hi _ => xH.get hi, fun q _ => q.ext xH⟩
  rcases hO with (⟨rfl, rfl⟩ | ⟨id, ver, rfl, h1, h2, h3⟩) | ⟨rfl, rfl⟩
  · refine ⟨_, _, ?_, emp rfl rfl⟩
    simp only [appendA, Fc.el23, hx1, show (5 : Nat) = encW.z from rfl, hx2, fl, if_true]
    rfl
  · have g1 := xB.get h1
    have hid := lt_of_get h1
    refine ⟨.slice (some ⟨id, ver + 1, 0⟩) (l ++ [r]).length (l ++ [r]).length, B.set id (rowE encW 49 (l ++ [r]) (ver + 1)), ?_, .inl (.inr ⟨id, ver + 1, rfl, by rw [List.getElem?_set_self (by omega)], h2, by simp⟩), by rw [List.length_set]; omega, fun G hG g => (g.trans xB).set (by omega), ⟨rfl, rfl, rfl⟩, fun i y g hy => ?_, fun q hq => ?_⟩
    · simp only [appendA, Fc.el23, hx1, show (5 : Nat) = encW.z from rfl, hx2, fl, if_true]
      rw [if_neg (by omega), g1]
      simp only [rowE, flat_len]
      rw [if_pos ⟨trivial, trivial, trivial, trivial, show l.length + 1 < 2 ^ 31 by omega, h3, .inl (by omega)⟩]
      rw [List.take_of_length_le (by rw [flat_len]; exact Nat.le_refl _), ← flat_app, List.length_append]; rfl
    · have hne : id ≠ i := by
        rintro rfl
        rw [h1] at g
        exact hy l ver (Option.some.inj g).symm
      rw [List.getElem?_set_ne hne]
      exact xB.get g
    · have := hq _ _ _ rfl
      exact (q.ext xB).imp (fun z => z.set this) _root_.id
  · refine ⟨_, _, ?_, emp rfl rfl⟩
    simp only [appendA, Fc.el23, hx1, show (5 : Nat) = encW.z from rfl, hx2, fl, if_true]
    rfl
/-! ### Ribbons side by side -/
def RX : Type := Int × {v : AVal // v.scalar = true} × {v : AVal // v.scalar = true}
def encX : Enc RX := ⟨3, fun x => [.int .i64 x.1, x.2.1.1, x.2.2.1], fun _ => rfl, by decide⟩
theorem encX_sc : ∀ y, (encX.cells y).all AVal.scalar = true := fun y => by
  have h1 := y.2.1.2
  have h2 := y.2.2.2
  simp only [encX, List.all_cons, List.all_nil, h1, h2]; rfl
theorem ownE_sc {α : Type} {E : Enc α} {e b : Nat} {H : Heap} {v : AVal} {l : List α} (x : OwnE E e b H v l) : v.scalar = true := by
  rcases x with (⟨rfl, _⟩ | ⟨_, _, rfl, _⟩) | ⟨rfl, _⟩ <;> rfl
theorem ownE_low {α : Type} {E : Enc α} {e b : Nat} {H : Heap} {v : AVal} {l : List α} (x : OwnE E e b H v l) : refsLow H.length v := by
  rcases x with x | ⟨rfl, _⟩
  · exact x.low_refs
  · rfl
def GoodX (b : Nat) (n : Int) (H : Heap) (x : RX) : Prop := ∃ R : Rib, x.1 = R.L ∧ OwnE encI 3 b H x.2.1.1 R.F ∧ OwnE encW 49 b H x.2.2.1 R.W ∧ RibOk R ∧ n ≤ valD R 0
section
variable {b : Nat} {n : Int} {H H' : Heap} {x : RX}
theorem GoodX.ext (q : GoodX b n H x) (e : Ext H H') : GoodX b n H' x := by
  obtain ⟨R, a1, a2, a3, a4, a5⟩ := q
  exact ⟨R, a1, a2.ext e, a3.ext e, a4, a5⟩
theorem GoodX.keep (q : GoodX b n H x) (k : KeepO encX 25 H H') : GoodX b n H' x := by
  obtain ⟨R, a1, a2, a3, a4, a5⟩ := q
  exact ⟨R, a1, k.ownE a2 (by decide), k.ownE a3 (by decide), a4, a5⟩
theorem rib_own {R : Rib} (hR : RibOk R) {fv wv : AVal} (a2 : OwnE encI 3 b H fv R.F) (a3 : OwnE encW 49 b H wv R.W) : RibAt H (.agg [.int .i64 R.L, fv, wv]) R := by
  have hrF := hR.F
  have hnF := hR.nF
  have hnW := hR.nW
  have hL := hR.L
  exact ⟨fv, wv, rfl, ownE_ints a2 ⟨by omega, fun y hy => by have := hrF y hy; omega⟩, a3.rows (by omega)⟩
end
theorem bsX1 {lit : Bool} {H : Heap} {x : RX} : bsA prog lit H 50 1 [(0, .agg [.int .i64 x.1, x.2.1.1, x.2.2.1])] = some (.slice (some ⟨H.length, 0, 0⟩) 1 1, H ++ [rowE encX 25 [x] 0]) := by
  simp [bsA, rowOf, Fc.el50, fillA, repCells, AVal.isN, AVal.cells, splice, rowE, flat, encX]
theorem bsX2 {lit : Bool} {H : Heap} {x y : RX} : bsA prog lit H 50 2 [(0, .agg [.int .i64 x.1, x.2.1.1, x.2.2.1]), (1, .agg [.int .i64 y.1, y.2.1.1, y.2.2.1])] = some (.slice (some ⟨H.length, 0, 0⟩) 2 2, H ++ [rowE encX 25 [x, y] 0]) := by
  simp [bsA, rowOf, Fc.el50, fillA, repCells, AVal.isN, AVal.cells, splice, rowE, flat, encX]
theorem snocX {b base : Nat} {A : Heap} {w : AVal} {l : List RX} {r : RX} (hO : Own encX 25 b A w l) (hb : base ≤ b) (hbh : b ≤ A.length) (hl : l.length ≤ 1000000) :
    ∃ w' H, appendA prog base (A ++ [rowE encX 25 [r] 0]) 50 w (.slice (some ⟨A.length, 0, 0⟩) 1 1) = some (w', H) ∧ Own encX 25 b H w' (l ++ [r]) ∧ A.length ≤ H.length ∧ (∀ G, G.length ≤ b → Ext G A → Ext G H) ∧ One w' ∧ KeepO encX 25 A H := by
  obtain ⟨B, eB⟩ : ∃ B, B = A ++ [rowE encX 25 [r] 0] := ⟨_, rfl⟩
  have xB : Ext A B := by rw [eB]; exact .app .refl
  have lB' : B.length = A.length + 1 := by rw [eB]; simp
  have hx : Rows encX B (.slice (some ⟨A.length, 0, 0⟩) 1 1) [r] := Rows.own (by rw [eB]; exact get_eq rfl) rfl (by simp)
  rw [← eB]
  obtain ⟨w', H, a1, a2, a3, a4, a5, a6⟩ := (hO.ext xB).appendRX (P := prog) (base := base) (t := 50) hx Fc.el50 encX_sc hb (by omega) (by simp) (by simp; omega)
  have a6 : KeepO encX 25 B H := a6
  exact ⟨w', H, a1, a2, by omega, fun G h1 h2 => a4 G h1 (h2.trans xB), a5, fun i y hi hy => a6 i y (xB.get hi) hy⟩
end Go.AM
