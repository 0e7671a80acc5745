/-
  Contracts: a ribbon that is made (Made).
-/
import Derived.Test.YtikgghhceolaeaaU19
import Derived.Test.YtikgghhceolaeaaU12
set_option linter.unusedSimpArgs false
set_option linter.unusedVariables false
namespace Go.AM
open Go.Proofs.Try
theorem dschN53 {p : Prop} (h : p := by first | exact Nat.ne_of_beq_eq_false rfl | assumption | (apply asOne; (first | exact One.int | exact One.bool | assumption | exact Ints.one (by assumption) | exact Rows.one (by assumption) | exact Own.one (by assumption) | exact One.lit ⟨rfl, rfl, rfl⟩)) | (apply asSp; (repeat first | assumption | apply SpAt.set | (refine SpAt.new ?_ (by (first | rfl | (simp only [List.length_append, List.length_cons, List.length_nil, List.length_set]; done) | (simp only [List.length_append, List.length_cons, List.length_nil, List.length_set]; omega)))) | apply SpAt.app | apply Bytes.app); done) | (apply asBytes; (repeat first | assumption | apply Bytes.app); done) | (apply asInts; (repeat first | assumption | exact ints_nil | apply Ints.app); done) | (apply asRows; (repeat first | assumption | exact Rows.nil | apply Rows.app); done) | (apply asScal; (first | apply allS1 | apply allS2 | apply allS3 | apply allS4) <;> (first | exact One.int | exact One.bool | assumption | exact Ints.one (by assumption) | exact Rows.one (by assumption) | exact Own.one (by assumption) | exact One.lit ⟨rfl, rfl, rfl⟩)) | exact litT rfl | exact litF rfl | omega | (simp only [List.length_append, List.length_cons, List.length_nil, List.length_set, List.length_reverse]; first | done | omega) | fail) : p := h
attribute [-go_sem] put_ne put_same
attribute [local go_sem ↓] put_if
theorem bsWW1 {lit : Bool} {H : Heap} {w : Wnt} : bsA prog lit H 23 1 [(0, .agg [.int .i64 w.lg, .int .i64 w.pr, .int .i64 w.off, .int .i64 w.fl, .int .i64 w.jn])] = some (.slice (some ⟨H.length, 0, 0⟩) 1 1, H ++ [rowE encW 49 [w] 0]) := by
  simp [bsA, rowOf, Fc.el23, fillA, repCells, AVal.isN, AVal.cells, splice, rowE, flat, encW]
theorem snocWW {b base : Nat} {A : Heap} {w : AVal} {l : List Wnt} {r : Wnt} (hO : Own encW 49 b A w l) (hb : base ≤ b) (hbh : b ≤ A.length) (hl : l.length ≤ 1000000) :
    ∃ w' H, appendA prog base (A ++ [rowE encW 49 [r] 0]) 23 w (.slice (some ⟨A.length, 0, 0⟩) 1 1) = some (w', H) ∧ Own encW 49 b H w' (l ++ [r]) ∧ A.length ≤ H.length ∧ (∀ G, G.length ≤ b → Ext G A → Ext G H) ∧ One w' ∧ KeepO encW 49 A H := by
  obtain ⟨B, eB⟩ : ∃ B, B = A ++ [rowE encW 49 [r] 0] := ⟨_, rfl⟩
  have xB : Ext A B := by rw [eB]; exact .app .refl
  have lB' : B.length = A.length + 1 := by rw [eB]; simp
  have hx : Rows encW B (.slice (some ⟨A.length, 0, 0⟩) 1 1) [r] := Rows.own (by rw [eB]; exact get_eq rfl) rfl (by simp)
  rw [← eB]
  obtain ⟨w', H, a1, a2, a3, a4, a5, a6⟩ := (hO.ext xB).appendRX (P := prog) (base := base) (t := 23) hx Fc.el23 encW_sc hb (by omega) (by simp) (by simp; omega)
  have a6 : KeepO encW 49 B H := a6
  exact ⟨w', H, a1, a2, by omega, fun G h1 h2 => a4 G h1 (h2.trans xB), a5, fun i y hi hy => a6 i y (xB.get hi) hy⟩
theorem stN53 {base : Nat} {l : List Oper} {s : St} {Q : AExit → St → Prop} : WP prog raw base (.region 11 l.toArray true) s Q = WPS prog raw base (.region 11 l.toArray true) s Q := WP_stop
attribute [local go_sem ↓ 3000] stN53
set_option maxRecDepth 100000 in
set_option maxHeartbeats 4000000 in
theorem run_LMadeD {base id k0 : Nat} {h : Heap} {v : AVal} {silk : List Int} {A B D : Int} (hb : base ≤ h.length) (hS : SpAt h id v silk k0) (hk : k0 ≤ 100000) (hA : 1 ≤ A ∧ A ≤ 60) (hB : 0 ≤ B ∧ B ≤ 12) (hD : 0 ≤ D ∧ D ≤ 6) :
    Ret prog raw base (.fn 26 [] []) [.ptr (some ⟨id, 0, 0⟩), .int .i64 A, .int .i64 B, .int .i64 D] h (fun w H => ∃ L F W fv wv k', w = .agg [.int .i64 L, fv, wv] ∧ (k0 ≤ k' ∧ k' ≤ k0 + 100) ∧ SpE h id v silk k' H ∧ Own encI 3 h.length H fv F ∧ Own encW 49 h.length H wv W ∧ RibOk ⟨L, F, W⟩ ∧ L ≤ A ∧ (F.length : Int) ≤ B ∧ (W.length : Int) ≤ D) := by
  have hid := lt_of_get hS.1
  have hS0 : SpAt (h ++ [ribB 0 (.slice none 0 0) (.slice none 0 0)]) id v silk k0 := hS.app
  have b1 := up_bd (silk := silk) (k := k0) (n := A - 1) (by omega)
  have b2 := up_bd (silk := silk) (k := k0 + 1) (n := B) (by omega)
  obtain ⟨G, eG⟩ : ∃ G, G = h ++ [ribB 0 (.slice none 0 0) (.slice none 0 0)] := ⟨_, rfl⟩
  rw [← eG] at hS0
  have lG : G.length = h.length + 1 := by rw [eG]; simp
  have xG : Ext h G := by rw [eG]; exact .app .refl
  have g0 : G[h.length]? = some (ribB 0 (.slice none 0 0) (.slice none 0 0)) := by rw [eG]; exact get_eq rfl
  have f1 := fun base => run_from (base := base) (lo := 1) (hi := A) hS0 (by omega) (by omega) (by omega)
  obtain ⟨L, eL⟩ : ∃ L, L = 1 + up silk k0 (A - 1) := ⟨_, rfl⟩
  have hL : 1 ≤ L ∧ L ≤ A := by omega
  rw [← eL] at f1
  obtain ⟨G1, eG1⟩ : ∃ G1, G1 = G.set id (spB v silk (k0 + 1)) := ⟨_, rfl⟩
  rw [← eG1] at f1
  have q1 : SpE h id v silk (k0 + 1) G1 := by rw [eG1]; exact ((SpE.refl hS).ext xG).step hid
  have l1 : G1.length = h.length + 1 := by rw [eG1, List.length_set, lG]
  have g1 : G1[h.length]? = some (ribB 0 (.slice none 0 0) (.slice none 0 0)) := by rw [eG1, List.getElem?_set_ne (by omega)]; exact g0
  obtain ⟨G2, eG2⟩ : ∃ G2, G2 = G1 ++ [ribB L (.slice none 0 0) (.slice none 0 0)] := ⟨_, rfl⟩
  have q2 : SpE h id v silk (k0 + 1) G2 := by rw [eG2]; exact q1.app
  have l2 : G2.length = h.length + 2 := by rw [eG2]; simp [l1]
  have g2 : G2[h.length]? = some (ribB 0 (.slice none 0 0) (.slice none 0 0)) := by rw [eG2]; exact get_app g1
  have c2 : G2[h.length + 1]? = some (ribB L (.slice none 0 0) (.slice none 0 0)) := by rw [eG2]; exact get_eq (by rw [l1])
  have f2 := fun base => run_upto (base := base) (n := B) (q2.at hS) (by omega) (by omega)
  obtain ⟨m, em⟩ : ∃ m, m = up silk (k0 + 1) B := ⟨_, rfl⟩
  rw [← em] at b2 f2
  obtain ⟨G3, eG3⟩ : ∃ G3, G3 = G2.set id (spB v silk (k0 + 1 + 1)) := ⟨_, rfl⟩
  rw [← eG3] at f2
  have q3 : SpE h id v silk (k0 + 1 + 1) G3 := by rw [eG3]; exact q2.step hid
  have l3 : G3.length = h.length + 2 := by rw [eG3, List.length_set, l2]
  have g3 : G3[h.length]? = some (ribB 0 (.slice none 0 0) (.slice none 0 0)) := by rw [eG3, List.getElem?_set_ne (by omega)]; exact g2
  have c3 : G3[h.length + 1]? = some (ribB L (.slice none 0 0) (.slice none 0 0)) := by rw [eG3, List.getElem?_set_ne (by omega)]; exact c2
  have hq : 0 ≤ L.tdiv (max 1 m) ∧ L.tdiv (max 1 m) ≤ 60 := by
    rw [Int.tdiv_eq_ediv_of_nonneg (by omega)]
    have h1 : 0 < max 1 m := by omega
    refine ⟨Int.ediv_nonneg (by omega) (by omega), ?_⟩
    exact Int.le_trans (Int.ediv_le_self _ (by omega)) (by omega)
  have hm0 : max 1 m ≠ 0 := by omega
  have hm1 : (max 1 m = 0) = False := eq_false hm0
  obtain ⟨X, eX⟩ : ∃ X, X = max 2 (L.tdiv (max 1 m)) := ⟨_, rfl⟩
  have hX : 2 ≤ X ∧ X ≤ 60 := by omega
  clear eL b1
  rw [show h.length + 1 = G1.length from l1.symm] at c2 c3
  unfold ribB at eG eG2
  have c3' := c3
  unfold ribB at c3'
  refine ret_raw func26 rfl (by kernel_rfl) ?_
  have hsp := @Nat.succ_ne_zero; repeat' (first | simp (disch := first | exact dschN53 | fail) only [go_sem, ↓reduceIte, hsp, ← eG, f1, ← eG2, f2, c3'] | refine WP_drw ?_ | refine cnd_intro (fun hsp => ?_) fun hsp => ?_)
  obtain ⟨n, en⟩ := Int.eq_ofNat_of_zero_le (show 0 ≤ L by omega)
  refine WP_count [(11, 11), (21, 45)] 0 n (Nat.zero_le _) (fun _ i fr K => fr 21 = .int .i64 (i : Int) ∧ ∃ F fv k', (k0 ≤ k' ∧ k' ≤ k0 + 2 + i) ∧ SpE h id v silk k' K ∧ K[h.length]? = some (ribB 0 (.slice none 0 0) (.slice none 0 0)) ∧ K[G1.length]? = some (ribB L fv (.slice none 0 0)) ∧ Own encI 3 (h.length + 2) K fv F ∧ (F.length : Int) ≤ m ∧ (∀ y ∈ F, 0 ≤ y ∧ y < (i : Int)) ∧ F.Pairwise (· < ·) ∧ h.length + 2 ≤ K.length) ?_ ?_ ?_
  · exact ⟨by (simp (disch := first | exact dschN53 | fail) only [go_sem, ↓reduceIte, Int.natCast_zero]; first | done | rfl), [], _, k0 + 1 + 1, by omega, q3, g3, c3, Own.nil, by simp; omega, by simp, by simp, by omega⟩
  · rintro i fr K hi0 hi hAg ⟨r21, F, fv, k', hk', xK, gK, cK, oF, hFl, hFb, hFs, lK⟩
    have q0 := hAg 0 rfl
    have q3 := hAg 3 rfl
    have q8 := hAg 8 rfl
    have q9 := hAg 9 rfl
    have q10 := hAg 10 rfl
    have q20 := hAg 20 rfl
    try simp (disch := first | exact dschN53 | fail) only [go_sem, ↓reduceIte] at q0 q3 q8 q9 q10 q20
    have hlt : ((i : Int) < L) = True := eq_true (by omega)
    have of1 := oF.one
    have hSK := xK.at hS
    have iF : Ints K fv F := own_ints oF ⟨by omega, fun y hy => by have := hFb y hy; omega⟩
    have hn := lenI iF
    have cK' := cK
    unfold ribB at cK'
    by_cases c1 : (F.length : Int) < m
    · have t1 : ((F.length : Int) < m) = True := eq_true c1
      have e1 := fun base => run_once (base := base) (n := X) hSK (by omega) (by omega)
      rw [eX] at e1
      obtain ⟨K1, eK1⟩ : ∃ K1, K1 = K.set id (spB v silk (k' + 1)) := ⟨_, rfl⟩
      rw [← eK1] at e1
      have xK1 : SpE h id v silk (k' + 1) K1 := by rw [eK1]; exact xK.step hid
      have gK1 : K1[h.length]? = some (ribB 0 (.slice none 0 0) (.slice none 0 0)) := by rw [eK1, List.getElem?_set_ne (by omega)]; exact gK
      have cK1 : K1[G1.length]? = some (ribB L fv (.slice none 0 0)) := by rw [eK1, List.getElem?_set_ne (by omega)]; exact cK
      have oF1 : Own encI 3 (h.length + 2) K1 fv F := by rw [eK1]; exact oF.set (by omega)
      have lK1 : K1.length = K.length := by rw [eK1, List.length_set]
      have cK1' := cK1
      unfold ribB at cK1'
      rcases Bool.eq_false_or_eq_true (decide (up silk k' (max 2 (L.tdiv (max 1 m)) - 1) = 0)) with qb | qb
      · rw [qb] at e1
        obtain ⟨w', K3, ea, oW, lW, eW2, oneW, kW⟩ := oF1.append1X (P := prog) (y := (i : Int)) (a := .int .i64 (i : Int)) (base := base) (t := 22) rfl rfl Fc.el22 encI_sc (by omega) (by omega) (by omega)
        have kW : KeepO encI 3 K1 K3 := kW
        have cK3 := kW.box cK1'
        have gK3 := kW.box gK1
        have xK3 : SpE h id v silk (k' + 1) K3 := eW2 _ (by rw [List.length_set]; omega) xK1
        have hsp := @Nat.succ_ne_zero; repeat' (first | simp (disch := first | exact dschN53 | fail) only [go_sem, ↓reduceIte, hsp, r21, q0, q3, q8, q9, q10, q20, hlt, cK', hn, t1, hm1, hm0, e1, cK1', ea, cK3] | refine WP_drw ?_ | refine cnd_intro (fun hsp => ?_) fun hsp => ?_)
        refine ⟨by (repeat first | exact Agree.refl | assumption | refine Agree.put rfl ?_ | refine Agree.put0 ?_ | refine Agree.sub rfl (by assumption) ?_), by omega, F ++ [(i : Int)], w', k' + 1, by omega, Ext.set xK3 (by rw [List.length_set]; omega), gK3, rfl, Own.setBox oW cK3, by simp; omega, fun y hy => ?_, ?_, by omega⟩
        · rcases List.mem_append.1 hy with hy | hy
          · have := hFb y hy; omega
          · rw [List.mem_singleton] at hy; omega
        · refine List.pairwise_append.2 ⟨hFs, by simp, fun a ha b hb => ?_⟩
          have := hFb a ha
          rw [List.mem_singleton] at hb; omega
      · rw [qb] at e1
        have hsp := @Nat.succ_ne_zero; repeat' (first | simp (disch := first | exact dschN53 | fail) only [go_sem, ↓reduceIte, hsp, r21, q0, q3, q8, q9, q10, q20, hlt, cK', hn, t1, hm1, hm0, e1] | refine WP_drw ?_ | refine cnd_intro (fun hsp => ?_) fun hsp => ?_)
        exact ⟨by (repeat first | exact Agree.refl | assumption | refine Agree.put rfl ?_ | refine Agree.put0 ?_ | refine Agree.sub rfl (by assumption) ?_), by omega, F, fv, k' + 1, by omega, xK1, gK1, cK1, oF1, hFl, fun y hy => by have := hFb y hy; omega, hFs, by omega⟩
    · have t1 : ((F.length : Int) < m) = False := eq_false c1
      have hsp := @Nat.succ_ne_zero; repeat' (first | simp (disch := first | exact dschN53 | fail) only [go_sem, ↓reduceIte, hsp, r21, q0, q3, q8, q9, q10, q20, hlt, cK', hn, t1] | refine WP_drw ?_ | refine cnd_intro (fun hsp => ?_) fun hsp => ?_)
      exact ⟨by (repeat first | exact Agree.refl | assumption | refine Agree.put rfl ?_ | refine Agree.put0 ?_ | refine Agree.sub rfl (by assumption) ?_), by omega, F, fv, k', by omega, xK, gK, rfl, oF, hFl, fun y hy => by have := hFb y hy; omega, hFs, lK⟩
  · rintro fr K hAg ⟨r21, F, fv, k', hk', xK, gK, cK, oF, hFl, hFb, hFs, lK⟩
    have q0 := hAg 0 rfl
    have q3 := hAg 3 rfl
    have q8 := hAg 8 rfl
    have q9 := hAg 9 rfl
    have q10 := hAg 10 rfl
    have q20 := hAg 20 rfl
    try simp (disch := first | exact dschN53 | fail) only [go_sem, ↓reduceIte] at q0 q3 q8 q9 q10 q20
    have hlt : ((n : Int) < L) = False := eq_false (by omega)
    have of1 := oF.one
    have hSK := xK.at hS
    have ubz := up_bd (silk := silk) (k := k') (n := D) (by omega)
    have ez := fun base => run_upto (base := base) (n := D) hSK (by omega) (by omega)
    obtain ⟨z, ezz⟩ := Int.eq_ofNat_of_zero_le ubz.1
    rw [ezz] at ez ubz
    obtain ⟨K0, eK0⟩ : ∃ K0, K0 = K.set id (spB v silk (k' + 1)) := ⟨_, rfl⟩
    rw [← eK0] at ez
    have xK0 : SpE h id v silk (k' + 1) K0 := by rw [eK0]; exact xK.step hid
    have gK0 : K0[h.length]? = some (ribB 0 (.slice none 0 0) (.slice none 0 0)) := by rw [eK0, List.getElem?_set_ne (by omega)]; exact gK
    have cK0 : K0[G1.length]? = some (ribB L fv (.slice none 0 0)) := by rw [eK0, List.getElem?_set_ne (by omega)]; exact cK
    have oF0 : Own encI 3 (h.length + 2) K0 fv F := by rw [eK0]; exact oF.set (by omega)
    have lK0 : K0.length = K.length := by rw [eK0, List.length_set]
    have hsp := @Nat.succ_ne_zero; repeat' (first | simp (disch := first | exact dschN53 | fail) only [go_sem, ↓reduceIte, hsp, r21, q0, q3, q8, q9, q10, q20, hlt, ez] | refine WP_drw ?_ | refine cnd_intro (fun hsp => ?_) fun hsp => ?_)
    refine WP_count [(49, 67)] 0 z (Nat.zero_le _) (fun _ j fr K' => fr 49 = .int .i64 (j : Int) ∧ ∃ W wv k2, (k0 ≤ k2 ∧ k2 ≤ k' + 1 + 5 * j) ∧ SpE h id v silk k2 K' ∧ K'[h.length]? = some (ribB 0 (.slice none 0 0) (.slice none 0 0)) ∧ K'[G1.length]? = some (ribB L fv wv) ∧ Own encI 3 (h.length + 2) K' fv F ∧ Own encW 49 (h.length + 2) K' wv W ∧ W.length ≤ j ∧ (∀ w ∈ W, WntOk w) ∧ h.length + 2 ≤ K'.length) ?_ ?_ ?_
    · exact ⟨by (simp (disch := first | exact dschN53 | fail) only [go_sem, ↓reduceIte, Int.natCast_zero]; first | done | rfl), [], .slice none 0 0, k' + 1, by omega, xK0, gK0, cK0, oF0, Own.nil, by simp, by simp, by omega⟩
    · rintro j fr2 K' hj0 hj hA2 ⟨r49, W, wv, k2, hk2, xK2, gK2, cK2, oF2, oW2, hWl, hWo, lK2⟩
      have d0 := hA2 0 rfl
      have d8 := hA2 8 rfl
      have d9 := hA2 9 rfl
      have d48 := hA2 48 rfl
      try simp (disch := first | exact dschN53 | fail) only [go_sem, ↓reduceIte, q0, q8, q9] at d0 d8 d9 d48
      have hlt2 : ((j : Int) < (z : Int)) = True := eq_true (by omega)
      have owv := oW2.one
      have ub1 := up_bd (silk := silk) (k := k2) (n := (9 - 1)) (by omega)
      have e1 := fun base => run_from (base := base) (lo := 1) (hi := 9) (xK2.at hS) (by omega) (by omega) (by omega)
      obtain ⟨w1, ew1⟩ : ∃ w1, w1 = 1 + up silk k2 (9 - 1) := ⟨_, rfl⟩
      rw [← ew1] at e1
      obtain ⟨M1, eM1⟩ : ∃ M1, M1 = K'.set id (spB v silk (k2 + 1)) := ⟨_, rfl⟩
      rw [← eM1] at e1
      have xM1 : SpE h id v silk (k2 + 1) M1 := by rw [eM1]; exact xK2.step hid
      have gM1 : M1[h.length]? = some (ribB 0 (.slice none 0 0) (.slice none 0 0)) := by rw [eM1, List.getElem?_set_ne (by omega)]; exact gK2
      have cM1 : M1[G1.length]? = some (ribB L fv wv) := by rw [eM1, List.getElem?_set_ne (by omega)]; exact cK2
      have fM1 : Own encI 3 (h.length + 2) M1 fv F := by rw [eM1]; exact oF2.set (by omega)
      have wM1 : Own encW 49 (h.length + 2) M1 wv W := by rw [eM1]; exact oW2.set (by omega)
      have lM1 : M1.length = K'.length := by rw [eM1, List.length_set]
      have ub2 := up_bd (silk := silk) (k := (k2 + 1)) (n := 40) (by omega)
      have e2 := fun base => run_upto (base := base) (n := 40) (xM1.at hS) (by omega) (by omega)
      obtain ⟨w2, ew2⟩ : ∃ w2, w2 = up silk ((k2 + 1)) 40 := ⟨_, rfl⟩
      rw [← ew2] at e2
      obtain ⟨M2, eM2⟩ : ∃ M2, M2 = M1.set id (spB v silk ((k2 + 1) + 1)) := ⟨_, rfl⟩
      rw [← eM2] at e2
      have xM2 : SpE h id v silk ((k2 + 1) + 1) M2 := by rw [eM2]; exact xM1.step hid
      have gM2 : M2[h.length]? = some (ribB 0 (.slice none 0 0) (.slice none 0 0)) := by rw [eM2, List.getElem?_set_ne (by omega)]; exact gM1
      have cM2 : M2[G1.length]? = some (ribB L fv wv) := by rw [eM2, List.getElem?_set_ne (by omega)]; exact cM1
      have fM2 : Own encI 3 (h.length + 2) M2 fv F := by rw [eM2]; exact fM1.set (by omega)
      have wM2 : Own encW 49 (h.length + 2) M2 wv W := by rw [eM2]; exact wM1.set (by omega)
      have lM2 : M2.length = M1.length := by rw [eM2, List.length_set]
      have ub3 := up_bd (silk := silk) (k := ((k2 + 1) + 1)) (n := 8) (by omega)
      have e3 := fun base => run_upto (base := base) (n := 8) (xM2.at hS) (by omega) (by omega)
      obtain ⟨w3, ew3⟩ : ∃ w3, w3 = up silk (((k2 + 1) + 1)) 8 := ⟨_, rfl⟩
      rw [← ew3] at e3
      obtain ⟨M3, eM3⟩ : ∃ M3, M3 = M2.set id (spB v silk (((k2 + 1) + 1) + 1)) := ⟨_, rfl⟩
      rw [← eM3] at e3
      have xM3 : SpE h id v silk (((k2 + 1) + 1) + 1) M3 := by rw [eM3]; exact xM2.step hid
      have gM3 : M3[h.length]? = some (ribB 0 (.slice none 0 0) (.slice none 0 0)) := by rw [eM3, List.getElem?_set_ne (by omega)]; exact gM2
      have cM3 : M3[G1.length]? = some (ribB L fv wv) := by rw [eM3, List.getElem?_set_ne (by omega)]; exact cM2
      have fM3 : Own encI 3 (h.length + 2) M3 fv F := by rw [eM3]; exact fM2.set (by omega)
      have wM3 : Own encW 49 (h.length + 2) M3 wv W := by rw [eM3]; exact wM2.set (by omega)
      have lM3 : M3.length = M2.length := by rw [eM3, List.length_set]
      have ub4 := up_bd (silk := silk) (k := (((k2 + 1) + 1) + 1)) (n := 2) (by omega)
      have e4 := fun base => run_upto (base := base) (n := 2) (xM3.at hS) (by omega) (by omega)
      obtain ⟨w4, ew4⟩ : ∃ w4, w4 = up silk ((((k2 + 1) + 1) + 1)) 2 := ⟨_, rfl⟩
      rw [← ew4] at e4
      obtain ⟨M4, eM4⟩ : ∃ M4, M4 = M3.set id (spB v silk ((((k2 + 1) + 1) + 1) + 1)) := ⟨_, rfl⟩
      rw [← eM4] at e4
      have xM4 : SpE h id v silk ((((k2 + 1) + 1) + 1) + 1) M4 := by rw [eM4]; exact xM3.step hid
      have gM4 : M4[h.length]? = some (ribB 0 (.slice none 0 0) (.slice none 0 0)) := by rw [eM4, List.getElem?_set_ne (by omega)]; exact gM3
      have cM4 : M4[G1.length]? = some (ribB L fv wv) := by rw [eM4, List.getElem?_set_ne (by omega)]; exact cM3
      have fM4 : Own encI 3 (h.length + 2) M4 fv F := by rw [eM4]; exact fM3.set (by omega)
      have wM4 : Own encW 49 (h.length + 2) M4 wv W := by rw [eM4]; exact wM3.set (by omega)
      have lM4 : M4.length = M3.length := by rw [eM4, List.length_set]
      have ub5 := up_bd (silk := silk) (k := ((((k2 + 1) + 1) + 1) + 1)) (n := 2) (by omega)
      have e5 := fun base => run_upto (base := base) (n := 2) (xM4.at hS) (by omega) (by omega)
      obtain ⟨w5, ew5⟩ : ∃ w5, w5 = up silk (((((k2 + 1) + 1) + 1) + 1)) 2 := ⟨_, rfl⟩
      rw [← ew5] at e5
      obtain ⟨M5, eM5⟩ : ∃ M5, M5 = M4.set id (spB v silk (((((k2 + 1) + 1) + 1) + 1) + 1)) := ⟨_, rfl⟩
      rw [← eM5] at e5
      have xM5 : SpE h id v silk (((((k2 + 1) + 1) + 1) + 1) + 1) M5 := by rw [eM5]; exact xM4.step hid
      have gM5 : M5[h.length]? = some (ribB 0 (.slice none 0 0) (.slice none 0 0)) := by rw [eM5, List.getElem?_set_ne (by omega)]; exact gM4
      have cM5 : M5[G1.length]? = some (ribB L fv wv) := by rw [eM5, List.getElem?_set_ne (by omega)]; exact cM4
      have fM5 : Own encI 3 (h.length + 2) M5 fv F := by rw [eM5]; exact fM4.set (by omega)
      have wM5 : Own encW 49 (h.length + 2) M5 wv W := by rw [eM5]; exact wM4.set (by omega)
      have lM5 : M5.length = M4.length := by rw [eM5, List.length_set]
      obtain ⟨wr, ewr⟩ : ∃ wr : Wnt, wr = ⟨w1, w2, w3, w4, w5⟩ := ⟨_, rfl⟩
      have hwr : WntOk wr := by rw [ewr]; exact ⟨by simp only; omega, by simp only; omega, by simp only; omega, by simp only; omega, by simp only; omega⟩
      have bsw : ∀ {lit : Bool}, bsA prog lit M5 23 1 [(0, .agg [.int .i64 w1, .int .i64 w2, .int .i64 w3, .int .i64 w4, .int .i64 w5])] = some (.slice (some ⟨M5.length, 0, 0⟩) 1 1, M5 ++ [rowE encW 49 [wr] 0]) := fun {lit} => by
        rw [ewr]; exact bsWW1 (w := ⟨w1, w2, w3, w4, w5⟩)
      obtain ⟨w', M6, ea, oW6, lW6, eW6, oneW, kW⟩ := snocWW (base := base) (r := wr) wM5 (by omega) (by omega) (by omega)
      have c6 := kW.box cM5
      have g6 := kW.box gM5
      have f6 := kW.own fM5 (by decide)
      have x6 : SpE h id v silk ((((((k2 + 1) + 1) + 1) + 1) + 1)) M6 := eW6 _ (by rw [List.length_set]; omega) xM5
      have cK2' := cK2
      have c6' := c6
      unfold ribB at cK2' c6'
      have hlow : refsLow K'.length wv := oW2.low_refs
      have hsp := @Nat.succ_ne_zero; repeat' (first | simp (disch := first | exact dschN53 | fail) only [go_sem, ↓reduceIte, hsp, r49, d0, d8, d9, d48, q0, q3, q8, q9, q10, q20, hlt2] | refine WP_drw ?_ | refine cnd_intro (fun hsp => ?_) fun hsp => ?_)
      refine WPS_go ?_
      refine WP_wild [⟨1, 23, 51, ⟨G1.length, 0, 2⟩, wv, 14⟩] (by kernel_rfl) (by kernel_rfl) (by kernel_rfl) ⟨hlow, trivial⟩ fun KK hK => ?_
      iterate 17
        rw [TRS_cons]
        refine ⟨by first | (simp (disch := first | exact dschN53 | fail) only [go_sem, ↓reduceIte, r49, d0, d8, d9, d48, q0, q3, q8, q9, q10, q20, cK2', e1, cM1, e2, cM2, e3, cM3, e4, cM4, e5, cM5, bsw, ea, c6', ldsQ_cons, ldsQ_nil, grdQ_cons, grdQ_nil, if_true, Nat.reduceLeDiff]; done) | exact trivial, ?_⟩
        simp (disch := first | exact dschN53 | fail) only [go_sem, ↓reduceIte, r49, d0, d8, d9, d48, q0, q3, q8, q9, q10, q20, cK2', e1, cM1, e2, cM2, e3, cM3, e4, cM4, e5, cM5, bsw, ea, c6']
      rw [TRS_nil]
      refine ⟨by first | (simp (disch := first | exact dschN53 | fail) only [go_sem, ↓reduceIte, r49, d0, d8, d9, d48, q0, q3, q8, q9, q10, q20, cK2', e1, cM1, e2, cM2, e3, cM3, e4, cM4, e5, cM5, bsw, ea, c6', ldsQ_cons, ldsQ_nil, grdQ_cons, grdQ_nil, if_true, Nat.reduceLeDiff]; done) | exact trivial, ?_⟩
      subst hK
      have hsp := @Nat.succ_ne_zero; repeat' (first | simp (disch := first | exact dschN53 | fail) only [go_sem, ↓reduceIte, hsp, r49, d0, d8, d9, d48, q0, q3, q8, q9, q10, q20] | refine WP_drw ?_ | refine cnd_intro (fun hsp => ?_) fun hsp => ?_)
      refine ⟨by (repeat first | exact Agree.refl | assumption | refine Agree.put rfl ?_ | refine Agree.put0 ?_ | refine Agree.sub rfl (by assumption) ?_), by omega, W ++ [wr], w', _, ?_, Ext.set x6 (by rw [List.length_set]; omega), g6, rfl, Own.setBox f6 c6, Own.setBox oW6 c6, by simp; omega, fun w hw => ?_, by omega⟩
      · omega
      · rcases List.mem_append.1 hw with hw | hw
        · exact hWo w hw
        · rw [List.mem_singleton] at hw; rw [hw]; exact hwr
    · rintro fr2 K' hA2 ⟨r49, W, wv, k2, hk2, xK2, gK2, cK2, oF2, oW2, hWl, hWo, lK2⟩
      have d0 := hA2 0 rfl
      have d8 := hA2 8 rfl
      have d9 := hA2 9 rfl
      have d48 := hA2 48 rfl
      try simp (disch := first | exact dschN53 | fail) only [go_sem, ↓reduceIte, q0, q8, q9] at d0 d8 d9 d48
      have hlt2 : ((z : Int) < (z : Int)) = False := eq_false (by omega)
      have owv := oW2.one
      have gK2' := gK2
      have cK2' := cK2
      unfold ribB at gK2' cK2'
      have hsp := @Nat.succ_ne_zero; repeat' (first | simp (disch := first | exact dschN53 | fail) only [go_sem, ↓reduceIte, hsp, r49, d0, d8, d9, d48, q0, q3, q8, q9, q10, q20, hlt2, cK2', gK2'] | refine WP_drw ?_ | refine cnd_intro (fun hsp => ?_) fun hsp => ?_)
      refine ⟨L, F, W, fv, wv, k2, rfl, by omega, Ext.set xK2 (by rw [List.length_set]; omega), (oF2.setBox gK2').low (by omega), (oW2.setBox gK2').low (by omega), ⟨by simp only; omega, by simp only; omega, by simp only; omega, hWo, fun y hy => by have := hFb y hy; simp only; omega, hFs⟩, hL.2, by omega, by omega⟩
theorem run_LMade {base id k0 : Nat} {h : Heap} {v : AVal} {silk : List Int} {A B D : Int} (hb : base ≤ h.length) (hS : SpAt h id v silk k0) (hk : k0 ≤ 100000) (hA : 1 ≤ A ∧ A ≤ 60) (hB : 0 ≤ B ∧ B ≤ 12) (hD : 0 ≤ D ∧ D ≤ 6) :
    Ret prog raw base (.fn 26 [] []) [.ptr (some ⟨id, 0, 0⟩), .int .i64 A, .int .i64 B, .int .i64 D] h (fun w H => ∃ L F W fv wv k', w = .agg [.int .i64 L, fv, wv] ∧ (k0 ≤ k' ∧ k' ≤ k0 + 100) ∧ SpE h id v silk k' H ∧ Own encI 3 h.length H fv F ∧ Own encW 49 h.length H wv W ∧ RibOk ⟨L, F, W⟩ ∧ L ≤ A) := by
  obtain ⟨w, H, e, L, F, W, fv, wv, k', a1, a2, a3, a4, a5, a6, a7, a8⟩ := run_LMadeD hb hS hk hA hB hD
  exact ⟨w, H, e, L, F, W, fv, wv, k', a1, a2, a3, a4, a5, a6, a7⟩
end Go.AM
/-
  The law's own word on values (holds).
-/
namespace Go.AM
open Go.Proofs.Try
attribute [-go_sem] put_ne put_same
attribute [local go_sem ↓] put_if
theorem tknR_in {R : Rib} {w : Wnt} {k x : Nat} {j : Bool} (hw : R.W[k]? = some w) (hx : x < R.L.toNat) (hk : k < R.W.length) : tknR R ⟨(k : Int), (x : Int), j⟩ = tknW R w x j := by
  unfold tknR
  simp only
  rw [if_pos ⟨by omega, by omega⟩, Int.toNat_natCast, hw, Int.toNat_natCast]
end Go.AM
/-
  A plan that is tried (tried).
-/
namespace Go.AM
open Go.Proofs.Try
theorem dschN55 {p : Prop} (h : p := by first | exact Nat.ne_of_beq_eq_false rfl | assumption | (apply asOne; (first | exact One.int | exact One.bool | assumption | exact Ints.one (by assumption) | exact Rows.one (by assumption) | exact Own.one (by assumption) | exact One.lit ⟨rfl, rfl, rfl⟩)) | (apply asSp; (repeat first | assumption | apply SpAt.set | (refine SpAt.new ?_ (by (first | rfl | (simp only [List.length_append, List.length_cons, List.length_nil, List.length_set]; done) | (simp only [List.length_append, List.length_cons, List.length_nil, List.length_set]; omega)))) | apply SpAt.app | apply Bytes.app); done) | (apply asBytes; (repeat first | assumption | apply Bytes.app); done) | (apply asInts; (repeat first | assumption | exact ints_nil | apply Ints.app); done) | (apply asRows; (repeat first | assumption | exact Rows.nil | apply Rows.app); done) | (apply asScal; (first | apply allS1 | apply allS2 | apply allS3 | apply allS4) <;> (first | exact One.int | exact One.bool | assumption | exact Ints.one (by assumption) | exact Rows.one (by assumption) | exact Own.one (by assumption) | exact One.lit ⟨rfl, rfl, rfl⟩)) | exact litT rfl | exact litF rfl | omega | (simp only [List.length_append, List.length_cons, List.length_nil, List.length_set, List.length_reverse]; first | done | omega) | fail) : p := h
attribute [-go_sem] put_ne put_same
attribute [local go_sem ↓] put_if
theorem snocC {b base : Nat} {A : Heap} {w : AVal} {l : List Ct} {r : Ct} (hO : Own encC 58 b A w l) (hb : base ≤ b) (hbh : b ≤ A.length) (hl : l.length ≤ 1000000) :
    ∃ w' H, appendA prog base (A ++ [rowE encC 58 [r] 0]) 43 w (.slice (some ⟨A.length, 0, 0⟩) 1 1) = some (w', H) ∧ Own encC 58 b H w' (l ++ [r]) ∧ A.length ≤ H.length ∧ (∀ G, G.length ≤ b → Ext G A → Ext G H) ∧ One w' ∧ KeepO encC 58 A H := by
  obtain ⟨B, eB⟩ : ∃ B, B = A ++ [rowE encC 58 [r] 0] := ⟨_, rfl⟩
  have xB : Ext A B := by rw [eB]; exact .app .refl
  have lB' : B.length = A.length + 1 := by rw [eB]; simp
  have hx : Rows encC B (.slice (some ⟨A.length, 0, 0⟩) 1 1) [r] := Rows.own (by rw [eB]; exact get_eq rfl) rfl (by simp)
  rw [← eB]
  obtain ⟨w', H, a1, a2, a3, a4, a5, a6⟩ := (hO.ext xB).appendRX (P := prog) (base := base) (t := 43) hx Fc.el43 encC_sc hb (by omega) (by simp) (by simp; omega)
  have a6 : KeepO encC 58 B H := a6
  exact ⟨w', H, a1, a2, by omega, fun G h1 h2 => a4 G h1 (h2.trans xB), a5, fun i y hi hy => a6 i y (xB.get hi) hy⟩
set_option maxRecDepth 100000 in
set_option maxHeartbeats 8000000 in
theorem run_tried {base id k0 : Nat} {h : Heap} {v rv : AVal} {silk : List Int} {R : Rib} (hb : base ≤ h.length) (hS : SpAt h id v silk k0) (hk : k0 ≤ 100000) (hR : RibOk R) (hA : ∀ k' H, SpE h id v silk k' H → RibAt H rv R) :
    Ret prog raw base (.fn 49 [] []) [.ptr (some ⟨id, 0, 0⟩), rv] h (fun w H => ∃ p k' s, (k0 ≤ k' ∧ k' ≤ k0 + 200) ∧ SpE h id v silk k' H ∧ Own encC 58 h.length H w p ∧ p.length ≤ 60 ∧ plnL R p 0 0 = (s, 0)) := by
  have hid := lt_of_get hS.1
  obtain ⟨fv, wv, rfl, hF, hW⟩ := hA k0 h (SpE.refl hS)
  have o1 := hF.one
  have o2 := hW.one
  have hL := hR.L
  have hnW := hR.nW
  obtain ⟨n, en⟩ := Int.eq_ofNat_of_zero_le (show 0 ≤ R.L by omega)
  obtain ⟨G, eG⟩ : ∃ G, G = h ++ [ribB R.L fv wv] := ⟨_, rfl⟩
  have g0 : G[h.length]? = some (ribB R.L fv wv) := by rw [eG]; exact get_eq rfl
  have lG : G.length = h.length + 1 := by rw [eG]; simp
  have q0 : SpE h id v silk k0 G := by rw [eG]; exact (SpE.refl hS).app
  unfold ribB at eG
  refine ret_raw func49 rfl (by kernel_rfl) ?_
  have hsp := @Nat.succ_ne_zero; repeat' (first | simp (disch := first | exact dschN55 | fail) only [go_sem, ↓reduceIte, hsp, ← eG] | refine WP_drw ?_ | refine cnd_intro (fun hsp => ?_) fun hsp => ?_)
  refine WP_iter [(5, 44)] (fun _ (a : Nat) fr K => fr 6 = .int .i64 (a : Int) ∧ a ≤ n ∧ ∃ p w k' s e, fr 5 = w ∧ (k0 ≤ k' ∧ k' ≤ k0 + 3 * a) ∧ SpE h id v silk k' K ∧ K[h.length]? = some (ribB R.L fv wv) ∧ Own encC 58 (h.length + 1) K w p ∧ p.length ≤ a ∧ e ≤ (a : Int) ∧ (∀ q, plnL R (p ++ q) 0 0 = plnL R q e s) ∧ h.length + 1 ≤ K.length) (fun a => n - a) 0 ?_ ?_
  · exact ⟨by (simp (disch := first | exact dschN55 | fail) only [go_sem, ↓reduceIte, Int.natCast_zero]; first | done | rfl), by omega, [], .slice none 0 0, k0, 0, 0, by (simp (disch := first | exact dschN55 | fail) only [go_sem, ↓reduceIte, Int.natCast_zero]; first | done | rfl), by omega, q0, g0, Own.nil, by simp, by omega, fun q => rfl, by omega⟩
  · rintro a fr K hAg ⟨r6, han, p, w, k', s, e, r5, hk', xK, gK, oW, hpl, hea, hq, lK⟩
    have q0 := hAg 0 rfl
    have q3 := hAg 3 rfl
    have q4 := hAg 4 rfl
    try simp (disch := first | exact dschN55 | fail) only [go_sem, ↓reduceIte] at q0 q3 q4
    have ow := oW.one
    by_cases c1 : a < n
    · have t1 : ((a : Int) < R.L) = True := eq_true (by omega)
      have aK := hA k' K xK
      obtain ⟨fv', wv', eqv, hF', hW'⟩ := aK
      simp only [AVal.agg.injEq, List.cons.injEq, and_true, true_and] at eqv
      obtain ⟨rfl, rfl⟩ := eqv
      have hn := hW'.len (P := prog) Fc.el23
      have e1 := fun base => run_upto (base := base) (n := (R.W.length : Int) - 1) (xK.at hS) (by omega) (by omega)
      obtain ⟨u, eu⟩ : ∃ u, u = up silk k' ((R.W.length : Int) - 1) := ⟨_, rfl⟩
      rw [← eu] at e1
      obtain ⟨K1, eK1⟩ : ∃ K1, K1 = K.set id (spB v silk (k' + 1)) := ⟨_, rfl⟩
      rw [← eK1] at e1
      have x1 : SpE h id v silk (k' + 1) K1 := by rw [eK1]; exact xK.step hid
      have g1 : K1[h.length]? = some (ribB R.L fv wv) := by rw [eK1, List.getElem?_set_ne (by omega)]; exact gK
      have w1 : Own encC 58 (h.length + 1) K1 w p := by rw [eK1]; exact oW.set (by omega)
      have l1 : K1.length = K.length := by rw [eK1, List.length_set]
      have e2 := fun base => run_once (base := base) (n := 2) (x1.at hS) (by omega) (by omega)
      obtain ⟨j, ej⟩ : ∃ j, j = decide (up silk (k' + 1) (2 - 1) = 0) := ⟨_, rfl⟩
      rw [← ej] at e2
      obtain ⟨K2, eK2⟩ : ∃ K2, K2 = K1.set id (spB v silk (k' + 1 + 1)) := ⟨_, rfl⟩
      rw [← eK2] at e2
      have x2 : SpE h id v silk (k' + 1 + 1) K2 := by rw [eK2]; exact x1.step hid
      have g2 : K2[h.length]? = some (ribB R.L fv wv) := by rw [eK2, List.getElem?_set_ne (by omega)]; exact g1
      have w2 : Own encC 58 (h.length + 1) K2 w p := by rw [eK2]; exact w1.set (by omega)
      have l2 : K2.length = K1.length := by rw [eK2, List.length_set]
      obtain ⟨K3, eK3⟩ : ∃ K3, K3 = K2 ++ [cutB ⟨u, (a : Int), j⟩] := ⟨_, rfl⟩
      have x3 : SpE h id v silk (k' + 1 + 1) K3 := by rw [eK3]; exact x2.app
      have g3 : K3[h.length]? = some (ribB R.L fv wv) := by rw [eK3]; exact get_app g2
      have gc3 : K3[K2.length]? = some (cutB ⟨u, (a : Int), j⟩) := by rw [eK3]; exact get_eq rfl
      have w3 : Own encC 58 (h.length + 1) K3 w p := by rw [eK3]; exact w2.app
      have l3 : K3.length = K2.length + 1 := by rw [eK3]; simp
      have ht := fun base => run_taken (base := base) (c := ⟨u, (a : Int), j⟩) (hA _ K3 x3) hR
      obtain ⟨s1, -⟩ := pln_step hR (c := ⟨u, (a : Int), j⟩) (l := []) (a := e) (s := s)
      have s1' := fun q => (pln_step hR (c := ⟨u, (a : Int), j⟩) (l := q) (a := e) (s := s)).1
      obtain ⟨r, er⟩ : ∃ r, r = tknR R ⟨u, (a : Int), j⟩ := ⟨_, rfl⟩
      rw [← er] at ht s1
      simp only [← er] at s1'
      obtain ⟨e', p', ok⟩ := r
      simp only at ht s1 s1'
      have gK' := gK
      have g3' := g3
      unfold ribB at gK' g3'
      unfold cutB at eK3 gc3
      cases ok with
      | false =>
        have hsp := @Nat.succ_ne_zero; repeat' (first | simp (disch := first | exact dschN55 | fail) only [go_sem, ↓reduceIte, hsp, r6, r5, q0, q3, q4, gK', t1, hn, e1, e2, ← eK3, g3', gc3, ht, Bool.not_false] | refine WP_drw ?_ | refine cnd_intro (fun hsp => ?_) fun hsp => ?_)
        exact ⟨by (repeat first | exact Agree.refl | assumption | refine Agree.put rfl ?_ | refine Agree.put0 ?_ | refine Agree.sub rfl (by assumption) ?_), a + 1, ⟨by simp, by omega, p, w, k' + 1 + 1, s, e, rfl, by omega, x3, w3, by omega, by omega, hq, by omega⟩, by omega⟩
      | true =>
        obtain ⟨-, z2, z3, z4, z5⟩ := s1 rfl (by omega)
        have e4 := fun base => run_once (base := base) (n := 4) (x3.at hS) (by omega) (by omega)
        obtain ⟨K4, eK4⟩ : ∃ K4, K4 = K3.set id (spB v silk (k' + 1 + 1 + 1)) := ⟨_, rfl⟩
        rw [← eK4] at e4
        have x4 : SpE h id v silk (k' + 1 + 1 + 1) K4 := by rw [eK4]; exact x3.step hid
        have g4 : K4[h.length]? = some (ribB R.L fv wv) := by rw [eK4, List.getElem?_set_ne (by omega)]; exact g3
        have gc4 : K4[K2.length]? = some ⟨.cells [.int .i64 u, .int .i64 (a : Int), .bool j] 58 false false, 0⟩ := by rw [eK4, List.getElem?_set_ne (by omega)]; exact gc3
        have w4 : Own encC 58 (h.length + 1) K4 w p := by rw [eK4]; exact w3.set (by omega)
        have l4 : K4.length = K3.length := by rw [eK4, List.length_set]
        rcases Bool.eq_false_or_eq_true (decide (up silk (k' + 1 + 1) (4 - 1) = 0)) with qb | qb
        · rw [qb] at e4
          have hsp := @Nat.succ_ne_zero; repeat' (first | simp (disch := first | exact dschN55 | fail) only [go_sem, ↓reduceIte, hsp, r6, r5, q0, q3, q4, gK', t1, hn, e1, e2, ← eK3, g3', gc3, ht, Bool.not_true, e4] | refine WP_drw ?_ | refine cnd_intro (fun hsp => ?_) fun hsp => ?_)
          exact ⟨by (repeat first | exact Agree.refl | assumption | refine Agree.put rfl ?_ | refine Agree.put0 ?_ | refine Agree.sub rfl (by assumption) ?_), a + 1, ⟨by simp, by omega, p, w, k' + 1 + 1 + 1, s, e, rfl, by omega, x4, g4, w4, by omega, by omega, hq, by omega⟩, by omega⟩
        · rw [qb] at e4
          obtain ⟨w', K5, ea, oW5, lW5, eW5, oneW, kW⟩ := snocC (base := base) (r := ⟨u, (a : Int), j⟩) w4 (by omega) (by omega) (by omega)
          have g5 := kW.box g4
          have x5 : SpE h id v silk (k' + 1 + 1 + 1) K5 := eW5 _ (by rw [List.length_set]; omega) x4
          have hq2 : ∀ q, plnL R (p ++ [⟨u, (a : Int), j⟩] ++ q) 0 0 = plnL R q e' (s + p') := fun q => by
            rw [List.append_assoc, hq, List.singleton_append]
            exact (s1' q rfl (by first | omega | (simp only; omega))).1
          have bc : ∀ {lit : Bool}, bsA prog lit K4 43 1 [(0, .agg [.int .i64 u, .int .i64 (a : Int), .bool j])] = some (.slice (some ⟨K4.length, 0, 0⟩) 1 1, K4 ++ [rowE encC 58 [⟨u, (a : Int), j⟩] 0]) := fun {lit} => bsC1 (c := ⟨u, (a : Int), j⟩)
          obtain ⟨m, em⟩ := Int.eq_ofNat_of_zero_le z3
          try simp only at z5
          have hsp := @Nat.succ_ne_zero; repeat' (first | simp (disch := first | exact dschN55 | fail) only [go_sem, ↓reduceIte, hsp, r6, r5, q0, q3, q4, gK', t1, hn, e1, e2, ← eK3, g3', gc3, ht, Bool.not_true, e4, gc4, bc, ea] | refine WP_drw ?_ | refine cnd_intro (fun hsp => ?_) fun hsp => ?_)
          exact ⟨by (repeat first | exact Agree.refl | assumption | refine Agree.put rfl ?_ | refine Agree.put0 ?_ | refine Agree.sub rfl (by assumption) ?_), m, ⟨by rw [em], by omega, _, w', k' + 1 + 1 + 1, s + p', e', rfl, by omega, x5, g5, oW5, by rw [List.length_append, List.length_singleton]; omega, by omega, hq2, by omega⟩, by omega⟩
    · have t1 : ((a : Int) < R.L) = False := eq_false (by omega)
      unfold ribB at gK
      have hsp := @Nat.succ_ne_zero; repeat' (first | simp (disch := first | exact dschN55 | fail) only [go_sem, ↓reduceIte, hsp, r6, r5, q0, q3, q4, gK, t1] | refine WP_drw ?_ | refine cnd_intro (fun hsp => ?_) fun hsp => ?_)
      have := hq []
      rw [List.append_nil, plnL] at this
      exact ⟨p, k', s, by omega, xK, oW.low (by omega), by omega, this⟩
end Go.AM
/-
  CutEarned, walked.
-/
namespace Go.AM
open Go.Proofs.Try
attribute [-go_sem] put_ne put_same
attribute [local go_sem ↓] put_if
end Go.AM
/-
  Plain: the units that a plan takes and those that it leaves over.
-/
namespace Go.AM
/-! ### Spans -/
structure SpK (t : List Int) (n : Nat) (o : List (Int × Int)) : Prop where
  b : ∀ y ∈ o, 0 ≤ y.1 ∧ y.1 ≤ y.2 ∧ y.2 < (n : Int)
  s : o.Pairwise fun a b => a.2 + 1 < b.1
  m : ∀ u : Nat, (∃ y ∈ o, y.1 ≤ (u : Int) ∧ (u : Int) ≤ y.2) ↔ u < n ∧ (u : Int) ∉ t
def smS : List (Int × Int) → Int
  | [] => 0
  | y :: l => (y.2 - y.1 + 1) + smS l
theorem smS_app : ∀ {l m : List (Int × Int)}, smS (l ++ m) = smS l + smS m
  | [], m => by simp [smS]
  | y :: l, m => by rw [List.cons_append, smS, smS, smS_app]; omega
/-- How many numbers below n are not in a list. -/
def cnN (t : List Int) : Nat → Int
  | 0 => 0
  | n + 1 => cnN t n + if (n : Int) ∈ t then 0 else 1
theorem spnS_last {t : List Int} {o : List (Int × Int)} {l : Int × Int} {u : Nat} : spnS t (o ++ [l]) u = if (u : Int) ∈ t then o ++ [l] else if l.2 = (u : Int) - 1 then o ++ [(l.1, (u : Int))] else o ++ [l] ++ [((u : Int), (u : Int))] := by
  have h1 : (o ++ [l]).getD ((o ++ [l]).length - 1) (0, 0) = l := by simp [List.getD_eq_getElem?_getD]
  have h2 : 0 < (o ++ [l]).length := by simp
  unfold spnS
  rw [h1]
  split
  · rfl
  · by_cases c : l.2 = (u : Int) - 1
    · rw [if_pos ⟨h2, c⟩, if_pos c, List.length_append, List.length_singleton, Nat.add_sub_cancel, List.set_append_right _ _ (Nat.le_refl _), Nat.sub_self]; rfl
    · rw [if_neg (fun q => c q.2), if_neg c]
theorem SpK.step {t : List Int} {n : Nat} {o : List (Int × Int)} (h : SpK t n o) (hs : smS o = cnN t n) : SpK t (n + 1) (spnS t o n) ∧ smS (spnS t o n) = cnN t (n + 1) := by
  rw [cnN]
  by_cases c : (n : Int) ∈ t
  · have e : spnS t o n = o := by unfold spnS; rw [if_pos c]
    rw [e, if_pos c]
    refine ⟨⟨fun y hy => by have := h.b y hy; omega, h.s, fun u => ?_⟩, by omega⟩
    rw [h.m u]
    constructor
    · rintro ⟨h1, h2⟩; exact ⟨by omega, h2⟩
    · rintro ⟨h1, h2⟩
      refine ⟨?_, h2⟩
      have : u ≠ n := fun q => h2 (q ▸ c)
      omega
  · rw [if_neg c]
    rcases List.eq_nil_or_concat o with rfl | ⟨o', l, rfl⟩
    · have e : spnS t [] n = [((n : Int), (n : Int))] := by unfold spnS; rw [if_neg c, if_neg (by simp)]; rfl
      rw [e]
      refine ⟨⟨fun y hy => ?_, by simp, fun u => ?_⟩, ?_⟩
      · rw [List.mem_singleton] at hy; rw [hy]; simp only; omega
      · have := h.m u
        simp only [List.not_mem_nil, false_and, exists_false, false_iff, not_and, Classical.not_not] at this
        simp only [List.mem_singleton, exists_eq_left]
        constructor
        · rintro ⟨h1, h2⟩
          have : u = n := by omega
          exact ⟨by omega, by rw [this]; exact c⟩
        · rintro ⟨h1, h2⟩
          have : ¬ u < n := fun q => h2 (this q)
          omega
      · simp only [smS] at hs ⊢; omega
    · rw [List.concat_eq_append] at h hs ⊢
      rw [spnS_last, if_neg c]
      have hl := h.b l (by simp)
      obtain ⟨p1, p2, p3⟩ := List.pairwise_append.1 h.s
      rw [smS_app] at hs
      simp only [smS] at hs
      by_cases d : l.2 = (n : Int) - 1
      · rw [if_pos d]
        refine ⟨⟨fun y hy => ?_, ?_, fun u => ?_⟩, ?_⟩
        · rcases List.mem_append.1 hy with q | q
          · have := h.b y (List.mem_append_left _ q); omega
          · rw [List.mem_singleton] at q; rw [q]; simp only; omega
        · refine List.pairwise_append.2 ⟨p1, by simp, fun a ha b hb => ?_⟩
          rw [List.mem_singleton] at hb
          rw [hb]
          exact p3 a ha l (by simp)
        · have := h.m u
          simp only [List.mem_append, List.mem_singleton, or_and_right, exists_or, exists_eq_left] at this ⊢
          constructor
          · rintro (q | ⟨q1, q2⟩)
            · have := this.1 (.inl q); exact ⟨by omega, this.2⟩
            · by_cases e : u = n
              · exact ⟨by omega, by rw [e]; exact c⟩
              · have := this.1 (.inr ⟨q1, by omega⟩); exact ⟨by omega, this.2⟩
          · rintro ⟨q1, q2⟩
            by_cases e : u = n
            · exact .inr (by omega)
            · rcases this.2 ⟨by omega, q2⟩ with q | q
              · exact .inl q
              · exact .inr (by omega)
        · rw [smS_app]; simp only [smS]; omega
      · rw [if_neg d]
        refine ⟨⟨fun y hy => ?_, ?_, fun u => ?_⟩, ?_⟩
        · rcases List.mem_append.1 hy with q | q
          · have := h.b y q; omega
          · rw [List.mem_singleton] at q; rw [q]; simp only; omega
        · refine List.pairwise_append.2 ⟨h.s, by simp, fun a ha b hb => ?_⟩
          rw [List.mem_singleton] at hb
          rw [hb]
          simp only
          rcases List.mem_append.1 ha with q | q
          · have := p3 a q l (by simp); omega
          · rw [List.mem_singleton] at q; rw [q]; omega
        · have := h.m u
          rw [show (∃ y ∈ o' ++ [l] ++ [((n : Int), (n : Int))], y.1 ≤ (u : Int) ∧ (u : Int) ≤ y.2) ↔ (∃ y ∈ o' ++ [l], y.1 ≤ (u : Int) ∧ (u : Int) ≤ y.2) ∨ u = n by
            rw [show (u = n) ↔ (n : Int) ≤ (u : Int) ∧ (u : Int) ≤ (n : Int) by omega]
            simp only [List.mem_append, List.mem_singleton, or_and_right, exists_or, exists_eq_left], this]
          constructor
          · rintro (⟨q1, q2⟩ | q)
            · exact ⟨by omega, q2⟩
            · exact ⟨by omega, by rw [q]; exact c⟩
          · rintro ⟨q1, q2⟩
            by_cases e : u = n
            · exact .inr e
            · exact .inl ⟨by omega, q2⟩
        · rw [smS_app, smS_app]; simp only [smS]; omega
theorem spnN_k {t : List Int} : ∀ n, SpK t n (spnN t n) ∧ smS (spnN t n) = cnN t n
  | 0 => ⟨⟨fun y hy => (by cases hy), by simp [spnN], fun u => by simp [spnN]⟩, rfl⟩
  | n + 1 => (spnN_k n).1.step (spnN_k n).2
theorem cnN_far {x : Int} {t : List Int} : ∀ {n : Nat}, (n : Int) ≤ x → cnN (x :: t) n = cnN t n
  | 0, _ => rfl
  | n + 1, h => by
    rw [cnN, cnN, cnN_far (by omega)]
    have : (n : Int) ∈ x :: t ↔ (n : Int) ∈ t := by rw [List.mem_cons]; exact ⟨fun q => q.elim (fun z => by omega) id, .inr⟩
    by_cases c : (n : Int) ∈ t
    · rw [if_pos c, if_pos (this.2 c)]
    · rw [if_neg c, if_neg (fun q => c (this.1 q))]
theorem cnN_cons {x : Int} {t : List Int} (hx : x ∉ t) (h0 : 0 ≤ x) : ∀ {n : Nat}, x < (n : Int) → cnN (x :: t) n = cnN t n - 1
  | 0, h => by omega
  | n + 1, h => by
    rw [cnN, cnN]
    by_cases e : x = (n : Int)
    · rw [cnN_far (by omega), if_pos (by rw [e]; simp), if_neg (by rw [← e]; exact hx)]; omega
    · rw [cnN_cons hx h0 (by omega)]
      have : (n : Int) ∈ x :: t ↔ (n : Int) ∈ t := by rw [List.mem_cons]; exact ⟨fun q => q.elim (fun z => by omega) id, .inr⟩
      by_cases c : (n : Int) ∈ t
      · rw [if_pos c, if_pos (this.2 c)]; omega
      · rw [if_neg c, if_neg (fun q => c (this.1 q))]; omega
theorem cnN_nil : ∀ {n : Nat}, cnN [] n = (n : Int)
  | 0 => rfl
  | n + 1 => by rw [cnN, cnN_nil]; simp
theorem cnN_len {n : Nat} : ∀ {t : List Int}, t.Nodup → (∀ y ∈ t, 0 ≤ y ∧ y < (n : Int)) → cnN t n = (n : Int) - t.length
  | [], _, _ => by rw [cnN_nil]; simp
  | x :: t, hd, hb => by
    have h1 := List.nodup_cons.1 hd
    have h2 := hb x (by simp)
    rw [cnN_cons h1.1 h2.1 h2.2, cnN_len h1.2 (fun y hy => hb y (List.mem_cons_of_mem _ hy)), List.length_cons]; omega
/-! ### What a cut takes -/
structure Tk (R : Rib) (c : Ct) (e : Int × Int) : Prop where
  p : (takU R c).Pairwise (· < ·)
  b : ∀ y ∈ takU R c, c.f ≤ y ∧ y < e.1
  n : ∃ w, R.W[c.w.toNat]? = some w ∧ ((takU R c).length : Int) = w.lg
  m : ∀ u : Nat, c.f ≤ (u : Int) → (u : Int) < e.1 → ((u : Int) ∈ takU R c ↔ (c.j && badF R u) = false)
  f : c.f < e.1
  l : e.1 ≤ R.L
theorem unL_all {bad : Nat → Bool} {j : Bool} {lg : Int} {n x : Nat} : ∃ u' : Nat, (∀ y ∈ (unL bad j lg n x [] 0).1, y < (u' : Int)) ∧ ∀ y : Nat, x ≤ y → y < u' → ((y : Int) ∈ (unL bad j lg n x [] 0).1 ↔ (j && bad y) = false) := by
  obtain ⟨u', _, _, h, _⟩ := unL_inv (bad := bad) (j := j) (lg := lg) (I := fun u o _ => (∀ y ∈ o, y < (u : Int)) ∧ ∀ y : Nat, x ≤ y → y < u → ((y : Int) ∈ o ↔ (j && bad y) = false)) (fun u o f hI _ => by
    obtain ⟨h1, h2⟩ := hI
    unfold unS
    by_cases c : (j && bad u) = true
    · rw [if_pos c]
      refine ⟨fun y hy => by have := h1 y hy; omega, fun y g1 g2 => ?_⟩
      by_cases e : y = u
      · subst e
        rw [c]
        exact ⟨fun q => by have := h1 _ q; omega, fun q => by simp at q⟩
      · exact h2 y g1 (by omega)
    · rw [if_neg c]
      refine ⟨fun y hy => ?_, fun y g1 g2 => ?_⟩
      · rcases List.mem_append.1 hy with q | q
        · have := h1 y q; omega
        · rw [List.mem_singleton] at q; omega
      · show (y : Int) ∈ o ++ [(u : Int)] ↔ _
        rw [List.mem_append, List.mem_singleton]
        by_cases e : y = u
        · subst e
          rw [Bool.not_eq_true] at c
          exact ⟨fun _ => c, fun _ => .inr rfl⟩
        · rw [← h2 y g1 (by omega)]
          exact ⟨fun q => q.elim id fun z => by omega, .inl⟩) n x [] 0 ⟨by simp, fun y h1 h2 => by omega⟩
  exact ⟨u', h⟩
theorem tk_of {R : Rib} (hR : RibOk R) {c : Ct} (hw : 0 ≤ c.w ∧ c.w ≤ (R.W.length : Int) - 1) (hf : 0 ≤ c.f ∧ c.f ≤ R.L - 1) {e : Int × Int} (he : takC R c = some e) : Tk R c e := by
  have hwk : R.W[c.w.toNat]? = some (R.W[c.w.toNat]'(by omega)) := List.getElem?_eq_getElem (by omega)
  generalize R.W[c.w.toNat]'(by omega) = w at hwk
  have hx : c.f.toNat < R.L.toNat := by omega
  have hwo := hR.W w (List.mem_of_getElem? hwk)
  have hlg := hwo.lg
  unfold takC at he
  rw [hwk] at he
  simp only at he
  have hb := takL_b (e := e.1) (p := e.2) hR hwo hx he
  unfold takL at he
  split at he
  · rename_i ct
    have hok := ct.1
    unfold okT at hok
    simp only [Bool.and_eq_true, Bool.not_eq_true', decide_eq_true_eq] at hok
    have eu : takU R c = (uniP R w c.f.toNat c.j).1 := by
      unfold takU uniO
      rw [hwk]
      simp only
      rw [if_neg (by rw [hok.1]; simp)]
    obtain ⟨u, h1, h2, hk, _⟩ := uniP_k (w := w) (j := c.j) hR hx
    have heq := Option.some.inj he
    have e1 : e.1 = (uniP R w c.f.toNat c.j).1.getD ((uniP R w c.f.toNat c.j).1.length - 1) 0 + 1 := by rw [← heq]
    obtain ⟨u', a1, a2⟩ := unL_all (bad := badF R) (j := c.j) (lg := w.lg) (n := R.L.toNat - c.f.toNat) (x := c.f.toNat)
    have hlast : ∀ y ∈ (uniP R w c.f.toNat c.j).1, y < e.1 := fun y hy => by
      obtain ⟨i, hi⟩ := List.getElem?_of_mem hy
      have hil := (List.getElem?_eq_some_iff.1 hi).1
      have hp := List.pairwise_iff_getElem.1 hk.p
      rw [e1]
      by_cases q : i = (uniP R w c.f.toNat c.j).1.length - 1
      · rw [← q, List.getD_eq_getElem?_getD, hi]; simp only [Option.getD_some]; omega
      · have := hp i ((uniP R w c.f.toNat c.j).1.length - 1) hil (by omega) (by omega)
        rw [(List.getElem?_eq_some_iff.1 hi).2] at this
        rw [List.getD_eq_getElem?_getD, List.getElem?_eq_getElem (by omega)]
        simp only [Option.getD_some]
        omega
    have hmem : (uniP R w c.f.toNat c.j).1.getD ((uniP R w c.f.toNat c.j).1.length - 1) 0 ∈ (uniP R w c.f.toNat c.j).1 := getD_mem' (by omega)
    have hu' := a1 _ hmem
    refine ⟨by rw [eu]; exact hk.p, fun y hy => ?_, ⟨w, hwk, by rw [eu]; exact hok.2⟩, fun y g1 g2 => ?_, by omega, hb.2.1⟩
    · rw [eu] at hy
      have := hk.b y hy
      exact ⟨by omega, hlast y hy⟩
    · rw [eu]
      exact a2 y (by omega) (by omega)
  · cases he
/-! ### What a plan takes -/
theorem foldl_insK {ks : List Int} : ∀ {l : List Int}, l.Nodup → (∀ y ∈ l, y ∉ ks) → l.foldl insK ks = ks ++ l
  | [], _, _ => by simp
  | x :: l, hd, hn => by
    have h1 := List.nodup_cons.1 hd
    rw [List.foldl_cons]
    have e : insK ks x = ks ++ [x] := by unfold insK; rw [if_neg (hn x (by simp))]
    rw [e, foldl_insK h1.2 (fun y hy q => ?_), List.append_assoc]; rfl
    rcases List.mem_append.1 q with q | q
    · exact hn y (List.mem_cons_of_mem _ hy) q
    · rw [List.mem_singleton] at q; exact h1.1 (q ▸ hy)
def lgC (R : Rib) (c : Ct) : Int := match R.W[c.w.toNat]? with | none => 0 | some w => w.lg
def lgS (R : Rib) : List Ct → Int
  | [] => 0
  | c :: p => lgC R c + lgS R p
theorem lgS_app {R : Rib} : ∀ {p q : List Ct}, lgS R (p ++ q) = lgS R p + lgS R q
  | [], q => by simp [lgS]
  | c :: p, q => by rw [List.cons_append, lgS, lgS, lgS_app]; omega
structure Tn (R : Rib) (p : List Ct) (a : Int) (ks T : List Int) : Prop where
  len : (T.length : Int) = ks.length + lgS R p
  nd : T.Nodup
  b : ∀ y ∈ T, y ∈ ks ∨ (a ≤ y ∧ y < R.L)
  at_ : ∀ c ∈ p, ∀ e, takC R c = some e → ∀ u : Nat, c.f ≤ (u : Int) → (u : Int) < e.1 → ((u : Int) ∈ T ↔ (c.j && badF R u) = false)
  ks : ∀ y ∈ ks, y ∈ T
theorem tkn_ok {R : Rib} (hR : RibOk R) : ∀ {p : List Ct} {a s : Int} {ks : List Int}, (plnL R p a s).2 = 0 → 0 ≤ a → ks.Nodup → (∀ y ∈ ks, y < a) → Tn R p a ks (tknL R p ks)
  | [], a, s, ks, _, _, hd, _ => ⟨by simp [tknL, lgS], hd, fun y hy => .inl hy, fun c hc => (by cases hc), fun y hy => hy⟩
  | d :: p, a, s, ks, h, ha, hd, hb => by
    unfold plnL at h
    split at h
    · simp at h
    · rename_i h1
      have h1 := Classical.not_not.1 h1
      split at h
      · simp at h
      · rename_i e he
        split at h
        · simp at h
        · rename_i h2
          have tk := tk_of hR h1.1 h1.2 he
          have ef := tk.f
          have hnd : (takU R d).Nodup := tk.p.imp fun q => by omega
          have eK := foldl_insK (ks := ks) hnd (fun y hy q => by have := tk.b y hy; have := hb y q; omega)
          have ih := tkn_ok hR (p := p) (a := e.1) (s := s + e.2) (ks := ks ++ takU R d) h (by omega) (List.nodup_append.2 ⟨hd, hnd, fun x hx y hy q => by have := tk.b y hy; have := hb x hx; omega⟩) (fun y hy => by
            rcases List.mem_append.1 hy with q | q
            · have := hb y q; omega
            · exact (tk.b y q).2)
          rw [tknL, eK]
          obtain ⟨w, hw, hlg⟩ := tk.n
          have el : lgC R d = w.lg := by unfold lgC; rw [hw]
          have il := ih.len
          rw [List.length_append] at il
          refine ⟨by rw [lgS, el]; omega, ih.nd, fun y hy => ?_, fun c hc e' he' u g1 g2 => ?_, fun y hy => ih.ks y (List.mem_append_left _ hy)⟩
          · rcases ih.b y hy with q | q
            · rcases List.mem_append.1 q with q | q
              · exact .inl q
              · have := tk.b y q; have := tk.l; exact .inr (by omega)
            · exact .inr (by omega)
          · rcases List.mem_cons.1 hc with rfl | hc
            · rw [he] at he'
              obtain rfl := Option.some.inj he'
              rw [← tk.m u g1 g2]
              constructor
              · intro q
                rcases ih.b _ q with z | z
                · rcases List.mem_append.1 z with z | z
                  · have := hb _ z; omega
                  · exact z
                · omega
              · intro q
                exact ih.ks _ (List.mem_append_right _ q)
            · exact ih.at_ c hc e' he' u g1 g2
theorem tkn_all {R : Rib} (hR : RibOk R) {p : List Ct} {s : Int} (h : plnL R p 0 0 = (s, 0)) : Tn R p 0 [] (tknL R p []) ∧ smS (spnN (tknL R p []) R.L.toNat) + lgS R p = R.L := by
  have hL := hR.L
  have t := tkn_ok hR (p := p) (a := 0) (s := 0) (ks := []) (by rw [h]) (Int.le_refl _) (by simp) (by simp)
  refine ⟨t, ?_⟩
  have hn := (spnN_k (t := tknL R p []) R.L.toNat).2
  have hl := cnN_len (n := R.L.toNat) t.nd (fun y hy => by
    rcases t.b y hy with q | q
    · cases q
    · omega)
  have := t.len
  simp only [List.length_nil] at this
  omega
end Go.AM
/-
  Contracts: searches among cuts and spans; the closures of CutRest.
-/
namespace Go.AM
open Go.Proofs.Try
theorem dschN62 {p : Prop} (h : p := by first | exact Nat.ne_of_beq_eq_false rfl | assumption | (apply asOne; (first | exact One.int | exact One.bool | assumption | exact Ints.one (by assumption) | exact Rows.one (by assumption) | exact Own.one (by assumption) | exact One.lit ⟨rfl, rfl, rfl⟩)) | (apply asInts; (repeat first | assumption | exact ints_nil | apply Ints.app); done) | (apply asRows; (repeat first | assumption | exact Rows.nil | apply Rows.app); done) | (apply asScal; (first | apply allS1 | apply allS2 | apply allS3 | apply allS4) <;> (first | exact One.int | exact One.bool | assumption | exact Ints.one (by assumption) | exact Rows.one (by assumption) | exact Own.one (by assumption) | exact One.lit ⟨rfl, rfl, rfl⟩)) | exact litT rfl | exact litF rfl | omega | (simp only [List.length_append, List.length_cons, List.length_nil, List.length_set, List.length_reverse]; first | done | omega) | fail) : p := h
theorem idxF_C {base : Nat} {h : Heap} {v g : AVal} {l : List (Ct)} (p : Ct → Bool) (hR : Rows encC h v l) (hg : ∀ base x, x ∈ l → callL prog raw base g [.agg (encC.cells x)] h = some (.bool (p x), h)) :
    callL prog raw base (.fn 111 [] []) [v, g] h = some (.int .i64 (idx p l), h) := by
  have hb : l.length < 2 ^ 60 := hR.1
  refine callL_run func111 rfl rfl ?_
  have hsp := @Nat.succ_ne_zero; repeat' (first | simp (disch := first | exact dschN62 | fail) only [go_sem, hsp, hR.len Fc.el43] | refine WP_drw ?_ | refine cnd_intro (fun hsp => ?_) fun hsp => ?_)
  refine WP_loop (fun σ => ∃ n : Nat, σ.fr 8 = .int .i64 (n : Int) ∧ σ.fr 0 = v ∧ σ.fr 1 = g ∧ σ.fr 7 = .int .i64 (l.length : Int) ∧ σ.h = h ∧ n ≤ l.length ∧ (∀ x ∈ l.take n, p x = false)) (fun σ => match σ.fr 8 with | .int _ x => (((l.length : Nat) : Int) - x).toNat | _ => 0) ?_ ?_
  · refine ⟨0, ?_, ?_, ?_, ?_, ?_, by omega, ?_⟩
    iterate 5 focus (first | rfl | (simp (disch := first | exact dschN62 | fail) only [go_sem, Int.natCast_zero]; first | done | rfl))
    intro x hx; simp at hx
  · rintro ⟨fr, hp⟩ ⟨n, r8, r0, r1, r7, rh, hi, hP⟩
    dsimp only at r8 r0 r1 r7 rh hi hP
    subst rh
    by_cases hn : n < l.length
    · have hlt : ((n : Int) < (l.length : Int)) = True := eq_true (by omega)
      have hx : l[n]? = some l[n] := List.getElem?_eq_getElem hn
      have had := hR.addr (i := (n : Int)) Fc.el43 Fc.ar43 (by omega) (by omega)
      rw [Int.toNat_natCast] at had
      have hld := hR.load Fc.ty58 hx
      have hc := fun base => hg base l[n] (List.getElem_mem hn)
      cases hp : p l[n] with
      | true =>
        rw [hp] at hc
        have hsp := @Nat.succ_ne_zero; repeat' (first | simp (disch := first | exact dschN62 | fail) only [go_sem, hsp, r8, r0, r1, r7, hlt, had, hld, hc] | refine WP_drw ?_ | refine cnd_intro (fun hsp => ?_) fun hsp => ?_)
        rw [idx_hit p hn hP hp]
        all_goals (first | refine fI ?_ | refine fB ?_ | refine fII ?_ ?_ | refine fBI ?_ ?_ | refine fIII ?_ ?_ ?_ | refine fIIB ?_ ?_ ?_ | skip); all_goals (try dsimp only); all_goals (try with_reducible rfl); all_goals (try omega)
      | false =>
        rw [hp] at hc
        have hsp := @Nat.succ_ne_zero; repeat' (first | simp (disch := first | exact dschN62 | fail) only [go_sem, hsp, r8, r0, r1, r7, hlt, had, hld, hc] | refine WP_drw ?_ | refine cnd_intro (fun hsp => ?_) fun hsp => ?_)
        exact ⟨⟨n + 1, by simp, by omega, take_next p hn hP hp⟩, by omega⟩
    · have hlt : ((n : Int) < (l.length : Int)) = False := eq_false (by omega)
      obtain rfl : n = l.length := by omega
      have hsp := @Nat.succ_ne_zero; repeat' (first | simp (disch := first | exact dschN62 | fail) only [go_sem, hsp, r8, r0, r1, r7, hlt] | refine WP_drw ?_ | refine cnd_intro (fun hsp => ?_) fun hsp => ?_)
      rw [idx_miss p hP]
      all_goals (first | refine fI ?_ | refine fB ?_ | refine fII ?_ ?_ | refine fBI ?_ ?_ | refine fIII ?_ ?_ ?_ | refine fIIB ?_ ?_ ?_ | skip); all_goals (try dsimp only); all_goals (try with_reducible rfl); all_goals (try omega)
theorem anyF_C {base : Nat} {h : Heap} {v g : AVal} {l : List (Ct)} (p : Ct → Bool) (hR : Rows encC h v l) (hg : ∀ base x, x ∈ l → callL prog raw base g [.agg (encC.cells x)] h = some (.bool (p x), h)) :
    callL prog raw base (.fn 52 [] []) [v, g] h = some (.bool (l.any p), h) := by
  have hi := fun base => idxF_C (base := base) p hR hg
  have h0 := idx_any p l
  refine callL_run func52 rfl rfl ?_
  have hsp := @Nat.succ_ne_zero; repeat' (first | simp (disch := first | exact dschN62 | fail) only [go_sem, hsp, hi] | refine WP_drw ?_ | refine cnd_intro (fun hsp => ?_) fun hsp => ?_)
  refine fB ?_
  by_cases h1 : l.any p = true
  · rw [h1]; simpa using h0.2 h1
  · have h2 : ¬ 0 ≤ idx p l := fun h => h1 (h0.1 h)
    simp only [Bool.not_eq_true] at h1
    rw [h1]; simpa using h2
theorem idxF_S {base : Nat} {h : Heap} {v g : AVal} {l : List (Int × Int)} (p : Int × Int → Bool) (hR : Rows encS h v l) (hg : ∀ base x, x ∈ l → callL prog raw base g [.agg (encS.cells x)] h = some (.bool (p x), h)) :
    callL prog raw base (.fn 112 [] []) [v, g] h = some (.int .i64 (idx p l), h) := by
  have hb : l.length < 2 ^ 60 := hR.1
  refine callL_run func112 rfl rfl ?_
  have hsp := @Nat.succ_ne_zero; repeat' (first | simp (disch := first | exact dschN62 | fail) only [go_sem, hsp, hR.len Fc.el59] | refine WP_drw ?_ | refine cnd_intro (fun hsp => ?_) fun hsp => ?_)
  refine WP_loop (fun σ => ∃ n : Nat, σ.fr 8 = .int .i64 (n : Int) ∧ σ.fr 0 = v ∧ σ.fr 1 = g ∧ σ.fr 7 = .int .i64 (l.length : Int) ∧ σ.h = h ∧ n ≤ l.length ∧ (∀ x ∈ l.take n, p x = false)) (fun σ => match σ.fr 8 with | .int _ x => (((l.length : Nat) : Int) - x).toNat | _ => 0) ?_ ?_
  · refine ⟨0, ?_, ?_, ?_, ?_, ?_, by omega, ?_⟩
    iterate 5 focus (first | rfl | (simp (disch := first | exact dschN62 | fail) only [go_sem, Int.natCast_zero]; first | done | rfl))
    intro x hx; simp at hx
  · rintro ⟨fr, hp⟩ ⟨n, r8, r0, r1, r7, rh, hi, hP⟩
    dsimp only at r8 r0 r1 r7 rh hi hP
    subst rh
    by_cases hn : n < l.length
    · have hlt : ((n : Int) < (l.length : Int)) = True := eq_true (by omega)
      have hx : l[n]? = some l[n] := List.getElem?_eq_getElem hn
      have had := hR.addr (i := (n : Int)) Fc.el59 Fc.ar59 (by omega) (by omega)
      rw [Int.toNat_natCast] at had
      have hld := hR.load Fc.ty69 hx
      have hc := fun base => hg base l[n] (List.getElem_mem hn)
      cases hp : p l[n] with
      | true =>
        rw [hp] at hc
        have hsp := @Nat.succ_ne_zero; repeat' (first | simp (disch := first | exact dschN62 | fail) only [go_sem, hsp, r8, r0, r1, r7, hlt, had, hld, hc] | refine WP_drw ?_ | refine cnd_intro (fun hsp => ?_) fun hsp => ?_)
        rw [idx_hit p hn hP hp]
        all_goals (first | refine fI ?_ | refine fB ?_ | refine fII ?_ ?_ | refine fBI ?_ ?_ | refine fIII ?_ ?_ ?_ | refine fIIB ?_ ?_ ?_ | skip); all_goals (try dsimp only); all_goals (try with_reducible rfl); all_goals (try omega)
      | false =>
        rw [hp] at hc
        have hsp := @Nat.succ_ne_zero; repeat' (first | simp (disch := first | exact dschN62 | fail) only [go_sem, hsp, r8, r0, r1, r7, hlt, had, hld, hc] | refine WP_drw ?_ | refine cnd_intro (fun hsp => ?_) fun hsp => ?_)
        exact ⟨⟨n + 1, by simp, by omega, take_next p hn hP hp⟩, by omega⟩
    · have hlt : ((n : Int) < (l.length : Int)) = False := eq_false (by omega)
      obtain rfl : n = l.length := by omega
      have hsp := @Nat.succ_ne_zero; repeat' (first | simp (disch := first | exact dschN62 | fail) only [go_sem, hsp, r8, r0, r1, r7, hlt] | refine WP_drw ?_ | refine cnd_intro (fun hsp => ?_) fun hsp => ?_)
      rw [idx_miss p hP]
      all_goals (first | refine fI ?_ | refine fB ?_ | refine fII ?_ ?_ | refine fBI ?_ ?_ | refine fIII ?_ ?_ ?_ | refine fIIB ?_ ?_ ?_ | skip); all_goals (try dsimp only); all_goals (try with_reducible rfl); all_goals (try omega)
theorem anyF_S {base : Nat} {h : Heap} {v g : AVal} {l : List (Int × Int)} (p : Int × Int → Bool) (hR : Rows encS h v l) (hg : ∀ base x, x ∈ l → callL prog raw base g [.agg (encS.cells x)] h = some (.bool (p x), h)) :
    callL prog raw base (.fn 54 [] []) [v, g] h = some (.bool (l.any p), h) := by
  have hi := fun base => idxF_S (base := base) p hR hg
  have h0 := idx_any p l
  refine callL_run func54 rfl rfl ?_
  have hsp := @Nat.succ_ne_zero; repeat' (first | simp (disch := first | exact dschN62 | fail) only [go_sem, hsp, hi] | refine WP_drw ?_ | refine cnd_intro (fun hsp => ?_) fun hsp => ?_)
  refine fB ?_
  by_cases h1 : l.any p = true
  · rw [h1]; simpa using h0.2 h1
  · have h2 : ¬ 0 ≤ idx p l := fun h => h1 (h0.1 h)
    simp only [Bool.not_eq_true] at h1
    rw [h1]; simpa using h2
def samC (c d : Ct) : Bool := decide (c.w = d.w ∧ c.f = d.f ∧ c.j = d.j)
theorem run_indexC {base : Nat} {h : Heap} {a : AVal} {l : List Ct} {c : Ct} (hR : Rows encC h a l) :
    callL prog raw base (.fn 110 [] []) [a, .agg [.int .i64 c.w, .int .i64 c.f, .bool c.j]] h = some (.int .i64 (idx (samC c) l), h) := by
  have hb : l.length < 2 ^ 60 := hR.1
  have ho := hR.one
  have hn := (hR.app (T := [cutB c])).len (P := prog) Fc.el43
  refine callL_run func110 rfl rfl ?_
  have hsp := @Nat.succ_ne_zero; repeat' (first | simp (disch := first | exact dschN62 | fail) only [go_sem, hsp, hn] | refine WP_drw ?_ | refine cnd_intro (fun hsp => ?_) fun hsp => ?_)
  refine WP_loop (fun σ => ∃ n : Nat, σ.fr 8 = .int .i64 (n : Int) ∧ σ.fr 0 = a ∧ σ.fr 3 = .ptr (some ⟨h.length, 0, 0⟩) ∧ σ.fr 7 = .int .i64 (l.length : Int) ∧ σ.h = h ++ [⟨.cells [.int .i64 c.w, .int .i64 c.f, .bool c.j] 58 false false, 0⟩] ∧ n ≤ l.length ∧ (∀ x ∈ l.take n, samC c x = false)) (fun σ => match σ.fr 8 with | .int _ x => (((l.length : Nat) : Int) - x).toNat | _ => 0) ?_ ?_
  · refine ⟨0, ?_, ?_, ?_, ?_, ?_, by omega, ?_⟩
    iterate 5 focus (first | rfl | (simp (disch := first | exact dschN62 | fail) only [go_sem, Int.natCast_zero]; first | done | rfl))
    intro x hx; simp at hx
  · rintro ⟨fr, hp⟩ ⟨n, r8, r0, r3, r7, rh, hi, hP⟩
    dsimp only at r8 r0 r3 r7 rh hi hP
    subst rh
    by_cases hn : n < l.length
    · have hlt : ((n : Int) < (l.length : Int)) = True := eq_true (by omega)
      have hx : l[n]? = some l[n] := List.getElem?_eq_getElem hn
      have hRx := hR.app (T := [cutB c])
      have had := hRx.addr (i := (n : Int)) Fc.el43 Fc.ar43 (by omega) (by omega)
      rw [Int.toNat_natCast] at had
      have hld : loadP prog (h ++ [cutB c]) 58 (elAdr a encC.z n 0) = some (.agg [.int .i64 l[n].w, .int .i64 l[n].f, .bool l[n].j]) := hRx.load Fc.ty58 hx
      by_cases hp : c.w = l[n].w ∧ c.f = l[n].f ∧ c.j = l[n].j
      · have hp1 : samC c l[n] = true := decide_eq_true hp
        have t2 : (c.w = l[n].w ∧ c.f = l[n].f ∧ c.j = l[n].j) = True := eq_true hp
        have hsp := @Nat.succ_ne_zero; repeat' (first | simp (disch := first | exact dschN62 | fail) only [go_sem, hsp, r8, r0, r3, r7, hlt, had, hld, t2] | refine WP_drw ?_ | refine cnd_intro (fun hsp => ?_) fun hsp => ?_)
        exact fI (idx_hit (samC c) hn hP hp1).symm
      · have hp1 : samC c l[n] = false := decide_eq_false hp
        have t2 : (c.w = l[n].w ∧ c.f = l[n].f ∧ c.j = l[n].j) = False := eq_false hp
        have hsp := @Nat.succ_ne_zero; repeat' (first | simp (disch := first | exact dschN62 | fail) only [go_sem, hsp, r8, r0, r3, r7, hlt, had, hld, t2] | refine WP_drw ?_ | refine cnd_intro (fun hsp => ?_) fun hsp => ?_)
        exact ⟨⟨n + 1, by simp, by omega, take_next (samC c) hn hP hp1⟩, by omega⟩
    · have hlt : ((n : Int) < (l.length : Int)) = False := eq_false (by omega)
      obtain rfl : n = l.length := by omega
      have hsp := @Nat.succ_ne_zero; repeat' (first | simp (disch := first | exact dschN62 | fail) only [go_sem, hsp, r8, r0, r3, r7, hlt] | refine WP_drw ?_ | refine cnd_intro (fun hsp => ?_) fun hsp => ?_)
      exact fI (idx_miss (samC c) hP).symm
theorem run_containsC {base : Nat} {h : Heap} {a : AVal} {l : List Ct} {c : Ct} (hR : Rows encC h a l) (hc : c ∈ l) :
    callL prog raw base (.fn 51 [] []) [a, .agg [.int .i64 c.w, .int .i64 c.f, .bool c.j]] h = some (.bool true, h) := by
  have ho := hR.one
  have hi := fun base => run_indexC (base := base) (c := c) (hR.app (T := [cutB c]))
  have h1 : l.any (samC c) = true := List.any_eq_true.2 ⟨c, hc, decide_eq_true ⟨rfl, rfl, rfl⟩⟩
  have h0 : (idx (samC c) l ≥ 0) = True := eq_true ((idx_any (samC c) l).2 h1)
  refine callL_run func51 rfl rfl ?_
  have hsp := @Nat.succ_ne_zero; repeat' (first | simp (disch := first | exact dschN62 | fail) only [go_sem, hsp, hi, h0] | refine WP_drw ?_ | refine cnd_intro (fun hsp => ?_) fun hsp => ?_)
  exact fB rfl
theorem run_rs1 {base i1 i2 : Nat} {h : Heap} {fv wv : AVal} {R : Rib} {c d : Ct} (g1 : h[i1]? = some (ribB R.L fv wv)) (g2 : h[i2]? = some (cutB c)) (hA : RibAt h (.agg [.int .i64 R.L, fv, wv]) R) (hR : RibOk R) (hd : (tknR R d).2.2 = true) (hf : d.f = c.f) :
    callL prog raw base (.fn 53 [] [.ptr (some ⟨i1, 0, 0⟩), .ptr (some ⟨i2, 0, 0⟩)]) [.agg [.int .i64 d.w, .int .i64 d.f, .bool d.j]] h = some (.bool false, h) := by
  obtain ⟨G, eG⟩ : ∃ G, G = h ++ [cutB d] := ⟨_, rfl⟩
  have xG : Ext h G := by rw [eG]; exact .app .refl
  have gG : G[h.length]? = some (cutB d) := by rw [eG]; exact get_eq rfl
  have g1G := xG.get g1
  have g2G := xG.get g2
  have ht := fun base => run_taken (base := base) (c := d) (hA.ext xG) hR
  rw [hd] at ht
  obtain ⟨fv', wv', eqv, iF, iW⟩ := hA
  simp only [AVal.agg.injEq, List.cons.injEq, and_true, true_and] at eqv
  obtain ⟨rfl, rfl⟩ := eqv
  have o1 := iF.one
  have o2 := iW.one
  have tf : (d.f = c.f) = True := eq_true hf
  unfold cutB at eG gG g2G
  unfold ribB at g1G
  refine callL_run func53 rfl rfl ?_
  have hsp := @Nat.succ_ne_zero; repeat' (first | simp (disch := first | exact dschN62 | fail) only [go_sem, hsp, ← eG, gG, g1G, ht, g2G, Bool.not_true, tf, ne_eq, not_true, decide_false] | refine WP_drw ?_ | refine cnd_intro (fun hsp => ?_) fun hsp => ?_)
  exact fB rfl xG
theorem run_rs2 {base i1 : Nat} {h : Heap} {a b u : Int} (g1 : h[i1]? = some ⟨.cells [.int .i64 u] 3 false false, 0⟩) :
    callL prog raw base (.fn 55 [] [.ptr (some ⟨i1, 0, 0⟩)]) [.agg [.int .i64 a, .int .i64 b]] h = some (.bool (decide (a ≤ u ∧ u ≤ b)), h) := by
  have hi := lt_of_get g1
  have g1' : (h ++ [(⟨.cells [.int .i64 a, .int .i64 b] 69 false false, 0⟩ : ABlk)])[i1]? = some ⟨.cells [.int .i64 u] 3 false false, 0⟩ := get_app g1
  by_cases c : a ≤ u
  · have t1 : (a ≤ u) = True := eq_true c
    by_cases d : u ≤ b
    · have t2 : (u ≤ b) = True := eq_true d
      rw [decide_eq_true ⟨c, d⟩]
      refine callL_run func55 rfl rfl ?_
      have hsp := @Nat.succ_ne_zero; repeat' (first | simp (disch := first | exact dschN62 | fail) only [go_sem, hsp, g1', t1, t2] | refine WP_drw ?_ | refine cnd_intro (fun hsp => ?_) fun hsp => ?_)
      exact fB rfl
    · have t2 : (u ≤ b) = False := eq_false d
      rw [decide_eq_false fun q => d q.2]
      refine callL_run func55 rfl rfl ?_
      have hsp := @Nat.succ_ne_zero; repeat' (first | simp (disch := first | exact dschN62 | fail) only [go_sem, hsp, g1', t1, t2] | refine WP_drw ?_ | refine cnd_intro (fun hsp => ?_) fun hsp => ?_)
      exact fB rfl
  · have t1 : (a ≤ u) = False := eq_false c
    rw [decide_eq_false fun q => c q.1]
    refine callL_run func55 rfl rfl ?_
    have hsp := @Nat.succ_ne_zero; repeat' (first | simp (disch := first | exact dschN62 | fail) only [go_sem, hsp, g1', t1] | refine WP_drw ?_ | refine cnd_intro (fun hsp => ?_) fun hsp => ?_)
    exact fB rfl
end Go.AM
