/-
  Contracts: a ribbon that is made (Made).
-/
import Derived.Test.YtikgghhceolaeaaU19
import Derived.Test.YtikgghhceolaeaaU12
set_option linter.unusedSimpArgs false
set_option linter.unusedVariables false
namespace Go.AM
open Go.Proofs.Try
theorem dschN53 {p : Prop} (h : p := by first | exact Nat.ne_of_beq_eq_false rfl | assumption | (apply asOne; (first | exact One.int | exact One.bool | assumption | exact Ints.one (by assumption) | exact Rows.one (by assumption) | exact Own.one (by assumption) | exact One.lit ⟨rfl, rfl, rfl⟩)) | (apply asSp; (repeat first | assumption | apply SpAt.set | (refine SpAt.new ?_ (by (first | rfl | (simp only [List.length_append, List.length_cons, List.length_nil, List.length_set]; done) | (simp only [List.length_append, List.length_cons, List.length_nil, List.length_set]; omega)))) | apply SpAt.app | apply Bytes.app); done) | (apply asBytes; (repeat first | assumption | apply Bytes.app); done) | (apply asInts; (repeat first | assumption | exact ints_nil | apply Ints.app); done) | (apply asRows; (repeat first | assumption | exact Rows.nil | apply Rows.app); done) | (apply asScal; (first | apply allS1 | apply allS2 | apply allS3 | apply allS4) <;> (first | exact One.int | exact One.bool | assumption | exact Ints.one (by assumption) | exact Rows.one (by assumption) | exact Own.one (by assumption) | exact One.lit ⟨rfl, rfl, rfl⟩)) | exact litT rfl | exact litF rfl | omega | (simp only [List.length_append, List.length_cons, List.length_nil, List.length_set, List.length_reverse]; first | done | omega) | fail) : p := h
attribute [-go_sem] put_ne put_same
attribute [local go_sem ↓] put_if
theorem bsWW1 {lit : Bool} {H : Heap} {w : Wnt} : bsA prog lit H 23 1 [(0, .agg [.int .i64 w.lg, .int .i64 w.pr, .int .i64 w.off, .int .i64 w.fl, .int .i64 w.jn])] = some (.slice (some ⟨H.length, 0, 0⟩) 1 1, H ++ [rowE encW 49 [w] 0]) := by
  simp [bsA, rowOf, Fc.el23, fillA, repCells, AVal.isN, AVal.cells, splice, rowE, flat, encW]
theorem snocWW {b base : Nat} {A : Heap} {w : AVal} {l : List Wnt} {r : Wnt} (hO : Own encW 49 b A w l) (hb : base ≤ b) (hbh : b ≤ A.length) (hl : l.length ≤ 1000000) :
    ∃ w' H, appendA prog base (A ++ [rowE encW 49 [r] 0]) 23 w (.slice (some ⟨A.length, 0, 0⟩) 1 1) = some (w', H) ∧ Own encW 49 b H w' (l ++ [r]) ∧ A.length ≤ H.length ∧ (∀ G, G.length ≤ b → Ext G A → Ext G H) ∧ One w' ∧ KeepO encW 49 A H := by
  obtain ⟨B, eB⟩ : ∃ B, B = A ++ [rowE encW 49 [r] 0] := ⟨_, rfl⟩
  have xB : Ext A B := by rw [eB]; exact .app .refl
  have lB' : B.length = A.length + 1 := by rw [eB]; simp
  have hx : Rows encW B (.slice (some ⟨A.length, 0, 0⟩) 1 1) [r] := Rows.own (by rw [eB]; exact get_eq rfl) rfl (by simp)
  rw [← eB]
  obtain ⟨w', H, a1, a2, a3, a4, a5, a6⟩ := (hO.ext xB).appendRX (P := prog) (base := base) (t := 23) hx Fc.el23 encW_sc hb (by omega) (by simp) (by simp; omega)
  have a6 : KeepO encW 49 B H := a6
  exact ⟨w', H, a1, a2, by omega, fun G h1 h2 => a4 G h1 (h2.trans xB), a5, fun i y hi hy => a6 i y (xB.get hi) hy⟩
theorem stN53 {base : Nat} {l : List Oper} {s : St} {Q : AExit → St → Prop} : WP prog raw base (.region 11 l.toArray true) s Q = WPS prog raw base (.region 11 l.toArray true) s Q := WP_stop
attribute [local go_sem ↓ 3000] stN53
set_option maxRecDepth 100000 in
set_option maxHeartbeats 4000000 in
theorem run_LMadeD {base id k0 : Nat} {h : Heap} {v : AVal} {silk : List Int} {A B D : Int} (hb : base ≤ h.length) (hS : SpAt h id v silk k0) (hk : k0 ≤ 100000) (hA : 1 ≤ A ∧ A ≤ 60) (hB : 0 ≤ B ∧ B ≤ 12) (hD : 0 ≤ D ∧ D ≤ 6) :
    Ret prog raw base (.fn 26 [] []) [.ptr (some ⟨id, 0, 0⟩), .int .i64 A, .int .i64 B, .int .i64 D] h (fun w H => ∃ L F W fv wv k', w = .agg [.int .i64 L, fv, wv] ∧ (k0 ≤ k' ∧ k' ≤ k0 + 100) ∧ SpE h id v silk k' H ∧ Own encI 3 h.length H fv F ∧ Own encW 49 h.length H wv W ∧ RibOk ⟨L, F, W⟩ ∧ L ≤ A ∧ (F.length : Int) ≤ B ∧ (W.length : Int) ≤ D) := by
  have hid := lt_of_get hS.1
  have hS0 : SpAt (h ++ [ribB 0 (.slice none 0 0) (.slice none 0 0)]) id v silk k0 := hS.app
  have b1 := up_bd (silk := silk) (k := k0) (n := A - 1) (by omega)
  have b2 := up_bd (silk := silk) (k := k0 + 1) (n := B) (by omega)
  obtain ⟨G, eG⟩ : ∃ G, G = h ++ [ribB 0 (.slice none 0 0) (.slice none 0 0)] := ⟨_, rfl⟩
  rw [← eG] at hS0
  have lG : G.length = h.length + 1 := by rw [eG]; simp
  have xG : Ext h G := by rw [eG]; exact .app .refl
  have g0 : G[h.length]? = some (ribB 0 (.slice none 0 0) (.slice none 0 0)) := by rw [eG]; exact get_eq rfl
  have f1 := fun base => run_from (base := base) (lo := 1) (hi := A) hS0 (by omega) (by omega) (by omega)
  obtain ⟨L, eL⟩ : ∃ L, L = 1 + up silk k0 (A - 1) := ⟨_, rfl⟩
  have hL : 1 ≤ L ∧ L ≤ A := by omega
  rw [← eL] at f1
  obtain ⟨G1, eG1⟩ : ∃ G1, G1 = G.set id (spB v silk (k0 + 1)) := ⟨_, rfl⟩
  rw [← eG1] at f1
  have q1 : SpE h id v silk (k0 + 1) G1 := by rw [eG1]; exact ((SpE.refl hS).ext xG).step hid
  have l1 : G1.length = h.length + 1 := by rw [eG1, List.length_set, lG]
  have g1 : G1[h.length]? = some (ribB 0 (.slice none 0 0) (.slice none 0 0)) := by rw [eG1, List.getElem?_set_ne (by omega)]; exact g0
  obtain ⟨G2, eG2⟩ : ∃ G2, G2 = G1 ++ [ribB L (.slice none 0 0) (.slice none 0 0)] := ⟨_, rfl⟩
  have q2 : SpE h id v silk (k0 + 1) G2 := by rw [eG2]; exact q1.app
  have l2 : G2.length = h.length + 2 := by rw [eG2]; simp [l1]
  have g2 : G2[h.length]? = some (ribB 0 (.slice none 0 0) (.slice none 0 0)) := by rw [eG2]; exact get_app g1
  have c2 : G2[h.length + 1]? = some (ribB L (.slice none 0 0) (.slice none 0 0)) := by rw [eG2]; exact get_eq (by rw [l1])
  have f2 := fun base => run_upto (base := base) (n := B) (q2.at hS) (by omega) (by omega)
  obtain ⟨m, em⟩ : ∃ m, m = up silk (k0 + 1) B := ⟨_, rfl⟩
  rw [← em] at b2 f2
  obtain ⟨G3, eG3⟩ : ∃ G3, G3 = G2.set id (spB v silk (k0 + 1 + 1)) := ⟨_, rfl⟩
  rw [← eG3] at f2
  have q3 : SpE h id v silk (k0 + 1 + 1) G3 := by rw [eG3]; exact q2.step hid
  have l3 : G3.length = h.length + 2 := by rw [eG3, List.length_set, l2]
  have g3 : G3[h.length]? = some (ribB 0 (.slice none 0 0) (.slice none 0 0)) := by rw [eG3, List.getElem?_set_ne (by omega)]; exact g2
  have c3 : G3[h.length + 1]? = some (ribB L (.slice none 0 0) (.slice none 0 0)) := by rw [eG3, List.getElem?_set_ne (by omega)]; exact c2
  have hq : 0 ≤ L.tdiv (max 1 m) ∧ L.tdiv (max 1 m) ≤ 60 := by
    rw [Int.tdiv_eq_ediv_of_nonneg (by omega)]
    have h1 : 0 < max 1 m := by omega
    refine ⟨Int.ediv_nonneg (by omega) (by omega), ?_⟩
    exact Int.le_trans (Int.ediv_le_self _ (by omega)) (by omega)
  have hm0 : max 1 m ≠ 0 := by omega
  have hm1 : (max 1 m = 0) = False := eq_false hm0
  obtain ⟨X, eX⟩ : ∃ X, X = max 2 (L.tdiv (max 1 m)) := ⟨_, rfl⟩
  have hX : 2 ≤ X ∧ X ≤ 60 := by omega
  clear eL b1
  rw [show h.length + 1 = G1.length from l1.symm] at c2 c3
  unfold ribB at eG eG2
  have c3' := c3
  unfold ribB at c3'
  refine ret_raw func26 rfl (by kernel_rfl) ?_
  have hsp := @Nat.succ_ne_zero; repeat' (first | simp (disch := first | exact dschN53 | fail) only [go_sem, ↓reduceIte, hsp, ← eG, f1, ← eG2, f2, c3'] | refine WP_drw ?_ | refine cnd_intro (fun hsp => ?_) fun hsp => ?_)
  obtain ⟨n, en⟩ := Int.eq_ofNat_of_zero_le (show 0 ≤ L by omega)
  refine WP_count [(11, 11), (21, 45)] 0 n (Nat.zero_le _) (fun _ i fr K => fr 21 = .int .i64 (i : Int) ∧ ∃ F fv k', (k0 ≤ k' ∧ k' ≤ k0 + 2 + i) ∧ SpE h id v silk k' K ∧ K[h.length]? = some (ribB 0 (.slice none 0 0) (.slice none 0 0)) ∧ K[G1.length]? = some (ribB L fv (.slice none 0 0)) ∧ Own encI 3 (h.length + 2) K fv F ∧ (F.length : Int) ≤ m ∧ (∀ y ∈ F, 0 ≤ y ∧ y < (i : Int)) ∧ F.Pairwise (· < ·) ∧ h.length + 2 ≤ K.length) ?_ ?_ ?_
  · exact ⟨by (simp (disch := first | exact dschN53 | fail) only [go_sem, ↓reduceIte, Int.natCast_zero]; first | done | rfl), [], _, k0 + 1 + 1, by omega, q3, g3, c3, Own.nil, by simp; omega, by simp, by simp, by omega⟩
  · rintro i fr K hi0 hi hAg ⟨r21, F, fv, k', hk', xK, gK, cK, oF, hFl, hFb, hFs, lK⟩
    have q0 := hAg 0 rfl
    have q3 := hAg 3 rfl
    have q8 := hAg 8 rfl
    have q9 := hAg 9 rfl
    have q10 := hAg 10 rfl
    have q20 := hAg 20 rfl
    try simp (disch := first | exact dschN53 | fail) only [go_sem, ↓reduceIte] at q0 q3 q8 q9 q10 q20
    have hlt : ((i : Int) < L) = True := eq_true (by omega)
    have of1 := oF.one
    have hSK := xK.at hS
    have iF : Ints K fv F := own_ints oF ⟨by omega, fun y hy => by have := hFb y hy; omega⟩
    have hn := lenI iF
    have cK' := cK
    unfold ribB at cK'
    by_cases c1 : (F.length : Int) < m
    · have t1 : ((F.length : Int) < m) = True := eq_true c1
      have e1 := fun base => run_once (base := base) (n := X) hSK (by omega) (by omega)
      rw [eX] at e1
      obtain ⟨K1, eK1⟩ : ∃ K1, K1 = K.set id (spB v silk (k' + 1)) := ⟨_, rfl⟩
      rw [← eK1] at e1
      have xK1 : SpE h id v silk (k' + 1) K1 := by rw [eK1]; exact xK.step hid
      have gK1 : K1[h.length]? = some (ribB 0 (.slice none 0 0) (.slice none 0 0)) := by rw [eK1, List.getElem?_set_ne (by omega)]; exact gK
      have cK1 : K1[G1.length]? = some (ribB L fv (.slice none 0 0)) := by rw [eK1, List.getElem?_set_ne (by omega)]; exact cK
      have oF1 : Own encI 3 (h.length + 2) K1 fv F := by rw [eK1]; exact oF.set (by omega)
      have lK1 : K1.length = K.length := by rw [eK1, List.length_set]
      have cK1' := cK1
      unfold ribB at cK1'
      rcases Bool.eq_false_or_eq_true (decide (up silk k' (max 2 (L.tdiv (max 1 m)) - 1) = 0)) with qb | qb
      · rw [qb] at e1
        obtain ⟨w', K3, ea, oW, lW, eW2, oneW, kW⟩ := oF1.append1X (P := prog) (y := (i : Int)) (a := .int .i64 (i : Int)) (base := base) (t := 22) rfl rfl Fc.el22 encI_sc (by omega) (by omega) (by omega)
        have kW : KeepO encI 3 K1 K3 := kW
        have cK3 := kW.box cK1'
        have gK3 := kW.box gK1
        have xK3 : SpE h id v silk (k' + 1) K3 := eW2 _ (by rw [List.length_set]; omega) xK1
        have hsp := @Nat.succ_ne_zero; repeat' (first | simp (disch := first | exact dschN53 | fail) only [go_sem, ↓reduceIte, hsp, r21, q0, q3, q8, q9, q10, q20, hlt, cK', hn, t1, hm1, hm0, e1, cK1', ea, cK3] | refine WP_drw ?_ | refine cnd_intro (fun hsp => ?_) fun hsp => ?_)
        refine ⟨by (repeat first | exact Agree.refl | assumption | refine Agree.put rfl ?_ | refine Agree.put0 ?_ | refine Agree.sub rfl (by assumption) ?_), by omega, F ++ [(i : Int)], w', k' + 1, by omega, Ext.set xK3 (by rw [List.length_set]; omega), gK3, rfl, Own.setBox oW cK3, by simp; omega, fun y hy => ?_, ?_, by omega⟩
        · rcases List.mem_append.1 hy with hy | hy
          · have := hFb y hy; omega
          · rw [List.mem_singleton] at hy; omega
        · refine List.pairwise_append.2 ⟨hFs, by simp, fun a ha b hb => ?_⟩
          have := hFb a ha
          rw [List.mem_singleton] at hb; omega
      · rw [qb] at e1
        have hsp := @Nat.succ_ne_zero; repeat' (first | simp (disch := first | exact dschN53 | fail) only [go_sem, ↓reduceIte, hsp, r21, q0, q3, q8, q9, q10, q20, hlt, cK', hn, t1, hm1, hm0, e1] | refine WP_drw ?_ | refine cnd_intro (fun hsp => ?_) fun hsp => ?_)
        exact ⟨by (repeat first | exact Agree.refl | assumption | refine Agree.put rfl ?_ | refine Agree.put0 ?_ | refine Agree.sub rfl (by assumption) ?_), by omega, F, fv, k' + 1, by omega, xK1, gK1, cK1, oF1, hFl, fun y hy => by have := hFb y hy; omega, hFs, by omega⟩
    · have t1 : ((F.length : Int) < m) = False := eq_false c1
      have hsp := @Nat.succ_ne_zero; repeat' (first | simp (disch := first | exact dschN53 | fail) only [go_sem, ↓reduceIte, hsp, r21, q0, q3, q8, q9, q10, q20, hlt, cK', hn, t1] | refine WP_drw ?_ | refine cnd_intro (fun hsp => ?_) fun hsp => ?_)
      exact ⟨by (repeat first | exact Agree.refl | assumption | refine Agree.put rfl ?_ | refine Agree.put0 ?_ | refine Agree.sub rfl (by assumption) ?_), by omega, F, fv, k', by omega, xK, gK, rfl, oF, hFl, fun y hy => by have := hFb y hy; omega, hFs, lK⟩
  · rintro fr K hAg ⟨r21, F, fv, k', hk', xK, gK, cK, oF, hFl, hFb, hFs, lK⟩
    have q0 := hAg 0 rfl
    have q3 := hAg 3 rfl
    have q8 := hAg 8 rfl
    have q9 := hAg 9 rfl
    have q10 := hAg 10 rfl
    have q20 := hAg 20 rfl
    try simp (disch := first | exact dschN53 | fail) only [go_sem, ↓reduceIte] at q0 q3 q8 q9 q10 q20
    have hlt : ((n : Int) < L) = False := eq_false (by omega)
    have of1 := oF.one
    have hSK := xK.at hS
    have ubz := up_bd (silk := silk) (k := k') (n := D) (by omega)
    have ez := fun base => run_upto (base := base) (n := D) hSK (by omega) (by omega)
    obtain ⟨z, ezz⟩ := Int.eq_ofNat_of_zero_le ubz.1
    rw [ezz] at ez ubz
    obtain ⟨K0, eK0⟩ : ∃ K0, K0 = K.set id (spB v silk (k' + 1)) := ⟨_, rfl⟩
    rw [← eK0] at ez
    have xK0 : SpE h id v silk (k' + 1) K0 := by rw [eK0]; exact xK.step hid
    have gK0 : K0[h.length]? = some (ribB 0 (.slice none 0 0) (.slice none 0 0)) := by rw [eK0, List.getElem?_set_ne (by omega)]; exact gK
    have cK0 : K0[G1.length]? = some (ribB L fv (.slice none 0 0)) := by rw [eK0, List.getElem?_set_ne (by omega)]; exact cK
    have oF0 : Own encI 3 (h.length + 2) K0 fv F := by rw [eK0]; exact oF.set (by omega)
    have lK0 : K0.length = K.length := by rw [eK0, List.length_set]
    have hsp := @Nat.succ_ne_zero; repeat' (first | simp (disch := first | exact dschN53 | fail) only [go_sem, ↓reduceIte, hsp, r21, q0, q3, q8, q9, q10, q20, hlt, ez] | refine WP_drw ?_ | refine cnd_intro (fun hsp => ?_) fun hsp => ?_)
    refine WP_count [(49, 67)] 0 z (Nat.zero_le _) (fun _ j fr K' => fr 49 = .int .i64 (j : Int) ∧ ∃ W wv k2, (k0 ≤ k2 ∧ k2 ≤ k' + 1 + 5 * j) ∧ SpE h id v silk k2 K' ∧ K'[h.length]? = some (ribB 0 (.slice none 0 0) (.slice none 0 0)) ∧ K'[G1.length]? = some (ribB L fv wv) ∧ Own encI 3 (h.length + 2) K' fv F ∧ Own encW 49 (h.length + 2) K' wv W ∧ W.length ≤ j ∧ (∀ w ∈ W, WntOk w) ∧ h.length + 2 ≤ K'.length) ?_ ?_ ?_
    · exact ⟨by (simp (disch := first | exact dschN53 | fail) only [go_sem, ↓reduceIte, Int.natCast_zero]; first | done | rfl), [], .slice none 0 0, k' + 1, by omega, xK0, gK0, cK0, oF0, Own.nil, by simp, by simp, by omega⟩
    · rintro j fr2 K' hj0 hj hA2 ⟨r49, W, wv, k2, hk2, xK2, gK2, cK2, oF2, oW2, hWl, hWo, lK2⟩
      have d0 := hA2 0 rfl
      have d8 := hA2 8 rfl
      have d9 := hA2 9 rfl
      have d48 := hA2 48 rfl
      try simp (disch := first | exact dschN53 | fail) only [go_sem, ↓reduceIte, q0, q8, q9] at d0 d8 d9 d48
      have hlt2 : ((j : Int) < (z : Int)) = True := eq_true (by omega)
      have owv := oW2.one
      have ub1 := up_bd (silk := silk) (k := k2) (n := (9 - 1)) (by omega)
      have e1 := fun base => run_from (base := base) (lo := 1) (hi := 9) (xK2.at hS) (by omega) (by omega) (by omega)
      obtain ⟨w1, ew1⟩ : ∃ w1, w1 = 1 + up silk k2 (9 - 1) := ⟨_, rfl⟩
      rw [← ew1] at e1
      obtain ⟨M1, eM1⟩ : ∃ M1, M1 = K'.set id (spB v silk (k2 + 1)) := ⟨_, rfl⟩
      rw [← eM1] at e1
      have xM1 : SpE h id v silk (k2 + 1) M1 := by rw [eM1]; exact xK2.step hid
      have gM1 : M1[h.length]? = some (ribB 0 (.slice none 0 0) (.slice none 0 0)) := by rw [eM1, List.getElem?_set_ne (by omega)]; exact gK2
      have cM1 : M1[G1.length]? = some (ribB L fv wv) := by rw [eM1, List.getElem?_set_ne (by omega)]; exact cK2
      have fM1 : Own encI 3 (h.length + 2) M1 fv F := by rw [eM1]; exact oF2.set (by omega)
      have wM1 : Own encW 49 (h.length + 2) M1 wv W := by rw [eM1]; exact oW2.set (by omega)
      have lM1 : M1.length = K'.length := by rw [eM1, List.length_set]
      have ub2 := up_bd (silk := silk) (k := (k2 + 1)) (n := 40) (by omega)
      have e2 := fun base => run_upto (base := base) (n := 40) (xM1.at hS) (by omega) (by omega)
      obtain ⟨w2, ew2⟩ : ∃ w2, w2 = up silk ((k2 + 1)) 40 := ⟨_, rfl⟩
      rw [← ew2] at e2
      obtain ⟨M2, eM2⟩ : ∃ M2, M2 = M1.set id (spB v silk ((k2 + 1) + 1)) := ⟨_, rfl⟩
      rw [← eM2] at e2
      have xM2 : SpE h id v silk ((k2 + 1) + 1) M2 := by rw [eM2]; exact xM1.step hid
      have gM2 : M2[h.length]? = some (ribB 0 (.slice none 0 0) (.slice none 0 0)) := by rw [eM2, List.getElem?_set_ne (by omega)]; exact gM1
      have cM2 : M2[G1.length]? = some (ribB L fv wv) := by rw [eM2, List.getElem?_set_ne (by omega)]; exact cM1
      have fM2 : Own encI 3 (h.length + 2) M2 fv F := by rw [eM2]; exact fM1.set (by omega)
      have wM2 : Own encW 49 (h.length + 2) M2 wv W := by rw [eM2]; exact wM1.set (by omega)
      have lM2 : M2.length = M1.length := by rw [eM2, List.length_set]
      have ub3 := up_bd (silk := silk) (k := ((k2 + 1) + 1)) (n := 8) (by omega)
      have e3 := fun base => run_upto (base := base) (n := 8) (xM2.at hS) (by omega) (by omega)
      obtain ⟨w3, ew3⟩ : ∃ w3, w3 = up silk (((k2 + 1) + 1)) 8 := ⟨_, rfl⟩
      rw [← ew3] at e3
      obtain ⟨M3, eM3⟩ : ∃ M3, M3 = M2.set id (spB v silk (((k2 + 1) + 1) + 1)) := ⟨_, rfl⟩
      rw [← eM3] at e3
      have xM3 : SpE h id v silk (((k2 + 1) + 1) + 1) M3 := by rw [eM3]; exact xM2.step hid
      have gM3 : M3[h.length]? = some (ribB 0 (.slice none 0 0) (.slice none 0 0)) := by rw [eM3, List.getElem?_set_ne (by omega)]; exact gM2
      have cM3 : M3[G1.length]? = some (ribB L fv wv) := by rw [eM3, List.getElem?_set_ne (by omega)]; exact cM2
      have fM3 : Own encI 3 (h.length + 2) M3 fv F := by rw [eM3]; exact fM2.set (by omega)
      have wM3 : Own encW 49 (h.length + 2) M3 wv W := by rw [eM3]; exact wM2.set (by omega)
      have lM3 : M3.length = M2.length := by rw [eM3, List.length_set]
      have ub4 := up_bd (silk := silk) (k := (((k2 + 1) + 1) + 1)) (n := 2) (by omega)
      have e4 := fun base => run_upto (base := base) (n := 2) (xM3.at hS) (by omega) (by omega)
      obtain ⟨w4, ew4⟩ : ∃ w4, w4 = up silk ((((k2 + 1) + 1) + 1)) 2 := ⟨_, rfl⟩
      rw [← ew4] at e4
      obtain ⟨M4, eM4⟩ : ∃ M4, M4 = M3.set id (spB v silk ((((k2 + 1) + 1) + 1) + 1)) := ⟨_, rfl⟩
      rw [← eM4] at e4
      have xM4 : SpE h id v silk ((((k2 + 1) + 1) + 1) + 1) M4 := by rw [eM4]; exact xM3.step hid
      have gM4 : M4[h.length]? = some (ribB 0 (.slice none 0 0) (.slice none 0 0)) := by rw [eM4, List.getElem?_set_ne (by omega)]; exact gM3
      have cM4 : M4[G1.length]? = some (ribB L fv wv) := by rw [eM4, List.getElem?_set_ne (by omega)]; exact cM3
      have fM4 : Own encI 3 (h.length + 2) M4 fv F := by rw [eM4]; exact fM3.set (by omega)
      have wM4 : Own encW 49 (h.length + 2) M4 wv W := by rw [eM4]; exact wM3.set (by omega)
      have lM4 : M4.length = M3.length := by rw [eM4, List.length_set]
      have ub5 := up_bd (silk := silk) (k := ((((k2 + 1) + 1) + 1) + 1)) (n := 2) (by omega)
      have e5 := fun base => run_upto (base := base) (n := 2) (xM4.at hS) (by omega) (by omega)
      obtain ⟨w5, ew5⟩ : ∃ w5, w5 = up silk (((((k2 + 1) + 1) + 1) + 1)) 2 := ⟨_, rfl⟩
      rw [← ew5] at e5
      obtain ⟨M5, eM5⟩ : ∃ M5, M5 = M4.set id (spB v silk (((((k2 + 1) + 1) + 1) + 1) + 1)) := ⟨_, rfl⟩
      rw [← eM5] at e5
      have xM5 : SpE h id v silk (((((k2 + 1) + 1) + 1) + 1) + 1) M5 := by rw [eM5]; exact xM4.step hid
      have gM5 : M5[h.length]? = some (ribB 0 (.slice none 0 0) (.slice none 0 0)) := by rw [eM5, List.getElem?_set_ne (by omega)]; exact gM4
      have cM5 : M5[G1.length]? = some (ribB L fv wv) := by rw [eM5, List.getElem?_set_ne (by omega)]; exact cM4
      have fM5 : Own encI 3 (h.length + 2) M5 fv F := by rw [eM5]; exact fM4.set (by omega)
      have wM5 : Own encW 49 (h.length + 2) M5 wv W := by rw [eM5]; exact wM4.set (by omega)
      have lM5 : M5.length = M4.length := by rw [eM5, List.length_set]
      obtain ⟨wr, ewr⟩ : ∃ wr : Wnt, wr = ⟨w1, w2, w3, w4, w5⟩ := ⟨_, rfl⟩
      have hwr : WntOk wr := by rw [ewr]; exact ⟨by simp only; omega, by simp only; omega, by simp only; omega, by simp only; omega, by simp only; omega⟩
      have bsw : ∀ {lit : Bool}, bsA prog lit M5 23 1 [(0, .agg [.int .i64 w1, .int .i64 w2, .int .i64 w3, .int .i64 w4, .int .i64 w5])] = some (.slice (some ⟨M5.length, 0, 0⟩) 1 1, M5 ++ [rowE encW 49 [wr] 0]) := fun {lit} => by
        rw [ewr]; exact bsWW1 (w := ⟨w1, w2, w3, w4, w5⟩)
      obtain ⟨w', M6, ea, oW6, lW6, eW6, oneW, kW⟩ := snocWW (base := base) (r := wr) wM5 (by omega) (by omega) (by omega)
      have c6 := kW.box cM5
      have g6 := kW.box gM5
      have f6 := kW.own fM5 (by decide)
      have x6 : SpE h id v silk ((((((k2 + 1) + 1) + 1) + 1) + 1)) M6 := eW6 _ (by rw [List.length_set]; omega) xM5
      have cK2' := cK2
      have c6' := c6
      unfold ribB at cK2' c6'
      have hlow : refsLow K'.length wv := oW2.low_refs
      have hsp := @Nat.succ_ne_zero; repeat' (first | simp (disch := first | exact dschN53 | fail) only [go_sem, ↓reduceIte, hsp, r49, d0, d8, d9, d48, q0, q3, q8, q9, q10, q20, hlt2] | refine WP_drw ?_ | refine cnd_intro (fun hsp => ?_) fun hsp => ?_)
      refine WPS_go ?_
      refine WP_wild [⟨1, 23, 51, ⟨G1.length, 0, 2⟩, wv, 14⟩] (by kernel_rfl) (by kernel_rfl) (by kernel_rfl) ⟨hlow, trivial⟩ fun KK hK => ?_
      iterate 17
        rw [TRS_cons]
        refine ⟨by first | (simp (disch := first | exact dschN53 | fail) only [go_sem, ↓reduceIte, r49, d0, d8, d9, d48, q0, q3, q8, q9, q10, q20, cK2', e1, cM1, e2, cM2, e3, cM3, e4, cM4, e5, cM5, bsw, ea, c6', ldsQ_cons, ldsQ_nil, grdQ_cons, grdQ_nil, if_true, Nat.reduceLeDiff]; done) | exact trivial, ?_⟩
        simp (disch := first | exact dschN53 | fail) only [go_sem, ↓reduceIte, r49, d0, d8, d9, d48, q0, q3, q8, q9, q10, q20, cK2', e1, cM1, e2, cM2, e3, cM3, e4, cM4, e5, cM5, bsw, ea, c6']
      rw [TRS_nil]
      refine ⟨by first | (simp (disch := first | exact dschN53 | fail) only [go_sem, ↓reduceIte, r49, d0, d8, d9, d48, q0, q3, q8, q9, q10, q20, cK2', e1, cM1, e2, cM2, e3, cM3, e4, cM4, e5, cM5, bsw, ea, c6', ldsQ_cons, ldsQ_nil, grdQ_cons, grdQ_nil, if_true, Nat.reduceLeDiff]; done) | exact trivial, ?_⟩
      subst hK
      have hsp := @Nat.succ_ne_zero; repeat' (first | simp (disch := first | exact dschN53 | fail) only [go_sem, ↓reduceIte, hsp, r49, d0, d8, d9, d48, q0, q3, q8, q9, q10, q20] | refine WP_drw ?_ | refine cnd_intro (fun hsp => ?_) fun hsp => ?_)
      refine ⟨by (repeat first | exact Agree.refl | assumption | refine Agree.put rfl ?_ | refine Agree.put0 ?_ | refine Agree.sub rfl (by assumption) ?_), by omega, W ++ [wr], w', _, ?_, Ext.set x6 (by rw [List.length_set]; omega), g6, rfl, Own.setBox f6 c6, Own.setBox oW6 c6, by simp; omega, fun w hw => ?_, by omega⟩
      · omega
      · rcases List.mem_append.1 hw with hw | hw
        · exact hWo w hw
        · rw [List.mem_singleton] at hw; rw [hw]; exact hwr
    · rintro fr2 K' hA2 ⟨r49, W, wv, k2, hk2, xK2, gK2, cK2, oF2, oW2, hWl, hWo, lK2⟩
      have d0 := hA2 0 rfl
      have d8 := hA2 8 rfl
      have d9 := hA2 9 rfl
      have d48 := hA2 48 rfl
      try simp (disch := first | exact dschN53 | fail) only [go_sem, ↓reduceIte, q0, q8, q9] at d0 d8 d9 d48
      have hlt2 : ((z : Int) < (z : Int)) = False := eq_false (by omega)
      have owv := oW2.one
      have gK2' := gK2
      have cK2' := cK2
      unfold ribB at gK2' cK2'
      have hsp := @Nat.succ_ne_zero; repeat' (first | simp (disch := first | exact dschN53 | fail) only [go_sem, ↓reduceIte, hsp, r49, d0, d8, d9, d48, q0, q3, q8, q9, q10, q20, hlt2, cK2', gK2'] | refine WP_drw ?_ | refine cnd_intro (fun hsp => ?_) fun hsp => ?_)
      refine ⟨L, F, W, fv, wv, k2, rfl, by omega, Ext.set xK2 (by rw [List.length_set]; omega), (oF2.setBox gK2').low (by omega), (oW2.setBox gK2').low (by omega), ⟨by simp only; omega, by simp only; omega, by simp only; omega, hWo, fun y hy => by have := hFb y hy; simp only; omega, hFs⟩, hL.2, by omega, by omega⟩
theorem run_LMade {base id k0 : Nat} {h : Heap} {v : AVal} {silk : List Int} {A B D : Int} (hb : base ≤ h.length) (hS : SpAt h id v silk k0) (hk : k0 ≤ 100000) (hA : 1 ≤ A ∧ A ≤ 60) (hB : 0 ≤ B ∧ B ≤ 12) (hD : 0 ≤ D ∧ D ≤ 6) :
    Ret prog raw base (.fn 26 [] []) [.ptr (some ⟨id, 0, 0⟩), .int .i64 A, .int .i64 B, .int .i64 D] h (fun w H => ∃ L F W fv wv k', w = .agg [.int .i64 L, fv, wv] ∧ (k0 ≤ k' ∧ k' ≤ k0 + 100) ∧ SpE h id v silk k' H ∧ Own encI 3 h.length H fv F ∧ Own encW 49 h.length H wv W ∧ RibOk ⟨L, F, W⟩ ∧ L ≤ A) := by
  obtain ⟨w, H, e, L, F, W, fv, wv, k', a1, a2, a3, a4, a5, a6, a7, a8⟩ := run_LMadeD hb hS hk hA hB hD
  exact ⟨w, H, e, L, F, W, fv, wv, k', a1, a2, a3, a4, a5, a6, a7⟩
end Go.AM
/-
  The law's own word on values (holds).
-/
namespace Go.AM
open Go.Proofs.Try
attribute [-go_sem] put_ne put_same
attribute [local go_sem ↓] put_if
end Go.AM
/-
  A plan that is tried (tried).
-/
namespace Go.AM
open Go.Proofs.Try
attribute [-go_sem] put_ne put_same
attribute [local go_sem ↓] put_if
end Go.AM
/-
  CutEarned, walked.
-/
namespace Go.AM
open Go.Proofs.Try
attribute [-go_sem] put_ne put_same
attribute [local go_sem ↓] put_if
end Go.AM
/-
  Plain: values that hold are no less; the ribbon from a unit on.
-/
namespace Go.AM
section
variable {bad bad' : Nat → Bool} {j : Bool} {lg : Int} {u : Nat}
end
/-- The ribbon from a unit on. -/
def tlR (R : Rib) (u : Nat) : Rib := ⟨R.L - u, (R.F.filter fun y => decide ((u : Int) ≤ y)).map (· - (u : Int)), R.W⟩
section
variable {R : Rib} {u x : Nat}
end
end Go.AM
/-
  Plain: more wants, better wants and longer ribbons earn no less.
-/
namespace Go.AM
/-- Where each cut has one that is as good, no less is earned. -/
theorem valD_mono {R R' : Rib} (hR : RibOk R) (hR' : RibOk R') (hL : R.L.toNat ≤ R'.L.toNat)
    (h : ∀ (k : Nat) (w : Wnt) (x : Nat) (j : Bool) (e p : Int), x < R.L.toNat → R.W[k]? = some w → takL R w x j = some (e, p) → ∃ (k' : Nat) (w' : Wnt) (p' : Int), R'.W[k']? = some w' ∧ takL R' w' x j = some (e, p') ∧ p ≤ p') : valD R 0 ≤ valD R' 0 := by
  refine valD_least hR (v := valD R') (valD_bd hR').1 (fun x hx => valD_up hR' (by omega)) (fun x hx c hc => ?_) R.L.toNat 0 (by omega)
  obtain ⟨k, w, j, hw, ht, he⟩ := cutL_mem.1 hc
  obtain ⟨k', w', p', hw', ht', hp⟩ := h k w x j c.2.1 c.2.2 hx hw ht
  have hm : ((⟨(k' : Int), (x : Int), j⟩ : Ct), (c.2.1, p')) ∈ cutL R' x := cutL_mem.2 ⟨k', w', j, hw', ht', rfl⟩
  have := valD_cut hR' (show x < R'.L.toNat by omega) hm
  simp only at this
  omega
structure WntLe (w w' : Wnt) : Prop where
  lg : w'.lg = w.lg
  pr : w.pr ≤ w'.pr
  off : w'.off ≤ w.off
  fl : w.fl ≤ w'.fl
  jn : w.jn ≤ w'.jn
end Go.AM
/-
  CutMore, walked.
-/
namespace Go.AM
open Go.Proofs.Try
attribute [-go_sem] put_ne put_same
attribute [local go_sem ↓] put_if
theorem cvtN {x : Int} (hx : 0 ≤ x ∧ x ≤ 255) : convA prog 3 5 (.int .u8 x) = some (.int .i64 x) := by
  have h : convA prog 3 5 (.int .u8 x) = some (.int .i64 (IntKind.i64.wrap x)) := by kernel_rfl
  rw [h, wrap64 (by omega) (by omega)]
/-! ### Ribbons side by side -/
def RX : Type := Int × {v : AVal // v.scalar = true} × {v : AVal // v.scalar = true}
def encX : Enc RX := ⟨3, fun x => [.int .i64 x.1, x.2.1.1, x.2.2.1], fun _ => rfl, by decide⟩
def GoodX (b : Nat) (n : Int) (H : Heap) (x : RX) : Prop := ∃ R : Rib, x.1 = R.L ∧ OwnE encI 3 b H x.2.1.1 R.F ∧ OwnE encW 49 b H x.2.2.1 R.W ∧ RibOk R ∧ n ≤ valD R 0
section
variable {b : Nat} {n : Int} {H H' : Heap} {x : RX}
theorem rib_own {R : Rib} (hR : RibOk R) {fv wv : AVal} (a2 : OwnE encI 3 b H fv R.F) (a3 : OwnE encW 49 b H wv R.W) : RibAt H (.agg [.int .i64 R.L, fv, wv]) R := by
  have hrF := hR.F
  have hnF := hR.nF
  have hnW := hR.nW
  have hL := hR.L
  exact ⟨fv, wv, rfl, ownE_ints a2 ⟨by omega, fun y hy => by have := hrF y hy; omega⟩, a3.rows (by omega)⟩
end
end Go.AM
/-
  Plain: wants that are needed are used; the least price at which a want is used.
-/
namespace Go.AM
section
variable {R : Rib} {x : Nat}
theorem fwX_ge {ω : Int → Int} {K : Nat → Int} {y : Nat} : K y ≤ fwX R ω x K y := by
  unfold fwX
  refine foldl_inv (I := fun K' : Nat → Int => K y ≤ K' y) rlx_ge fun b c hc hI => ?_
  exact Int.le_trans hI rlx_ge
theorem fwX_up {ω : Int → Int} {K : Nat → Int} : K x ≤ fwX R ω x K (x + 1) := by
  unfold fwX
  refine foldl_inv (I := fun K' : Nat → Int => K x ≤ K' (x + 1)) (by rw [rlx_eq]; omega) fun b c hc hI => ?_
  exact Int.le_trans hI rlx_ge
theorem fwX_cut {ω : Int → Int} {K : Nat → Int} {c : Ct × Int × Int} (hc : c ∈ cutL R x) : K x + ω c.2.2 ≤ fwX R ω x K c.2.1.toNat := by
  unfold fwX
  obtain ⟨l1, l2, hl⟩ := List.append_of_mem hc
  rw [hl, List.foldl_append, List.foldl_cons]
  refine foldl_inv (I := fun K' : Nat → Int => K x + ω c.2.2 ≤ K' c.2.1.toNat) ?_ fun b c hc hI => Int.le_trans hI rlx_ge
  rw [rlx_eq]; omega
theorem fwN_up {ω : Int → Int} {K : Nat → Int} {y n : Nat} : ∀ {m : Nat}, n ≤ m → fwN R ω n x K y ≤ fwN R ω m x K y := by
  intro m h
  induction m with
  | zero => rw [show n = 0 by omega]; exact Int.le_refl _
  | succ m ih =>
    by_cases e : n = m + 1
    · rw [e]; exact Int.le_refl _
    · refine Int.le_trans (ih (by omega)) ?_
      rw [fwN_succ]; exact fwX_ge
theorem befD_is (hR : RibOk R) (hx : x ≤ R.L.toNat) : befD R x = fwN R id x 0 (fun _ => 0) x := (befD_fw hR hx (Nat.le_refl _) hx).symm
theorem befD_up (hR : RibOk R) (hx : x < R.L.toNat) : befD R x ≤ befD R (x + 1) := by
  rw [befD_is hR (by omega), befD_is hR (show x + 1 ≤ R.L.toNat by omega), fwN_succ, Nat.zero_add]
  exact fwX_up
theorem befD_cut (hR : RibOk R) (hx : x < R.L.toNat) {c : Ct × Int × Int} (hc : c ∈ cutL R x) : befD R x + c.2.2 ≤ befD R c.2.1.toNat := by
  have hb := (cutL_b hR hx hc).1
  have hL := hR.L
  have h1 : befD R x + c.2.2 ≤ fwN R id (x + 1) 0 (fun _ => 0) c.2.1.toNat := by
    rw [befD_is hR (by omega), fwN_succ, Nat.zero_add]
    exact fwX_cut (ω := id) hc
  rw [befD_is hR (show c.2.1.toNat ≤ R.L.toNat by omega)]
  exact Int.le_trans h1 (fwN_up (by omega))
theorem befD_val (hR : RibOk R) (hx : x ≤ R.L.toNat) : befD R x + valD R x ≤ valD R 0 := (bfN_bd hR hx x (Nat.le_refl _) hx).2
/-- Without a want that is not used as much is earned. -/
theorem wit_ge (hR : RibOk R) {k : Nat} (hk : (k : Int) ∉ usN R R.L.toNat) : valD R 0 ≤ valD (witR R k) 0 := by
  have hW := hR.wit k
  have hL := hR.L
  have eL : (witR R k).L.toNat = R.L.toNat := rfl
  have main : ∀ (n x : Nat), R.L.toNat = x + n → befD R x + valD R x = valD R 0 → valD R x ≤ valD (witR R k) x := by
    intro n
    induction n using Nat.strongRecOn with
    | _ n ih =>
      intro x h hp
      by_cases hn : n = 0
      · rw [valD_end (by omega)]; exact (valD_bd hW).1
      · have hx : x < R.L.toNat := by omega
        rcases valD_is hR hx with q | ⟨c, hc, q⟩
        · have h1 := befD_up hR hx
          have h2 := befD_val hR (show x + 1 ≤ R.L.toNat by omega)
          have h3 := ih (n - 1) (by omega) (x + 1) (by omega) (by omega)
          have h4 := valD_up hW (show x < (witR R k).L.toNat by omega)
          omega
        · have hb := (cutL_b hR hx hc).1
          have h1 := befD_cut hR hx hc
          have h2 := befD_val hR (show c.2.1.toNat ≤ R.L.toNat by omega)
          have h3 := ih (R.L.toNat - c.2.1.toNat) (by omega) c.2.1.toNat (by omega) (by omega)
          have hu : c.1.w ∈ usN R R.L.toNat := usN_mem.2 ⟨x, hx, c, hc, by unfold useB; exact decide_eq_true (by omega), rfl⟩
          obtain ⟨i, w, j, hw, ht, he⟩ := cutL_mem.1 hc
          have hik : i ≠ k := fun e => hk (by rw [he] at hu; simp only at hu; rw [e] at hu; exact hu)
          have hm : ∃ i' : Nat, (witR R k).W[i']? = some w := by
            unfold witR
            simp only
            by_cases d : i < k
            · exact ⟨i, by rw [List.getElem?_eraseIdx, if_pos d]; exact hw⟩
            · refine ⟨i - 1, ?_⟩
              rw [List.getElem?_eraseIdx, if_neg (by omega), show i - 1 + 1 = i by omega]; exact hw
          obtain ⟨i', hi'⟩ := hm
          have hc' : ((⟨(i' : Int), (x : Int), j⟩ : Ct), c.2) ∈ cutL (witR R k) x := cutL_mem.2 ⟨i', w, j, hi', ht, rfl⟩
          have h4 := valD_cut hW (show x < (witR R k).L.toNat by omega) hc'
          simp only at h4
          omega
  have h0 : befD R 0 = 0 := by unfold befD bfN; rfl
  exact main R.L.toNat 0 (by omega) (by omega)
theorem wit_le (hR : RibOk R) {k : Nat} : valD (witR R k) 0 ≤ valD R 0 :=
  valD_mono (hR.wit k) hR (Nat.le_refl _) fun i w x j e p _ hw ht => by
    simp only [witR, List.getElem?_eraseIdx] at hw
    split at hw
    · exact ⟨i, w, p, hw, ht, Int.le_refl _⟩
    · exact ⟨i + 1, w, p, hw, ht, Int.le_refl _⟩
/-- **A want that is needed is used.** -/
theorem ned_usd (hR : RibOk R) {k : Int} (h : k ∈ nedL R) : k ∈ usdL R := by
  unfold nedL at h
  rw [List.mem_filter, upto_mem, decide_eq_true_eq] at h
  rw [usdL_mem hR]
  refine Classical.byContradiction fun q => ?_
  have := wit_ge hR (k := k.toNat) (by rw [show ((k.toNat : Nat) : Int) = k by omega]; exact q)
  omega
theorem ned_iff {k : Nat} (hk : k < R.W.length) : (k : Int) ∈ nedL R ↔ valD (witR R k) 0 < valD R 0 := by
  unfold nedL
  rw [List.mem_filter, upto_mem, decide_eq_true_eq, Int.toNat_natCast]
  exact ⟨fun q => q.2, fun q => ⟨by omega, q⟩⟩
theorem rseN_some {k : Nat} : ∀ {n : Nat} {p q : Int}, rseN R k n p = some q → p ≤ q ∧ q < p + n ∧ (k : Int) ∈ usdL (prcR R k q) ∧ ∀ r, p ≤ r → r < q → (k : Int) ∉ usdL (prcR R k r)
  | 0, p, q, h => by cases h
  | n + 1, p, q, h => by
    unfold rseN at h
    split at h
    · rename_i c
      obtain rfl := Option.some.inj h
      exact ⟨Int.le_refl _, by omega, c, fun r h1 h2 => by omega⟩
    · rename_i c
      obtain ⟨h1, h2, h3, h4⟩ := rseN_some h
      exact ⟨by omega, by omega, h3, fun r g1 g2 => by
        by_cases e : r = p
        · rw [e]; exact c
        · exact h4 r (by omega) g2⟩
theorem rseN_none {k : Nat} {n : Nat} {p : Int} (h : rseN R k (n + 1) p = none) : (k : Int) ∉ usdL (prcR R k p) := by
  unfold rseN at h
  split at h
  · cases h
  · assumption
theorem prcR_self {k : Nat} (hk : k < R.W.length) : prcR R k (prcW R k) = R := by
  have hw : R.W[k]? = some (R.W[k]'hk) := List.getElem?_eq_getElem hk
  have : R.W.modify k (fun w => { w with pr := prcW R k }) = R.W := by
    refine List.ext_getElem? fun i => ?_
    rw [List.getElem?_modify]
    by_cases e : k = i
    · subst e; rw [hw]; simp [prcW, hw]
    · cases R.W[i]? <;> simp [e]
  unfold prcR
  rw [this]
theorem prcW_b (hR : RibOk R) {k : Nat} (hk : k < R.W.length) : 0 ≤ prcW R k ∧ prcW R k ≤ 100 := by
  have hw : R.W[k]? = some (R.W[k]'hk) := List.getElem?_eq_getElem hk
  unfold prcW
  rw [hw]
  exact (hR.W _ (List.mem_of_getElem? hw)).pr
theorem rse_none (hR : RibOk R) {k : Nat} (hk : k < R.W.length) (h : rseL R k = none) : (k : Int) ∉ usdL R := by
  have hb := prcW_b hR hk
  unfold rseL at h
  rw [show (101 - prcW R k).toNat = (100 - prcW R k).toNat + 1 by omega] at h
  have := rseN_none h
  rwa [prcR_self hk] at this
theorem rse_some (hR : RibOk R) {k : Nat} (hk : k < R.W.length) {q : Int} (h : rseL R k = some q) : prcW R k ≤ q ∧ q ≤ 100 ∧ (k : Int) ∈ usdL (prcR R k q) ∧ ((k : Int) ∈ usdL R ↔ q = prcW R k) ∧ (prcW R k < q → (k : Int) ∉ usdL (prcR R k (q - 1))) := by
  have hb := prcW_b hR hk
  obtain ⟨h1, h2, h3, h4⟩ := rseN_some h
  have hs := prcR_self hk
  refine ⟨h1, by omega, h3, ⟨fun g => ?_, fun g => ?_⟩, fun g => h4 _ (by omega) (by omega)⟩
  · refine Classical.byContradiction fun z => ?_
    exact h4 (prcW R k) (Int.le_refl _) (by omega) (by rw [hs]; exact g)
  · rw [g, hs] at h3; exact h3
theorem valD_none (hR : RibOk R) (h : R.W = []) : valD R 0 = 0 := by
  have h1 := (valD_bd hR (x := 0)).1
  have := valD_least hR (v := fun _ => 0) (Int.le_refl _) (fun _ _ => Int.le_refl _) (fun x hx c hc => by
    obtain ⟨k, w, j, hw, -, -⟩ := cutL_mem.1 hc
    rw [h] at hw; cases hw) R.L.toNat 0 (by omega)
  have : valD R 0 ≤ 0 := this
  omega
end
end Go.AM
/-
  slices.Delete of a want, out of a row of any version.
-/
namespace Go.AM
open Go.Proofs.Try
theorem dschN60 {p : Prop} (h : p := by first | exact Nat.ne_of_beq_eq_false rfl | assumption | (apply asOne; (first | exact One.int | exact One.bool | assumption | exact Ints.one (by assumption) | exact Rows.one (by assumption) | exact Own.one (by assumption) | exact One.lit ⟨rfl, rfl, rfl⟩)) | (apply asInts; (repeat first | assumption | exact ints_nil | apply Ints.app); done) | (apply asRows; (repeat first | assumption | exact Rows.nil | apply Rows.app); done) | (apply asScal; (first | apply allS1 | apply allS2 | apply allS3 | apply allS4) <;> (first | exact One.int | exact One.bool | assumption | exact Ints.one (by assumption) | exact Rows.one (by assumption) | exact Own.one (by assumption) | exact One.lit ⟨rfl, rfl, rfl⟩)) | exact litT rfl | exact litF rfl | omega | (simp only [List.length_append, List.length_cons, List.length_nil, List.length_set, List.length_reverse]; first | done | omega) | fail) : p := h
attribute [-go_sem] put_ne put_same
attribute [local go_sem ↓] put_if
/-! ### Wants -/
section
variable {base id ver : Nat} {h : Heap} {m : List Wnt}
abbrev wV (ver : Nat) (m : List Wnt) : ABlk := rowE encW 49 m ver
theorem stV {o : Nat} {z : List Wnt} (hg : h[id]? = some (wV ver m)) (hb : base ≤ id) (ho : o + z.length ≤ m.length) : storeN base h ⟨id, ver, o * 5⟩ (flat encW z) = some (h.set id (wV ver (m.take o ++ z ++ m.drop (o + z.length)))) := by
  have e : flat encW m = flat encW (m.take o) ++ flat encW ((m.drop o).take z.length) ++ flat encW (m.drop (o + z.length)) := by
    rw [← flat_app, ← flat_app]
    congr 1
    rw [List.append_assoc, ← List.drop_drop, List.take_append_drop, List.take_append_drop]
  have hz : encW.z = 5 := rfl
  have hlo : (flat encW (m.take o)).length = o * 5 := by rw [flat_len, hz, List.length_take]; congr 1; omega
  have h1 := splice_mid (flat encW z) (flat encW (m.take o)) (flat encW ((m.drop o).take z.length)) (flat encW (m.drop (o + z.length))) (by rw [flat_len, flat_len, List.length_take, List.length_drop]; congr 1; omega)
  rw [← e, ← flat_app, ← flat_app, hlo] at h1
  have hle : o * 5 + z.length * 5 ≤ m.length * 5 := by omega
  rw [store_eq, hg]
  show stQ base id (some ⟨.cells (flat encW m) 49 true false, ver⟩) ver (o * 5) (flat encW z) _ = _
  rw [stQ_ok (by rw [flat_len, flat_len, hz]; exact hle) (List.all_eq_true.2 fun x hx => by
    obtain ⟨w, _, hw⟩ := List.mem_flatMap.1 hx
    exact List.all_eq_true.1 (encW_sc w) x hw) hb, h1]
  rfl
theorem slV_to {n k : Nat} {hi : Int} (h0 : 0 ≤ hi) (h1 : hi ≤ k) : sliceA prog 23 (.slice (some ⟨id, ver, 0⟩) n k) none (some (.int .i64 hi)) none = some (.slice (some ⟨id, ver, 0⟩) hi.toNat k) := by
  have e1 : hi ≤ (k : Int) := h1
  simp [sliceA, Fc.ar23, Fc.el23, optB, boundA, ARef.add, h0, e1]
theorem slV_from {n k : Nat} {lo : Int} (h0 : 0 ≤ lo) (h1 : lo ≤ n) (h2 : n ≤ k) : sliceA prog 23 (.slice (some ⟨id, ver, 0⟩) n k) (some (.int .i64 lo)) none none = some (.slice (some ⟨id, ver, lo.toNat * 5⟩) (n - lo.toNat) (k - lo.toNat)) := by
  have e1 : lo ≤ (n : Int) := h1
  simp [sliceA, Fc.ar23, Fc.el23, optB, boundA, ARef.add, h0, e1]
theorem slV_two {n k : Nat} {lo hi : Int} (h0 : 0 ≤ lo) (h1 : lo ≤ hi) (h2 : hi ≤ k) : sliceA prog 23 (.slice (some ⟨id, ver, 0⟩) n k) (some (.int .i64 lo)) (some (.int .i64 hi)) none = some (.slice (some ⟨id, ver, lo.toNat * 5⟩) (hi.toNat - lo.toNat) (k - lo.toNat)) := by
  simp only [sliceA, Fc.ar23, Fc.el23, optB, boundI (show 0 ≤ hi by omega) h2, boundI h0 (show lo ≤ (hi.toNat : Int) by omega)]
  simp [ARef.add]
theorem slV_three {n k : Nat} {lo hi mx : Int} (h0 : 0 ≤ lo) (h1 : lo ≤ hi) (h2 : hi ≤ mx) (h3 : mx ≤ k) : ∃ v, sliceA prog 23 (.slice (some ⟨id, ver, 0⟩) n k) (some (.int .i64 lo)) (some (.int .i64 hi)) (some (.int .i64 mx)) = some v := by
  simp only [sliceA, Fc.ar23, Fc.el23, optB, boundI (show 0 ≤ mx by omega) h3, boundI (show 0 ≤ hi by omega) (show hi ≤ (mx.toNat : Int) by omega), boundI h0 (show lo ≤ (hi.toNat : Int) by omega)]
  exact ⟨_, rfl⟩
/-- slices.Delete, of one want. -/
theorem run_deleteV {l : List Wnt} {i : Nat} (hg : h[id]? = some (wV ver l)) (hb : base ≤ id) (hi : i < l.length) (hl : l.length ≤ 1000) :
    Ret prog raw base (.fn 67 [] []) [.slice (some ⟨id, ver, 0⟩) l.length l.length, .int .i64 (i : Int), .int .i64 ((i : Int) + 1)] h (fun w H => w = .slice (some ⟨id, ver, 0⟩) (l.length - 1) l.length ∧ H = h.set id (wV ver (l.eraseIdx i ++ [wnt0]))) := by
  obtain ⟨n, en⟩ : ∃ n, l.length = n := ⟨_, rfl⟩
  rw [en] at hi hl ⊢
  have hid := lt_of_get hg
  obtain ⟨v3, e3⟩ := slV_three (id := id) (ver := ver) (n := n) (k := n) (lo := (i : Int)) (hi := (i : Int) + 1) (mx := (n : Int)) (by omega) (by omega) (by omega) (by omega)
  have t1 : ((i : Int) = (i : Int) + 1) = False := eq_false (by omega)
  have s1 := slV_to (id := id) (ver := ver) (n := n) (k := n) (hi := (i : Int)) (by omega) (by omega)
  have s2 := slV_from (id := id) (ver := ver) (n := n) (k := n) (lo := (i : Int) + 1) (by omega) (by omega) (by omega)
  rw [Int.toNat_natCast] at s1
  rw [show ((i : Int) + 1).toNat = i + 1 by omega] at s2
  obtain ⟨m, em⟩ : ∃ m, m = l.eraseIdx i ++ l.drop (n - 1) := ⟨_, rfl⟩
  have hel : (l.eraseIdx i).length = n - 1 := by rw [List.length_eraseIdx, if_pos (by omega)]; omega
  have hml : m.length = n := by rw [em, List.length_append, hel, List.length_drop]; omega
  have hld : (l.drop (i + 1)).length = n - (i + 1) := by rw [List.length_drop, en]
  have hRd : Rows encW h (.slice (some ⟨id, ver, (i + 1) * 5⟩) (n - (i + 1)) (n - (i + 1))) (l.drop (i + 1)) := by
    refine ⟨by omega, .inr (.inr ⟨⟨id, ver, (i + 1) * 5⟩, n - (i + 1), flat encW l, 49, true, false, by rw [hld], hg, ?_, ?_, by omega⟩)⟩
    · have e : flat encW l = flat encW (l.take (i + 1)) ++ flat encW (l.drop (i + 1)) := by rw [← flat_app, List.take_append_drop]
      have hlo : (flat encW (l.take (i + 1))).length = (i + 1) * 5 := by
        rw [flat_len, List.length_take, Nat.min_eq_left (by omega)]; rfl
      show ((flat encW l).drop ((i + 1) * 5)).take _ = _
      rw [e, ← hlo, List.drop_left, List.take_of_length_le (by rw [flat_len]; exact Nat.le_refl _)]
    · rw [hld, flat_len, show encW.z = 5 from rfl]; simp only; omega
  have hfn := hRd.firstN
  rw [hld, show encW.z = 5 from rfl] at hfn
  have hap : appendA prog base h 23 (.slice (some ⟨id, ver, 0⟩) i n) (.slice (some ⟨id, ver, (i + 1) * 5⟩) (n - (i + 1)) (n - (i + 1))) = some (.slice (some ⟨id, ver, 0⟩) (n - 1) n, h.set id (wV ver m)) := by
    have hsc : (flat encW (l.drop (i + 1))).all AVal.scalar = true := List.all_eq_true.2 fun x hx => by
      obtain ⟨w, _, hw⟩ := List.mem_flatMap.1 hx
      exact List.all_eq_true.1 (encW_sc w) x hw
    simp only [appendA, Fc.el23, lenA, hfn, hsc, if_true]
    rw [if_pos (by omega)]
    have : (ARef.mk id ver 0).add (i * 5) = ⟨id, ver, i * 5⟩ := by simp [ARef.add]
    rw [this, stV hg hb (by rw [hld]; omega)]
    simp only [hld]
    rw [show i + (n - (i + 1)) = n - 1 by omega, ← List.eraseIdx_eq_take_drop_succ, em]
  obtain ⟨G, eG⟩ : ∃ G, G = h.set id (wV ver m) := ⟨_, rfl⟩
  rw [← eG] at hap
  have gG : G[id]? = some (wV ver m) := by rw [eG, List.getElem?_set_self hid]
  have s3 := slV_two (id := id) (ver := ver) (n := n - 1) (k := n) (lo := ((n - 1 : Nat) : Int)) (hi := (n : Int)) (by omega) (by omega) (by omega)
  rw [Int.toNat_natCast, Int.toNat_natCast, show n - (n - 1) = 1 by omega] at s3
  have hcl : clearA prog base G 23 (.slice (some ⟨id, ver, (n - 1) * 5⟩) 1 1) = some (.tuple [], G.set id (wV ver (l.eraseIdx i ++ [wnt0]))) := by
    have hs := stV (z := [wnt0]) (o := n - 1) gG hb (by simp; omega)
    have e : m.take (n - 1) ++ [wnt0] ++ m.drop (n - 1 + [wnt0].length) = l.eraseIdx i ++ [wnt0] := by
      rw [em, List.take_left' hel, List.drop_of_length_le (by simp [hel]; omega), List.append_nil]
    rw [e] at hs
    have hr : repCells [AVal.int .i64 0, .int .i64 0, .int .i64 0, .int .i64 0, .int .i64 0] (0 + 1) = flat encW [wnt0] := rfl
    simp only [clearA, Fc.el23, hr, hs]
  refine ret_raw func67 rfl (by kernel_rfl) ?_
  have hsp := @Nat.succ_ne_zero; repeat' (first | simp (disch := first | exact dschN60 | fail) only [go_sem, ↓reduceIte, hsp, e3, t1, s1, s2, hap, s3, hcl] | refine WP_drw ?_ | refine cnd_intro (fun hsp => ?_) fun hsp => ?_)
  rw [eG, List.set_set]
end
/-- What is left of the row. -/
theorem rows_del {H : Heap} {id ver k : Nat} {l : List Wnt} (hg : H[id]? = some (wV ver (l.eraseIdx k ++ [wnt0]))) (hk : k < l.length) (hl : l.length ≤ 1000) : Rows encW H (.slice (some ⟨id, ver, 0⟩) (l.length - 1) l.length) (l.eraseIdx k) := by
  have hel : (l.eraseIdx k).length = l.length - 1 := by rw [List.length_eraseIdx, if_pos hk]
  refine ⟨by omega, .inr (.inr ⟨⟨id, ver, 0⟩, l.length, flat encW (l.eraseIdx k ++ [wnt0]), 49, true, false, by rw [hel], hg, ?_, ?_, by omega⟩)⟩
  · show ((flat encW (l.eraseIdx k ++ [wnt0])).drop 0).take _ = _
    rw [List.drop_zero, flat_app, ← flat_len, List.take_left]
  · rw [flat_len, List.length_append, Nat.add_mul]; simp only; omega
end Go.AM
/-
  CutUsed, walked.
-/
namespace Go.AM
open Go.Proofs.Try
theorem dschN61 {p : Prop} (h : p := by first | exact Nat.ne_of_beq_eq_false rfl | assumption | (apply asOne; (first | exact One.int | exact One.bool | assumption | exact Ints.one (by assumption) | exact Rows.one (by assumption) | exact Own.one (by assumption) | exact One.lit ⟨rfl, rfl, rfl⟩)) | (apply asSp; (repeat first | assumption | apply SpAt.set | (refine SpAt.new ?_ (by (first | rfl | (simp only [List.length_append, List.length_cons, List.length_nil, List.length_set]; done) | (simp only [List.length_append, List.length_cons, List.length_nil, List.length_set]; omega)))) | apply SpAt.app | apply Bytes.app); done) | (apply asBytes; (repeat first | assumption | apply Bytes.app); done) | (apply asInts; (repeat first | assumption | exact ints_nil | apply Ints.app); done) | (apply asRows; (repeat first | assumption | exact Rows.nil | apply Rows.app); done) | (apply asScal; (first | apply allS1 | apply allS2 | apply allS3 | apply allS4) <;> (first | exact One.int | exact One.bool | assumption | exact Ints.one (by assumption) | exact Rows.one (by assumption) | exact Own.one (by assumption) | exact One.lit ⟨rfl, rfl, rfl⟩)) | exact litT rfl | exact litF rfl | omega | (simp only [List.length_append, List.length_cons, List.length_nil, List.length_set, List.length_reverse]; first | done | omega) | fail) : p := h
attribute [-go_sem] put_ne put_same
attribute [local go_sem ↓] put_if
theorem run_us1 {base i1 : Nat} {h : Heap} {v : AVal} {l : List Int} {x : Int} (g1 : h[i1]? = some ⟨.cells [v] 22 false false, 0⟩) (hI : Ints h v l) :
    callL prog raw base (.fn 65 [] [.ptr (some ⟨i1, 0, 0⟩)]) [.int .i64 x] h = some (.bool (!decide (x ∈ l)), h) := by
  refine callL_run func65 rfl rfl ?_
  have hsp := @Nat.succ_ne_zero; repeat' (first | simp (disch := first | exact dschN61 | fail) only [go_sem, ↓reduceIte, hsp, g1, run_contains] | refine WP_drw ?_ | refine cnd_intro (fun hsp => ?_) fun hsp => ?_)
  exact fB rfl
theorem neqB {a b : Bool} : binA prog .neq 4 (.bool a) (.bool b) = some (.bool (a != b)) := by cases a <;> cases b <;> kernel_rfl
theorem rise_sort {l : List Int} (h : l.Pairwise (· < ·)) : sortB l = true := by
  unfold sortB
  refine decide_eq_true fun i hi h0 => ?_
  have := List.pairwise_iff_getElem.1 h (i - 1) i (by omega) hi (by omega)
  rw [List.getD_eq_getElem?_getD, List.getD_eq_getElem?_getD, List.getElem?_eq_getElem hi, List.getElem?_eq_getElem (show i - 1 < l.length by omega)]
  simp only [Option.getD_some]
  omega
theorem wnt_f1 {h : Heap} {wv : AVal} {W : List Wnt} {i : Nat} (hR : Rows encW h wv W) (hi : i < W.length) : fieldAddrA prog 49 (elAdr wv encW.z i 0) 1 = some (elAdr wv encW.z i 1) := elAdr_field (P := prog) (i := i) (o := 0) (off := 1) (q := false) (n := 1) hR hi (by kernel_rfl) (by decide)
theorem wnt_p0 {h : Heap} {wv : AVal} {W : List Wnt} {i : Nat} {w : Wnt} (hR : Rows encW h wv W) (hx : W[i]? = some w) : loadP prog h 3 (elAdr wv encW.z i 1) = some (.int .i64 w.pr) := hR.cell (P := prog) Fc.ty3 hx (o := 1) (a := .int .i64 w.pr) rfl
set_option maxRecDepth 100000 in
set_option maxHeartbeats 8000000 in
theorem run_CutUsed {base : Nat} {h : Heap} {v0 : AVal} {l0 : List Int} {n1 : Int} (hB0 : Bytes h v0 l0) (q1 : 0 ≤ n1 ∧ n1 ≤ 255) :
    callL prog raw base (.fn 10 [] []) [v0, .int .u8 n1] h = some (.bool true, h) := by
  have o0 := hB0.one
  have hw0 := run_wound (base := h.length) hB0
  obtain ⟨H0, eH0⟩ : ∃ H0, H0 = h ++ [spB v0 l0 0] := ⟨_, rfl⟩
  rw [← eH0] at hw0
  have hS : SpAt H0 h.length v0 l0 0 := by rw [eH0]; exact SpAt.new hB0 rfl
  have l00 : H0.length = h.length + 1 := by rw [eH0]; simp
  have x00 : Ext h H0 := by rw [eH0]; exact .app .refl
  obtain ⟨_, H1, e1, L, F, W, fv, wv, k1, rfl, hk1, p1, oF, oW, hR, hLA⟩ := run_LMade (base := h.length) (A := 24) (B := 8) (D := 5) (by omega) hS (by omega) (by omega) (by omega) (by omega)
  have xh1 : Ext h H1 := Ext.trans (x00.set (Nat.le_refl _)) p1
  have lH1 := p1.len
  have ofv := oF.one
  have owv := oW.one
  obtain ⟨R, eR⟩ : ∃ R : Rib, R = ⟨L, F, W⟩ := ⟨_, rfl⟩
  rw [← eR] at hR
  have hL := hR.L
  have hnF := hR.nF
  have hnW := hR.nW
  have hrF := hR.F
  have eL : L = R.L := by rw [eR]
  have eF : F = R.F := by rw [eR]
  have eW : W = R.W := by rw [eR]
  subst eL eF eW
  clear eR
  obtain ⟨G, eG⟩ : ∃ G, G = H1 ++ [ribB R.L fv wv] := ⟨_, rfl⟩
  have xG : Ext H1 G := by rw [eG]; exact .app .refl
  have gG : G[H1.length]? = some (ribB R.L fv wv) := by rw [eG]; exact get_eq rfl
  have lG : G.length = H1.length + 1 := by rw [eG]; simp
  have aG : RibAt G (.agg [.int .i64 R.L, fv, wv]) R := rib_own hR (.inl (oF.ext xG)) (.inl (oW.ext xG))
  have hc := chkR_iff.2 hR
  have eud : ∀ {R' : Rib}, RibOk R' → usdE R' = usdL R' := fun h' => by unfold usdE; rw [if_neg (fun q => q (chkR_iff.2 h'))]
  have eal : ∀ {R' : Rib}, RibOk R' → allE R' = valD R' 0 := fun h' => by unfold allE; rw [if_neg (fun q => q (chkR_iff.2 h'))]
  have end' : nedE R = nedL R := by unfold nedE; rw [if_neg (fun q => q hc)]
  have smU : ∀ {R' : Rib}, RibOk R' → Small (usdL R') := fun h' => by unfold usdL; exact filt_small (by have := h'.nW; omega)
  have smN : Small (nedL R) := by unfold nedL; exact filt_small (by omega)
  obtain ⟨_, Z1, c1, z1, u1, rfl, oU⟩ := run_Used (base := h.length) (h := G) (by omega) aG (by omega)
  have m1 := z1.len
  have ou1 := oU.one
  rw [eud hR] at oU
  rw [hc] at c1
  have g1 := z1.get gG
  obtain ⟨Z2, eZ2⟩ : ∃ Z2, Z2 = Z1 ++ [(⟨.cells [u1] 22 false false, 0⟩ : ABlk)] := ⟨_, rfl⟩
  have z2 : Ext Z1 Z2 := by rw [eZ2]; exact .app .refl
  have gu : Z2[Z1.length]? = some ⟨.cells [u1] 22 false false, 0⟩ := by rw [eZ2]; exact get_eq rfl
  have lZ2 : Z2.length = Z1.length + 1 := by rw [eZ2]; simp
  have g2 := z2.get g1
  have a2 := aG.ext (z1.trans z2)
  obtain ⟨_, Z3, c3, z3, u2, rfl, oN⟩ := run_Needed (base := h.length) (h := Z2) (by omega) a2 (by omega)
  have m3 := z3.len
  have ou2 := oN.one
  rw [end'] at oN
  rw [hc] at c3
  have g3 := z3.get g2
  have a3 := a2.ext z3
  obtain ⟨_, Z4, c4, z4, u3, rfl, oB⟩ := run_Best (base := h.length) (h := Z3) (by omega) a3 (by omega)
  have m4 := z4.len
  have ou3 := oB.one
  rw [eal hR, hc] at c4
  obtain ⟨vD, evD⟩ : ∃ vD, vD = valD R 0 := ⟨_, rfl⟩
  rw [← evD] at c4
  have g4 := z4.get g3
  have gu4 := z4.get (z3.get gu)
  have a4 := a3.ext z4
  have iU : Ints Z4 u1 (usdL R) := (own_ints oU (smU hR)).ext ((z2.trans z3).trans z4)
  have iN : Ints Z4 u2 (nedL R) := (own_ints oN smN).ext z4
  have hany : (nedL R).any (fun k => !decide (k ∈ usdL R)) = false := by
    rw [Bool.eq_false_iff]
    intro q
    obtain ⟨k, hk, q⟩ := List.any_eq_true.1 q
    simp only [Bool.not_eq_true', decide_eq_false_iff_not] at q
    exact q (ned_usd hR hk)
  have cAny := fun base => anyF_I (base := base) (g := .fn 65 [] [.ptr (some ⟨Z1.length, 0, 0⟩)]) (fun k => !decide (k ∈ usdL R)) iN (fun base x _ => run_us1 gu4 iU)
  rw [hany] at cAny
  have cs1 := fun base => run_sorted (base := base) iU
  have cs2 := fun base => run_sorted (base := base) iN
  rw [rise_sort usdL_rise] at cs1
  rw [rise_sort nedL_rise] at cs2
  have xh4 : Ext h Z4 := ((((xh1.trans xG).trans z1).trans z2).trans z3).trans z4
  have haw4 := fun base => run_awake (base := base) (h := Z4)
  obtain ⟨fv', wv', eqv, iF4, iW4⟩ := a4
  simp only [AVal.agg.injEq, List.cons.injEq, and_true, true_and] at eqv
  obtain ⟨rfl, rfl⟩ := eqv
  have a4 : RibAt Z4 (.agg [.int .i64 R.L, fv, wv]) R := ⟨fv, wv, rfl, iF4, iW4⟩
  have hnw := iW4.len (P := prog) Fc.el23
  have hnu := lenI iU
  unfold ribB at eG gG g1 g2 g3 g4
  by_cases cW : R.W = []
  · have cv : vD = 0 := by rw [evD]; exact valD_none hR cW
    have lW0 : R.W.length = 0 := by rw [cW]; rfl
    have cu : (usdL R).length = 0 := by unfold usdL; rw [lW0]; rfl
    rw [lW0] at hnw
    rw [cu] at hnu
    rw [cv] at c4
    refine callL_run func10 rfl rfl ?_
    have hsp := @Nat.succ_ne_zero; repeat' (first | simp (disch := first | exact dschN61 | fail) only [go_sem, ↓reduceIte, hsp, hw0, e1, ← eG, gG, c1, ← eZ2, g2, c3, g3, c4, ne_eq, not_true, decide_false, eq_self, cAny, gu4, cs1, cs2, Bool.not_true, g4, hnw, hnu, decide_true, Int.natCast_zero, haw4] | refine WP_drw ?_ | refine cnd_intro (fun hsp => ?_) fun hsp => ?_)
    exact fB rfl xh4
  · have hW0 : 0 < R.W.length := List.length_pos_iff.2 cW
    have tW : ((R.W.length : Int) = 0) = False := eq_false (by omega)
    obtain ⟨kk, ekk⟩ : ∃ kk : Nat, n1.tmod (R.W.length : Int) = (kk : Int) := by
      refine Int.eq_ofNat_of_zero_le ?_
      rw [Int.tmod_eq_emod_of_nonneg q1.1]
      exact Int.emod_nonneg _ (by omega)
    have hkk : kk < R.W.length := by
      have := Int.emod_lt_of_pos n1 (show 0 < (R.W.length : Int) by omega)
      rw [Int.tmod_eq_emod_of_nonneg q1.1] at ekk
      omega
    have mr : binA prog .rem 3 (.int .i64 n1) (.int .i64 (R.W.length : Int)) = some (.int .i64 (kk : Int)) := by rw [bin_rem (by omega), ekk]
    obtain ⟨w, hwk⟩ : ∃ w, R.W[kk]? = some w := ⟨_, List.getElem?_eq_getElem hkk⟩
    have hwo := hR.W w (List.mem_of_getElem? hwk)
    have hpr := hwo.pr
    have epw : prcW R kk = w.pr := by unfold prcW; rw [hwk]
    -- without the want
    obtain ⟨_, Z5, c5, z5, fw, ww, rfl, of5, ow5⟩ := run_own (base := h.length) (h := Z4) (by omega) a4 (by omega) (by omega)
    have m5 := z5.len
    have ofw := of5.one
    obtain ⟨id5, ver5, rfl, gw5, hid5, -⟩ : ∃ id ver, ww = .slice (some ⟨id, ver, 0⟩) R.W.length R.W.length ∧ Z5[id]? = some (wV ver R.W) ∧ Z4.length ≤ id ∧ True := by
      rcases ow5 with (⟨_, q⟩ | ⟨i, v, q, gi, hi, _⟩) | ⟨_, q⟩
      · exact absurd q cW
      · exact ⟨i, v, q, gi, hi, trivial⟩
      · exact absurd q cW
    have lid5 := lt_of_get gw5
    obtain ⟨Z6, eZ6⟩ : ∃ Z6, Z6 = Z5 ++ [ribB R.L fw (.slice (some ⟨id5, ver5, 0⟩) R.W.length R.W.length)] := ⟨_, rfl⟩
    have z6 : Ext Z5 Z6 := by rw [eZ6]; exact .app .refl
    have lZ6 : Z6.length = Z5.length + 1 := by rw [eZ6]; simp
    have g6 : Z6[Z5.length]? = some (ribB R.L fw (.slice (some ⟨id5, ver5, 0⟩) R.W.length R.W.length)) := by rw [eZ6]; exact get_eq rfl
    obtain ⟨_, Z7, c7, rfl, eZ7⟩ := run_deleteV (base := h.length) (z6.get gw5) (by omega) hkk (by omega)
    have lZ7 : Z7.length = Z5.length + 1 := by rw [eZ7, List.length_set, lZ6]
    have x7 : Ext Z4 Z7 := by rw [eZ7]; exact (z5.trans z6).set (by omega)
    have g7 : Z7[Z5.length]? = some (ribB R.L fw (.slice (some ⟨id5, ver5, 0⟩) R.W.length R.W.length)) := by rw [eZ7, List.getElem?_set_ne (by omega)]; exact g6
    have f7 : OwnE encI 3 Z4.length Z7 fw R.F := by rw [eZ7]; exact (of5.ext z6).setRow (z6.get gw5) (by decide)
    obtain ⟨Z8, eZ8⟩ : ∃ Z8, Z8 = Z7.set Z5.length (ribB R.L fw (.slice (some ⟨id5, ver5, 0⟩) (R.W.length - 1) R.W.length)) := ⟨_, rfl⟩
    have lZ8 : Z8.length = Z5.length + 1 := by rw [eZ8, List.length_set, lZ7]
    have x8 : Ext Z4 Z8 := by rw [eZ8]; exact x7.set (by omega)
    have g8 : Z8[Z5.length]? = some (ribB R.L fw (.slice (some ⟨id5, ver5, 0⟩) (R.W.length - 1) R.W.length)) := by rw [eZ8, List.getElem?_set_self (by omega)]
    have gw8 : Z8[id5]? = some (wV ver5 (R.W.eraseIdx kk ++ [wnt0])) := by rw [eZ8, List.getElem?_set_ne (by omega), eZ7, List.getElem?_set_self (by omega)]
    have f8 : OwnE encI 3 Z4.length Z8 fw R.F := by rw [eZ8]; exact f7.setBox g7
    have hRW := hR.wit kk
    have smF : Small R.F := ⟨by omega, fun y hy => by have := hrF y hy; omega⟩
    have a8 : RibAt Z8 (.agg [.int .i64 R.L, fw, .slice (some ⟨id5, ver5, 0⟩) (R.W.length - 1) R.W.length]) (witR R kk) := ⟨fw, _, rfl, ownE_ints f8 smF, rows_del gw8 hkk (by omega)⟩
    obtain ⟨_, Z9, c9, z9, u9, rfl, oB9⟩ := run_Best (base := h.length) (h := Z8) (by omega) a8 (by have := hRW.nF; omega)
    have m9 := z9.len
    have ou9 := oB9.one
    rw [eal hRW, chkR_iff.2 hRW] at c9
    have hle := wit_le hR (k := kk)
    have hni := ned_iff (R := R) hkk
    rw [← evD] at hle hni
    obtain ⟨vm, evm⟩ : ∃ vm, vm = valD (witR R kk) 0 := ⟨_, rfl⟩
    rw [← evm] at c9 hle hni
    have x9 := x8.trans z9
    have tgt : (vm > vD) = False := eq_false (by omega)
    have cN := fun base => run_contains (base := base) (x := (kk : Int)) (iN.ext x9)
    have eN : decide ((kk : Int) ∈ nedL R) = decide (vm < vD) := decide_eq_decide.2 hni
    rw [eN] at cN
    have nb1 : ∀ b : Bool, (b != b) = false := fun b => by cases b <;> rfl
    have aR := a4.ext x9
    have cR := fun base => run_Raise (base := base) (want := (kk : Int)) aR (by omega)
    have g9 := x9.get g4
    have gu9 := x9.get gu4
    have cU9 := fun base => run_contains (base := base) (x := (kk : Int)) (iU.ext x9)
    have haw9 := fun base => run_awake (base := base) (h := Z9)
    have erE : rseE R (kk : Int) = match rseL R kk with | none => (0, 6) | some p => (p, 0) := by
      unfold rseE; rw [if_neg (fun q => q hc), if_neg (fun q => q (by omega)), Int.toNat_natCast]; cases rseL R kk <;> rfl
    have xh9 := xh4.trans x9
    unfold ribB at eZ6 g6 g7 eZ8 g8
    cases qr : rseL R kk with
    | none =>
      rw [qr] at erE
      have erE : rseE R (kk : Int) = (0, 6) := erE
      rw [erE] at cR
      rw [decide_eq_false (rse_none hR hkk qr)] at cU9
      refine callL_run func10 rfl rfl ?_
      have hsp := @Nat.succ_ne_zero; repeat' (first | simp (disch := first | exact dschN61 | fail) only [go_sem, ↓reduceIte, hsp, hw0, e1, ← eG, gG, c1, ← eZ2, g2, c3, g3, c4, ne_eq, not_true, decide_false, eq_self, cAny, gu4, cs1, cs2, Bool.not_true, g4, hnw, tW, cvtN q1, mr, a4, c5, ← eZ6, g6, c7, g7, ← eZ8, g8, c9, tgt, cN, neqB, nb1, g9, cR, gu9, cU9, Bool.not_false, haw9] | refine WP_drw ?_ | refine cnd_intro (fun hsp => ?_) fun hsp => ?_)
      exact fB rfl xh9
    | some p =>
      rw [qr] at erE
      have erE : rseE R (kk : Int) = (p, 0) := erE
      rw [erE] at cR
      obtain ⟨r1, r2, r3, r4, r5⟩ := rse_some hR hkk qr
      rw [epw] at r1 r4 r5
      have hRp := hR.prc (k := kk) (p := p) (by omega)
      have tlo : (p < w.pr) = False := eq_false (by omega)
      have thi : (p > 100) = False := eq_false (by omega)
      have r4' : decide ((kk : Int) ∈ usdL R) = decide (p = w.pr) := decide_eq_decide.2 r4
      rw [r4'] at cU9
      have iW9 := iW4.ext x9
      have ad9 := wnt_ad iW9 hkk
      have lp9 := wnt_p0 iW9 hwk
      have fd9 := wnt_f1 iW9 hkk
      obtain ⟨_, Y1, d1, y1, fr, wr, rfl, of1, ow1⟩ := run_own (base := h.length) (h := Z9) (by omega) aR (by omega) (by omega)
      have n1' := y1.len
      have ofr := of1.one
      obtain ⟨id1, ver1, rfl, gw1, hid1, -⟩ : ∃ id ver, wr = .slice (some ⟨id, ver, 0⟩) R.W.length R.W.length ∧ Y1[id]? = some (wV ver R.W) ∧ Z9.length ≤ id ∧ True := by
        rcases ow1 with (⟨_, q⟩ | ⟨i, v, q, gi, hi, _⟩) | ⟨_, q⟩
        · exact absurd q cW
        · exact ⟨i, v, q, gi, hi, trivial⟩
        · exact absurd q cW
      have lid1 := lt_of_get gw1
      obtain ⟨Y2, eY2⟩ : ∃ Y2, Y2 = Y1 ++ [ribB R.L fr (.slice (some ⟨id1, ver1, 0⟩) R.W.length R.W.length)] := ⟨_, rfl⟩
      have y2 : Ext Y1 Y2 := by rw [eY2]; exact .app .refl
      have lY2 : Y2.length = Y1.length + 1 := by rw [eY2]; simp
      have b2 : Y2[Y1.length]? = some (ribB R.L fr (.slice (some ⟨id1, ver1, 0⟩) R.W.length R.W.length)) := by rw [eY2]; exact get_eq rfl
      have gw2 := y2.get gw1
      obtain ⟨Y3, eY3⟩ : ∃ Y3, Y3 = Y2.set id1 (wV ver1 (R.W.set kk (wPr w p))) := ⟨_, rfl⟩
      have lY3 : Y3.length = Y1.length + 1 := by rw [eY3, List.length_set, lY2]
      have x3 : Ext Z9 Y3 := by rw [eY3]; exact (y1.trans y2).set (by omega)
      have b3 : Y3[Y1.length]? = some (ribB R.L fr (.slice (some ⟨id1, ver1, 0⟩) R.W.length R.W.length)) := by rw [eY3, List.getElem?_set_ne (by omega)]; exact b2
      have gw3 : Y3[id1]? = some (wV ver1 (R.W.set kk (wPr w p))) := by rw [eY3, List.getElem?_set_self (by omega)]
      have f3 : OwnE encI 3 Z9.length Y3 fr R.F := by rw [eY3]; exact (of1.ext y2).setRow gw2 (by decide)
      have st1 : ∀ (F : ABlk → Heap), stQ h.length id1 (some (rowE encW 49 R.W ver1)) ver1 (kk * 5 + 1) [.int .i64 p] F = some (F (rowE encW 49 (R.W.set kk (wPr w p)) ver1)) := fun F => stQ_cellE (E := encW) (i := kk) (o := 1) (y := wPr w p) hwk (by decide) rfl rfl (by omega)
      have epc : prcR R kk p = ⟨R.L, R.F, R.W.set kk (wPr w p)⟩ := prc_set hwk
      have rb3 : RibAt Y3 (.agg [.int .i64 R.L, fr, .slice (some ⟨id1, ver1, 0⟩) R.W.length R.W.length]) (prcR R kk p) := by
        rw [epc]
        refine ⟨fr, _, rfl, ownE_ints f3 smF, ?_⟩
        have := Rows.own (E := encW) gw3 rfl (by rw [List.length_set]; omega)
        rwa [List.length_set] at this
      obtain ⟨_, Y4, d4, y4, u4, rfl, oU4⟩ := run_Used (base := h.length) (h := Y3) (by omega) rb3 (by have := hRp.nF; omega)
      have n4 := y4.len
      have ou4 := oU4.one
      rw [eud hRp] at oU4
      rw [chkR_iff.2 hRp] at d4
      have cU4 := fun base => run_contains (base := base) (x := (kk : Int)) (own_ints oU4 (smU hRp))
      rw [decide_eq_true r3] at cU4
      have g4' := y4.get (x3.get g9)
      have b4 := y4.get b3
      have gw4 := y4.get gw3
      have iW4' := iW9.ext (x3.trans y4)
      have ad4 := wnt_ad iW4' hkk
      have lp4 := wnt_p0 iW4' hwk
      have fd4 := wnt_f1 iW4' hkk
      unfold ribB at eY2 b2 b3 b4
      by_cases cp : w.pr < p
      · have tp : (p > w.pr) = True := eq_true cp
        have hRq := hR.prc (k := kk) (p := p - 1) (by omega)
        have r6 := r5 cp
        obtain ⟨Y5, eY5⟩ : ∃ Y5, Y5 = Y4.set id1 (wV ver1 (R.W.set kk (wPr w (p - 1)))) := ⟨_, rfl⟩
        have lY5 : Y5.length = Y4.length := by rw [eY5, List.length_set]
        have x5 : Ext Z9 Y5 := by rw [eY5]; exact (x3.trans y4).set (by omega)
        have b5 : Y5[Y1.length]? = some (ribB R.L fr (.slice (some ⟨id1, ver1, 0⟩) R.W.length R.W.length)) := by rw [eY5, List.getElem?_set_ne (by omega)]; exact b4
        have gw5' : Y5[id1]? = some (wV ver1 (R.W.set kk (wPr w (p - 1)))) := by rw [eY5, List.getElem?_set_self (by omega)]
        have f5 : OwnE encI 3 Z9.length Y5 fr R.F := by rw [eY5]; exact (f3.ext y4).setRow gw4 (by decide)
        have hwk2 : (R.W.set kk (wPr w p))[kk]? = some (wPr w p) := List.getElem?_set_self hkk
        have ld4 : ∀ z, ldB (some (false, z)) (some (rowE encW 49 (R.W.set kk (wPr w p)) ver1)) ver1 (kk * 5 + 1) = some (.int .i64 p) := fun z => ldB_cellE (E := encW) hwk2 rfl
        have st2 : ∀ (F : ABlk → Heap), stQ h.length id1 (some (rowE encW 49 (R.W.set kk (wPr w p)) ver1)) ver1 (kk * 5 + 1) [.int .i64 (p - 1)] F = some (F (rowE encW 49 (R.W.set kk (wPr w (p - 1))) ver1)) := fun F => by
          have e := stQ_cellE (E := encW) (e := 49) (base := h.length) (id := id1) (ver := ver1) (i := kk) (o := 1) (y := wPr w (p - 1)) (a := .int .i64 (p - 1)) (K := F) hwk2 (by decide) rfl rfl (by omega)
          rw [List.set_set] at e
          exact e
        have epq : prcR R kk (p - 1) = ⟨R.L, R.F, R.W.set kk (wPr w (p - 1))⟩ := prc_set hwk
        have rb5 : RibAt Y5 (.agg [.int .i64 R.L, fr, .slice (some ⟨id1, ver1, 0⟩) R.W.length R.W.length]) (prcR R kk (p - 1)) := by
          rw [epq]
          refine ⟨fr, _, rfl, ownE_ints f5 smF, ?_⟩
          have := Rows.own (E := encW) gw5' rfl (by rw [List.length_set]; omega)
          rwa [List.length_set] at this
        obtain ⟨_, Y6, d6, y6, u6, rfl, oU6⟩ := run_Used (base := h.length) (h := Y5) (by omega) rb5 (by have := hRq.nF; omega)
        have ou6 := oU6.one
        rw [eud hRq] at oU6
        rw [chkR_iff.2 hRq] at d6
        have cU6 := fun base => run_contains (base := base) (x := (kk : Int)) (own_ints oU6 (smU hRq))
        rw [decide_eq_false r6] at cU6
        have haw6 := fun base => run_awake (base := base) (h := Y6)
        unfold ribB at b5
        refine callL_run func10 rfl rfl ?_
        have hsp := @Nat.succ_ne_zero; repeat' (first | simp (disch := first | exact dschN61 | fail) only [go_sem, ↓reduceIte, hsp, hw0, e1, ← eG, gG, c1, ← eZ2, g2, c3, g3, c4, ne_eq, not_true, decide_false, eq_self, cAny, gu4, cs1, cs2, Bool.not_true, g4, hnw, tW, cvtN q1, mr, c5, ← eZ6, g6, c7, g7, ← eZ8, g8, c9, tgt, cN, neqB, nb1, g9, cR, ad9, fd9, lp9, tlo, thi, gu9, cU9, Bool.not_false, d1, ← eY2, b2, gw2, st1, ← eY3, b3, d4, cU4, g4', ad4, fd4, lp4, tp, b4, gw4, ld4, st2, ← eY5, b5, d6, cU6, haw6] | refine WP_drw ?_ | refine cnd_intro (fun hsp => ?_) fun hsp => ?_)
        exact fB rfl (xh9.trans (x5.trans y6))
      · have tp : (p > w.pr) = False := eq_false (by omega)
        have haw4' := fun base => run_awake (base := base) (h := Y4)
        refine callL_run func10 rfl rfl ?_
        have hsp := @Nat.succ_ne_zero; repeat' (first | simp (disch := first | exact dschN61 | fail) only [go_sem, ↓reduceIte, hsp, hw0, e1, ← eG, gG, c1, ← eZ2, g2, c3, g3, c4, ne_eq, not_true, decide_false, eq_self, cAny, gu4, cs1, cs2, Bool.not_true, g4, hnw, tW, cvtN q1, mr, c5, ← eZ6, g6, c7, g7, ← eZ8, g8, c9, tgt, cN, neqB, nb1, g9, cR, ad9, fd9, lp9, tlo, thi, gu9, cU9, Bool.not_false, d1, ← eY2, b2, gw2, st1, ← eY3, b3, d4, cU4, g4', ad4, fd4, lp4, tp, haw4'] | refine WP_drw ?_ | refine cnd_intro (fun hsp => ?_) fun hsp => ?_)
        exact fB rfl (xh9.trans (x3.trans y4))
end Go.AM
