/-
  LaceDecided, walked.
-/
import Derived.Test.YteanoaejoddnbaaU18
set_option linter.unusedSimpArgs false
set_option linter.unusedVariables false
namespace Go.AM
open Go.Proofs.Try
theorem dschL53 {p : Prop} (h : p := by first | exact Nat.ne_of_beq_eq_false rfl | assumption | (apply asOne; (first | exact One.int | exact One.bool | assumption | exact Ints.one (by assumption) | exact Rows.one (by assumption) | exact Own.one (by assumption) | exact One.lit ⟨rfl, rfl, rfl⟩)) | (apply asSp; (repeat first | assumption | apply SpAt.set | (refine SpAt.new ?_ (by (first | rfl | (simp only [List.length_append, List.length_cons, List.length_nil, List.length_set]; done) | (simp only [List.length_append, List.length_cons, List.length_nil, List.length_set]; omega)))) | apply SpAt.app | apply Bytes.app); done) | (apply asBytes; (repeat first | assumption | apply Bytes.app); done) | (apply asInts; (repeat first | assumption | exact ints_nil | apply Ints.app); done) | (apply asRows; (repeat first | assumption | exact Rows.nil | apply Rows.app); done) | (apply asScal; (first | apply allS1 | apply allS2 | apply allS3 | apply allS4) <;> (first | exact One.int | exact One.bool | assumption | exact Ints.one (by assumption) | exact Rows.one (by assumption) | exact Own.one (by assumption) | exact One.lit ⟨rfl, rfl, rfl⟩)) | exact litT rfl | exact litF rfl | omega | (simp only [List.length_append, List.length_cons, List.length_nil, List.length_set, List.length_reverse]; first | done | omega) | fail) : p := h
attribute [-go_sem] put_ne put_same
attribute [local go_sem ↓] put_if
theorem dcdL_lt {L : Lac} {o : List Int} (ho : o ∈ fnd L) (hn : 1 ≤ L.C.length) : (dcdL L.C.length (fnd L)).length < L.C.length := by
  by_cases c : 2 ≤ L.C.length
  · have := dcdL_short (fnd_nodup (L := L)) (fun o h => fnd_ord h) c
    omega
  · have h1 : L.C.length = 1 := by omega
    have h2 : fnd L = [o] := fnd_one ho fun x hx => ord_last (fnd_ord hx) (fnd_ord ho) fun p hp => by omega
    have := (dcdL_nil (fnd_nodup (L := L)) (fun o h => fnd_ord h) (by rw [h2]; simp)).2 (by rw [h2]; rfl)
    omega
set_option maxRecDepth 100000 in
set_option maxHeartbeats 8000000 in
theorem run_LaceDecided {base : Nat} {h : Heap} {v0 : AVal} {l0 : List Int} (hB0 : Bytes h v0 l0) :
    callL prog raw base (.fn 10 [] []) [v0] h = some (.bool true, h) := by
  have o0 := hB0.one
  have hw0 := run_wound (base := h.length) hB0
  have hS : SpAt (h ++ [spB v0 l0 0]) h.length v0 l0 0 := SpAt.new hB0 rfl
  obtain ⟨H1, H2, T, C, R, o, cv, rv, ov, k, e1, e2, ocv, oov, orv, g2, lG1, S⟩ := run_start (base := h.length) (N := 6) (most := 5) (by simp) hS (by omega) (by omega) (by omega)
  rw [show (((6 : Nat) : Int)) = 6 from rfl] at e1
  rw [show (((5 : Nat) : Int)) = 5 from rfl] at e2
  obtain ⟨B, eB⟩ : ∃ B, B = H1 ++ [lacB T cv (.slice none 0 0)] := ⟨_, rfl⟩
  have gB : B[H1.length]? = some (lacB T cv (.slice none 0 0)) := by rw [eB]; exact get_eq rfl
  obtain ⟨H3, eH3⟩ : ∃ H3, H3 = H2.set H1.length (lacB T cv rv) := ⟨_, rfl⟩
  rw [← eB] at e2
  rw [← eH3] at S
  have xh3 : Ext h H3 := S.sp.old'
  have lh3 := xh3.len
  obtain ⟨b1, b2⟩ := S.b
  have hc := S.lac (by omega) (by omega)
  have hcl := S.bd
  have hoC := S.ord
  have hRl := S.rl
  have lhH1 : h.length + 1 ≤ H1.length := by simpa using lG1
  have hoL := S.xpl
  have hTb := S.made.tb
  obtain ⟨L, eL⟩ : ∃ L : Lac, L = ⟨T, C, R⟩ := ⟨_, rfl⟩
  have hLn : L.C.length = C.length := by rw [eL]
  have hLR : L.R.length = R.length := by rw [eL]
  have aL := S.at (by omega) (by omega)
  rw [← eL] at hc hoL aL
  have hok := chkL_iff.1 hc
  obtain ⟨n, en⟩ : ∃ n, n = C.length := ⟨_, rfl⟩
  rw [← en] at hLn hcl hoC
  obtain ⟨p1, p2, p3, p4, p5, p6, p7⟩ := found_all hc hoL
  rw [hLn] at p5 p6
  obtain ⟨os, eos⟩ : ∃ os, os = fnd L := ⟨_, rfl⟩
  rw [← eos] at p1 p5 p6 p7
  obtain ⟨D, eD⟩ : ∃ D, D = dcdL n os := ⟨_, rfl⟩
  rw [← eD] at p6
  have hD0 : D = dcdL L.C.length (fnd L) := by rw [eD, hLn, eos]
  obtain ⟨hDb, hDl, hDs⟩ := dcdL_bd (fnd_nodup (L := L)) fun o h => fnd_ord h
  rw [← hD0, hLn] at hDb hDl
  rw [← hD0] at hDs
  have hDlt := dcdL_lt hoL (by omega)
  rw [← hD0, hLn] at hDlt
  have hDn := dcdL_nil (fnd_nodup (L := L)) (fun o h => fnd_ord h) (by rw [← eos]; intro q; rw [q] at p7; simp at p7)
  rw [← hD0, ← eos] at hDn
  have hDsm : Small D := ⟨by omega, fun x hx => by have := hDb x hx; omega⟩
  obtain ⟨_, G4, e4, x4, lv, rfl, oD⟩ := run_Decide (base := h.length) (h := H3) (by omega) aL
  rw [p6] at e4 oD
  have l4 := x4.len
  have olv := oD.one
  have iD := own_ints oD hDsm
  have cA := fun base => run_Ask (base := base) (aL.ext x4)
  rw [p5] at cA
  obtain ⟨pa, a1, a2, a3, a4, a5⟩ := askN_is (n := n) (os := os) (m := n) (by omega)
  rw [a1, a3] at cA
  have cL := fun base => run_Count (base := base) (aL.ext x4)
  rw [p1] at cL
  have hso := fun base => run_sorted (base := base) iD
  rw [hDs] at hso
  have lD := lenI iD
  have hq : ((os.length : Int) = 1) = ((D.length : Int) = 0) := propext ⟨fun q => by have := hDn.2 (by omega); omega, fun q => by have := hDn.1 (by omega); omega⟩
  have iO : Ints H3 ov o := S.ints (by omega)
  obtain ⟨_, G5, e5, x5, u5, rfl, oS⟩ := run_shown (base := h.length) (h := G4) (ps := D) (by omega) (aL.ext x4) (iO.ext x4) iD (by rw [eL]; exact hTb) (by omega) (by omega) (by rw [hLn]; exact hoC) (by rw [hLn]; exact hDb) (by omega)
  rw [decide_eq_true (show L.R.length + D.length ≤ 12 by omega)] at e5
  have hSok := shown_ok hok (fnd_ord hoL) (ps := D) (by rw [hLn]; exact hDb) (by omega)
  have hcS := chkL_iff.2 hSok
  have hS1 : fnd (shwL L o D) = [o] := by rw [hD0]; exact shown_one hok hoL
  have hoS : o ∈ fnd (shwL L o D) := by rw [hS1]; simp
  obtain ⟨cw, rw', hu, oDC, oDR⟩ := oS
  have hu : u5 = .agg [.int .i64 T, cw, rw'] := by rw [hu, eL]; rfl
  subst hu
  have ocw := oDC.one
  have orw := oDR.one
  have l5 := x5.len
  obtain ⟨G6, eG6⟩ : ∃ G6, G6 = G5 ++ [lacB T cw rw'] := ⟨_, rfl⟩
  have x6 : Ext G5 G6 := by rw [eG6]; exact .app .refl
  have l6 := x6.len
  have gd6 : G6[G5.length]? = some (lacB T cw rw') := by rw [eG6]; exact get_eq rfl
  have aS : LacAt G6 (.agg [.int .i64 T, cw, rw']) (shwL L o D) := ⟨cw, rw', by rw [eL]; rfl, (ownE_ints oDC (show Small (shwL L o D).C from lac_small hcS)).ext x6, (oDR.rows (by simp [shwL, looks]; omega)).ext x6⟩
  obtain ⟨s1, s2, s3, s4, s5, s6, s7⟩ := found_all hcS hoS
  rw [hS1] at s1 s3
  obtain ⟨_, G7, e7, x7, fv, rfl, oF⟩ := run_First (base := h.length) (h := G6) (by omega) aS
  rw [s3] at e7 oF
  have oF : OwnE encI 3 G6.length G7 fv o := oF
  have l7 := x7.len
  have ofv := oF.one
  have x47 := (x4.trans (x5.trans x6)).trans x7
  have iO7 := iO.ext x47
  have hEq := fun base => run_equal (base := base) (ownE_ints oF (ord_small hoC (by omega))) iO7
  rw [decide_eq_true rfl] at hEq
  have cS := fun base => run_Count (base := base) (aS.ext x7)
  rw [s1] at cS
  have lo := lenI iO7
  rw [hoC.1] at lo
  have lo6 := lenI (iO.ext (x4.trans (x5.trans x6)))
  rw [hoC.1] at lo6
  have lD6 := lenI (iD.ext (x5.trans x6))
  have gc3 := S.g
  have gc4 := x4.get gc3
  have gd7 := x7.get gd6
  have gc7 := x47.get gc3
  have t1 : ((D.length : Int) ≥ (n : Int)) = False := eq_false (by omega)
  have t2 : (((1 : Nat) : Int) = 1) = True := eq_true rfl
  have t3 : ((([o].length : Nat) : Int) = 1) = True := eq_true rfl
  have sh := shl_one (w := T) (by omega) (by omega)
  obtain ⟨hw1, hw2⟩ := pow_le8 hTb
  obtain ⟨W, eW⟩ : ∃ W : Int, W = 2 ^ T.toNat := ⟨_, rfl⟩
  rw [← eW] at sh hw1 hw2
  have hLT : (2 : Int) ^ L.T.toNat = W := by rw [eW, eL]
  have hLC : L.C = C := by rw [eL]
  have iC7 : Ints G7 cv C := by
    have := ownE_ints S.oC (show Small C by rw [← hLC]; exact lac_small hc)
    exact this.ext x47
  have eg := eG6
  unfold lacB at eB gB g2 eH3 eG6 gd6 gd7 gc3 gc4 gc7
  refine callL_run func10 rfl rfl ?_
  have hsp := @Nat.succ_ne_zero; repeat' (first | simp (disch := first | exact dschL53 | fail) only [go_sem, ↓reduceIte, hsp, hw0, e1, ← eB, gB, e2, g2, ← eH3, gc3, e4, gc4, cA, cL, eq_self, hso, lD, hq, neB, ne_eq, not_true, decide_false, e5, ← eG6, lD6, lo6, t1, gd6, e7, hEq, gd7, cS, t3, lo] | refine WP_drw ?_ | refine cnd_intro (fun hsp => ?_) fun hsp => ?_)
  refine WP_count [(2, 2), (19, 24), (122, 183)] 0 n (Nat.zero_le _) (fun _ i fr K => fr 122 = .int .i64 (i : Int) ∧ Ext G7 K) ?_ ?_ ?_
  · exact ⟨by (simp (disch := first | exact dschL53 | fail) only [go_sem, ↓reduceIte, Int.natCast_zero]; first | done | rfl), .refl⟩
  · rintro i fr K hi0 hi hA ⟨r122, xK⟩
    have q4 := hA 4 rfl
    have q8 := hA 8 rfl
    have q9 := hA 9 rfl
    have q121 := hA 121 rfl
    try simp (disch := first | exact dschL53 | fail) only [go_sem, ↓reduceIte] at q4 q8 q9 q121
    have hlt : ((i : Int) < (n : Int)) = True := eq_true (by omega)
    have gcK := xK.get gc7
    have lK := xK.len
    have lcK : lenOpA prog K 25 cv = some (.int .i64 (n : Int)) := by rw [en]; exact lenI (iC7.ext xK)
    have w0 : AVal.int .i64 0 = .int .i64 (lvsK os i 0) := rfl
    have hsp := @Nat.succ_ne_zero; repeat' (first | simp (disch := first | exact dschL53 | fail) only [go_sem, ↓reduceIte, hsp, r122, q4, q8, q9, q121, hlt, gcK, lcK] | refine WP_drw ?_ | refine cnd_intro (fun hsp => ?_) fun hsp => ?_)
    refine WP_count [(2, 2), (20, 24), (128, 159)] 0 n (Nat.zero_le _) (fun _ j fr K => fr 128 = .int .i64 (j : Int) ∧ fr 20 = .int .i64 (lvsK os i j) ∧ Ext G7 K) ?_ ?_ ?_
    · exact ⟨by (simp (disch := first | exact dschL53 | fail) only [go_sem, ↓reduceIte, Int.natCast_zero]; first | done | rfl), by rw [← w0]; simp (disch := first | exact dschL53 | fail) only [go_sem, ↓reduceIte], xK⟩
    · rintro j fr2 K2 hj0 hj hA2 ⟨r128, r20, xK2⟩
      have d4 := hA2 4 rfl
      have d8 := hA2 8 rfl
      have d9 := hA2 9 rfl
      have d19 := hA2 19 rfl
      have d121 := hA2 121 rfl
      have d122 := hA2 122 rfl
      have d127 := hA2 127 rfl
      try simp (disch := first | exact dschL53 | fail) only [go_sem, ↓reduceIte, q4, q8, q9, q121] at d4 d8 d9 d19 d121 d122 d127
      have hlt2 : ((j : Int) < (n : Int)) = True := eq_true (by omega)
      have l2 := xK2.len
      have x2 := x47.trans xK2
      have gc2 := xK2.get gc7
      obtain ⟨_, K3, f1, y3, cx, rx, rfl, oXC, oXR⟩ := run_own (base := h.length) (h := K2) (by omega) (aL.ext x2) (by omega) (by omega)
      rw [show L.T = T by rw [eL]] at f1
      have l3 := y3.len
      have ocx := oXC.one
      have orx := oXR.one
      obtain ⟨K4, eK4⟩ : ∃ K4, K4 = K3 ++ [lacB T cx rx] := ⟨_, rfl⟩
      have y4 : Ext K3 K4 := by rw [eK4]; exact .app .refl
      have l4' := y4.len
      have gx4 : K4[K3.length]? = some (lacB T cx rx) := by rw [eK4]; exact get_eq rfl
      have gc4' := (y3.trans y4).get gc2
      have iC4 := iC7.ext (xK2.trans (y3.trans y4))
      have aj := adrI (i := (j : Int)) (by omega) iC4 (by omega)
      rw [Int.toNat_natCast] at aj
      have lj := loadI iC4 (i := j) (by omega)
      obtain ⟨c, ec⟩ : ∃ c, c = C.getD j 0 := ⟨_, rfl⟩
      rw [← ec] at lj
      have bs : ∀ {lit : Bool}, bsA prog lit K4 42 1 [(0, .agg [.int .i64 (i : Int), .int .i64 (W - 1), .int .i64 c])] = some (.slice (some ⟨K4.length, 0, 0⟩) 1 1, K4 ++ [rowE encR 70 [((i : Int), W - 1, c)] 0]) := fun {lit} => bsR1 (r := ((i : Int), W - 1, c))
      obtain ⟨w', K5, f2, oW, l5', eW5, oneW, kW⟩ := snocR (base := h.length) (r := ((i : Int), W - 1, c)) (oXR.ext y4) (by omega) (by omega) (by omega)
      have gx5 := kW.box gx4
      obtain ⟨K6, eK6⟩ : ∃ K6, K6 = K5.set K3.length (lacB T cx w') := ⟨_, rfl⟩
      have gx6 : K6[K3.length]? = some (lacB T cx w') := by rw [eK6, List.getElem?_set_self (lt_of_get gx5)]
      have hlk : ((i : Int), W - 1, c) = lookR L i j := by unfold lookR; rw [hLT, hLC, ec]
      have oW6 : OwnE encR 70 K2.length K6 w' (moreR L (lookR L i j)).R := by
        rw [← hlk, eK6]
        exact OwnE.setBox (.inl oW) gx5
      have oC6 : OwnE encI 3 K2.length K6 cx L.C := by rw [eK6]; exact (kW.ownE (oXC.ext y4) (by decide)).setBox gx5
      have hlok := look_ok hok (p := i) (k := j) (by omega) (by omega) (by omega)
      have hcX := chkL_iff.2 hlok
      have aX : LacAt K6 (.agg [.int .i64 T, cx, w']) (moreR L (lookR L i j)) := ⟨cx, w', by rw [eL]; rfl, ownE_ints oC6 (show Small L.C from lac_small hc), oW6.rows (by simp [moreR]; omega)⟩
      have cX := fun base => run_Count (base := base) aX
      rw [cnt_ok hcX, fnd_look_len hok (by omega) (by omega), ← eos] at cX
      have x6' : Ext G7 K6 := by
        rw [eK6]
        exact Ext.set (xK2.trans (eW5 _ (Nat.le_refl _) (y3.trans y4))) (by omega)
      have hmx := lvsK_succ (os := os) (p := i) (k := j)
      obtain ⟨m, em⟩ : ∃ m : Int, m = ((os.countP fun o => decide (o.getD i 0 = (j : Int)) : Nat) : Int) := ⟨_, rfl⟩
      rw [← em] at cX hmx
      unfold lacB at gc2 eK4 gx4 gc4' gx5 eK6 gx6
      have hsp := @Nat.succ_ne_zero; repeat' (first | simp (disch := first | exact dschL53 | fail) only [go_sem, ↓reduceIte, hsp, r128, r20, d4, d8, d9, d19, d121, d122, d127, q4, q8, q9, q121, r122, hlt2, gc2, f1, ← eK4, gx4, gc4', sh, aj, lj, bs, f2, gx5, ← eK6, gx6, cX, eq_self, ← hmx] | refine WP_drw ?_ | refine cnd_intro (fun hsp => ?_) fun hsp => ?_)
      exact ⟨by (repeat first | exact Agree.refl | assumption | refine Agree.put rfl ?_ | refine Agree.put0 ?_ | refine Agree.sub rfl (by assumption) ?_), by omega, x6'⟩
    · rintro fr2 K2 hA2 ⟨r128, r20, xK2⟩
      have d4 := hA2 4 rfl
      have d8 := hA2 8 rfl
      have d9 := hA2 9 rfl
      have d19 := hA2 19 rfl
      have d121 := hA2 121 rfl
      have d122 := hA2 122 rfl
      have d127 := hA2 127 rfl
      try simp (disch := first | exact dschL53 | fail) only [go_sem, ↓reduceIte, q4, q8, q9, q121] at d4 d8 d9 d19 d121 d122 d127
      have hlt2 : ((n : Int) < (n : Int)) = False := eq_false (by omega)
      rw [lvsK_all] at r20
      have hge := a4 i hi
      have u1 : (lvsN n os i < lvsN n os pa) = False := eq_false (by omega)
      rcases Nat.lt_trichotomy i pa with c | c | c
      · have u2 : ((i : Int) < (pa : Int)) = True := eq_true (by omega)
        have hgt := a5 i c
        have u3 : (lvsN n os i = lvsN n os pa) = False := eq_false (by omega)
        have u4 : ((i : Int) = (pa : Int)) = False := eq_false (by omega)
        have hsp := @Nat.succ_ne_zero; repeat' (first | simp (disch := first | exact dschL53 | fail) only [go_sem, ↓reduceIte, hsp, r128, r20, d4, d8, d9, d19, d121, d122, d127, q4, q8, q9, q121, r122, hlt2, u1, u2, u3, u4] | refine WP_drw ?_ | refine cnd_intro (fun hsp => ?_) fun hsp => ?_)
        exact ⟨by (repeat first | exact Agree.refl | assumption | refine Agree.put rfl ?_ | refine Agree.put0 ?_ | refine Agree.sub rfl (by assumption) ?_), by omega, xK2⟩
      · subst c
        have u2 : ((i : Int) < (i : Int)) = False := eq_false (by omega)
        have hsp := @Nat.succ_ne_zero; repeat' (first | simp (disch := first | exact dschL53 | fail) only [go_sem, ↓reduceIte, hsp, r128, r20, d4, d8, d9, d19, d121, d122, d127, q4, q8, q9, q121, r122, hlt2, u1, u2, eq_self] | refine WP_drw ?_ | refine cnd_intro (fun hsp => ?_) fun hsp => ?_)
        exact ⟨by (repeat first | exact Agree.refl | assumption | refine Agree.put rfl ?_ | refine Agree.put0 ?_ | refine Agree.sub rfl (by assumption) ?_), by omega, xK2⟩
      · have u2 : ((i : Int) < (pa : Int)) = False := eq_false (by omega)
        have u4 : ((i : Int) = (pa : Int)) = False := eq_false (by omega)
        have hsp := @Nat.succ_ne_zero; repeat' (first | simp (disch := first | exact dschL53 | fail) only [go_sem, ↓reduceIte, hsp, r128, r20, d4, d8, d9, d19, d121, d122, d127, q4, q8, q9, q121, r122, hlt2, u1, u2, u4] | refine WP_drw ?_ | refine cnd_intro (fun hsp => ?_) fun hsp => ?_)
        exact ⟨by (repeat first | exact Agree.refl | assumption | refine Agree.put rfl ?_ | refine Agree.put0 ?_ | refine Agree.sub rfl (by assumption) ?_), by omega, xK2⟩
  · rintro fr K hA ⟨r122, xK⟩
    have q4 := hA 4 rfl
    have q8 := hA 8 rfl
    have q9 := hA 9 rfl
    have q121 := hA 121 rfl
    try simp (disch := first | exact dschL53 | fail) only [go_sem, ↓reduceIte] at q4 q8 q9 q121
    have hlt : ((n : Int) < (n : Int)) = False := eq_false (by omega)
    have haw := fun base => run_awake (base := base) (h := K)
    have hsp := @Nat.succ_ne_zero; repeat' (first | simp (disch := first | exact dschL53 | fail) only [go_sem, ↓reduceIte, hsp, r122, q4, q8, q9, q121, hlt, haw] | refine WP_drw ?_ | refine cnd_intro (fun hsp => ?_) fun hsp => ?_)
    exact fB rfl (xh3.trans (x47.trans xK))
end Go.AM
