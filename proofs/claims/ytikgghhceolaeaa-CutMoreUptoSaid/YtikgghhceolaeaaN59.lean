/-
  CutMore, walked.
-/
import Derived.Test.YtikgghhceolaeaaU20
set_option linter.unusedSimpArgs false
set_option linter.unusedVariables false
namespace Go.AM
open Go.Proofs.Try
theorem dschN59 {p : Prop} (h : p := by first | exact Nat.ne_of_beq_eq_false rfl | assumption | (apply asOne; (first | exact One.int | exact One.bool | assumption | exact Ints.one (by assumption) | exact Rows.one (by assumption) | exact Own.one (by assumption) | exact One.lit ⟨rfl, rfl, rfl⟩)) | (apply asSp; (repeat first | assumption | apply SpAt.set | (refine SpAt.new ?_ (by (first | rfl | (simp only [List.length_append, List.length_cons, List.length_nil, List.length_set]; done) | (simp only [List.length_append, List.length_cons, List.length_nil, List.length_set]; omega)))) | apply SpAt.app | apply Bytes.app); done) | (apply asBytes; (repeat first | assumption | apply Bytes.app); done) | (apply asInts; (repeat first | assumption | exact ints_nil | apply Ints.app); done) | (apply asRows; (repeat first | assumption | exact Rows.nil | apply Rows.app); done) | (apply asScal; (first | apply allS1 | apply allS2 | apply allS3 | apply allS4) <;> (first | exact One.int | exact One.bool | assumption | exact Ints.one (by assumption) | exact Rows.one (by assumption) | exact Own.one (by assumption) | exact One.lit ⟨rfl, rfl, rfl⟩)) | exact litT rfl | exact litF rfl | omega | (simp only [List.length_append, List.length_cons, List.length_nil, List.length_set, List.length_reverse]; first | done | omega) | fail) : p := h
attribute [-go_sem] put_ne put_same
attribute [local go_sem ↓] put_if
theorem stN59 {base : Nat} {l : List Oper} {s : St} {Q : AExit → St → Prop} : WP prog raw base (.region 7 l.toArray true) s Q = WPS prog raw base (.region 7 l.toArray true) s Q := WP_stop
attribute [local go_sem ↓ 3000] stN59
set_option maxRecDepth 100000 in
set_option maxHeartbeats 8000000 in
theorem run_CutMore {base : Nat} {h : Heap} {v0 : AVal} {l0 : List Int} {n1 n2 : Int} (hB0 : Bytes h v0 l0) (q1 : 0 ≤ n1 ∧ n1 ≤ 255) (q2 : 0 ≤ n2 ∧ n2 ≤ 255) :
    callL prog raw base (.fn 4 [] []) [v0, .int .u8 n1, .int .u8 n2] h = some (.bool true, h) := by
  have o0 := hB0.one
  have hw0 := run_wound (base := h.length) hB0
  obtain ⟨H0, eH0⟩ : ∃ H0, H0 = h ++ [spB v0 l0 0] := ⟨_, rfl⟩
  rw [← eH0] at hw0
  have hS : SpAt H0 h.length v0 l0 0 := by rw [eH0]; exact SpAt.new hB0 rfl
  have l00 : H0.length = h.length + 1 := by rw [eH0]; simp
  have x00 : Ext h H0 := by rw [eH0]; exact .app .refl
  obtain ⟨_, H1, e1, L, F, W, fv, wv, k1, rfl, hk1, p1, oF, oW, hR, hLA, hFn, hWn⟩ := run_LMadeD (base := h.length) (A := 40) (B := 10) (D := 5) (by omega) hS (by omega) (by omega) (by omega) (by omega)
  have xh1 : Ext h H1 := Ext.trans (x00.set (Nat.le_refl _)) p1
  have lH1 := p1.len
  have ofv := oF.one
  have owv := oW.one
  obtain ⟨R, eR⟩ : ∃ R : Rib, R = ⟨L, F, W⟩ := ⟨_, rfl⟩
  rw [← eR] at hR
  have hL := hR.L
  have hnF := hR.nF
  have hnW := hR.nW
  have hrF := hR.F
  have eL : L = R.L := by rw [eR]
  have eF : F = R.F := by rw [eR]
  have eW : W = R.W := by rw [eR]
  have eRR : (⟨R.L, R.F, R.W⟩ : Rib) = R := rfl
  subst eL eF eW
  clear eR
  obtain ⟨G, eG⟩ : ∃ G, G = H1 ++ [ribB R.L fv wv] := ⟨_, rfl⟩
  have xG : Ext H1 G := by rw [eG]; exact .app .refl
  have gG : G[H1.length]? = some (ribB R.L fv wv) := by rw [eG]; exact get_eq rfl
  have lG : G.length = H1.length + 1 := by rw [eG]; simp
  have aG : RibAt G (.agg [.int .i64 R.L, fv, wv]) R := rib_own hR (.inl (oF.ext xG)) (.inl (oW.ext xG))
  have hc := chkR_iff.2 hR
  obtain ⟨_, Z1, c1, z1, u1, rfl, oB⟩ := run_Best (base := h.length) (h := G) (by omega) aG (by omega)
  have m1 := z1.len
  have ou1 := oB.one
  have ea : allE R = valD R 0 := by unfold allE; rw [if_neg (fun q => q hc)]
  rw [ea, hc] at c1
  obtain ⟨vD, evD⟩ : ∃ vD, vD = valD R 0 := ⟨_, rfl⟩
  rw [← evD] at c1
  have g1 := z1.get gG
  obtain ⟨_, Z2, c2, z2, fw, ww, rfl, of1, ow1⟩ := run_own (base := h.length) (h := Z1) (by omega) (aG.ext z1) (by omega) (by omega)
  have m2 := z2.len
  have g2 := z2.get g1
  obtain ⟨_, Z3, c3, z3, fl, wl, rfl, of2, ow2⟩ := run_own (base := h.length) (h := Z2) (by omega) (aG.ext (z1.trans z2)) (by omega) (by omega)
  have m3 := z3.len
  have ofw := of1.one
  have oww := ow1.one
  have ofl := of2.one
  have owl := ow2.one
  have hwlow : ∀ r n c, ww = .slice (some r) n c → r.id < Z2.length := by
    rintro r n c rfl
    rcases ow1 with (⟨q, _⟩ | ⟨i, v, q, gi, _⟩) | ⟨q, _⟩
    · cases q
    · cases q; exact lt_of_get gi
    · cases q
  obtain ⟨G4, eG4⟩ : ∃ G4, G4 = Z3 ++ [ribB R.L fw ww] ++ [ribB R.L fl wl] := ⟨_, rfl⟩
  have x34 : Ext Z3 G4 := by rw [eG4]; exact .app (.app .refl)
  have lG4 : G4.length = Z3.length + 2 := by rw [eG4]; simp
  have gA : G4[Z3.length]? = some (ribB R.L fw ww) := by rw [eG4]; exact get_app (get_eq rfl)
  have gB : G4[Z3.length + 1]? = some (ribB R.L fl wl) := by rw [eG4]; exact get_eq (by simp)
  have gR4 := x34.get (z3.get g2)
  -- the spool, from Z1 on
  have p2 : SpE H0 h.length v0 l0 k1 Z1 := (p1.ext xG).ext z1
  have hS1 := p2.at hS
  have hid : h.length < Z1.length := by omega
  have y0 : SpE Z1 h.length v0 l0 k1 G4 := (((SpE.refl hS1).ext z2).ext z3).ext x34
  have ub1 := up_bd (silk := l0) (k := k1) (n := (9 - 1)) (by omega)
  have e4 := fun base => run_from (base := base) (lo := 1) (hi := 9) (y0.at hS1) (by omega) (by omega) (by omega)
  obtain ⟨w1, ew1⟩ : ∃ w1, w1 = 1 + up l0 k1 (9 - 1) := ⟨_, rfl⟩
  rw [← ew1] at e4
  obtain ⟨M1, eM1⟩ : ∃ M1, M1 = G4.set h.length (spB v0 l0 (k1 + 1)) := ⟨_, rfl⟩
  rw [← eM1] at e4
  have y1 : SpE Z1 h.length v0 l0 (k1 + 1) M1 := by rw [eM1]; exact y0.step hid
  have gA1 : M1[Z3.length]? = some (ribB R.L fw ww) := by rw [eM1, List.getElem?_set_ne (by omega)]; exact gA
  have ub2 := up_bd (silk := l0) (k := k1 + 1) (n := 40) (by omega)
  have e5 := fun base => run_upto (base := base) (n := 40) (y1.at hS1) (by omega) (by omega)
  obtain ⟨w2, ew2⟩ : ∃ w2, w2 = up l0 (k1 + 1) 40 := ⟨_, rfl⟩
  rw [← ew2] at e5
  obtain ⟨M2, eM2⟩ : ∃ M2, M2 = M1.set h.length (spB v0 l0 (k1 + 1 + 1)) := ⟨_, rfl⟩
  rw [← eM2] at e5
  have y2 : SpE Z1 h.length v0 l0 (k1 + 1 + 1) M2 := by rw [eM2]; exact y1.step hid
  have gA2 : M2[Z3.length]? = some (ribB R.L fw ww) := by rw [eM2, List.getElem?_set_ne (by omega)]; exact gA1
  have ub3 := up_bd (silk := l0) (k := k1 + 1 + 1) (n := 8) (by omega)
  have e6 := fun base => run_upto (base := base) (n := 8) (y2.at hS1) (by omega) (by omega)
  obtain ⟨w3, ew3⟩ : ∃ w3, w3 = up l0 (k1 + 1 + 1) 8 := ⟨_, rfl⟩
  rw [← ew3] at e6
  obtain ⟨M3, eM3⟩ : ∃ M3, M3 = M2.set h.length (spB v0 l0 (k1 + 1 + 1 + 1)) := ⟨_, rfl⟩
  rw [← eM3] at e6
  have y3 : SpE Z1 h.length v0 l0 (k1 + 1 + 1 + 1) M3 := by rw [eM3]; exact y2.step hid
  have gA3 : M3[Z3.length]? = some (ribB R.L fw ww) := by rw [eM3, List.getElem?_set_ne (by omega)]; exact gA2
  have ub4 := up_bd (silk := l0) (k := k1 + 1 + 1 + 1) (n := 2) (by omega)
  have e7 := fun base => run_upto (base := base) (n := 2) (y3.at hS1) (by omega) (by omega)
  obtain ⟨w4, ew4⟩ : ∃ w4, w4 = up l0 (k1 + 1 + 1 + 1) 2 := ⟨_, rfl⟩
  rw [← ew4] at e7
  obtain ⟨M4, eM4⟩ : ∃ M4, M4 = M3.set h.length (spB v0 l0 (k1 + 1 + 1 + 1 + 1)) := ⟨_, rfl⟩
  rw [← eM4] at e7
  have y4 : SpE Z1 h.length v0 l0 (k1 + 1 + 1 + 1 + 1) M4 := by rw [eM4]; exact y3.step hid
  have gA4 : M4[Z3.length]? = some (ribB R.L fw ww) := by rw [eM4, List.getElem?_set_ne (by omega)]; exact gA3
  have eM : M4 = G4.set h.length (spB v0 l0 (k1 + 1 + 1 + 1 + 1)) := by rw [eM4, eM3, eM2, eM1, List.set_set, List.set_set, List.set_set]
  have lM4 : M4.length = Z3.length + 2 := by rw [eM, List.length_set, lG4]
  have gB4 : M4[Z3.length + 1]? = some (ribB R.L fl wl) := by rw [eM, List.getElem?_set_ne (by omega)]; exact gB
  have gR5 : M4[H1.length]? = some (ribB R.L fv wv) := by rw [eM, List.getElem?_set_ne (by omega)]; exact gR4
  have setE : ∀ {α : Type} {E2 : Enc α} {e2 b2 : Nat} {v2 : AVal} {l2 : List α}, h.length < b2 → OwnE E2 e2 b2 G4 v2 l2 → OwnE E2 e2 b2 M4 v2 l2 := fun hb q => by rw [eM]; exact q.imp (fun z => z.set hb) id
  have w4o := setE (by omega) ((ow1.ext z3).ext x34)
  have f4o := setE (by omega) (((of1.ext z3).ext x34))
  have w4l := setE (by omega) (ow2.ext x34)
  have f4l := setE (by omega) (of2.ext x34)
  obtain ⟨wr, ewr⟩ : ∃ wr : Wnt, wr = ⟨w1, w2, w3, 0, w4⟩ := ⟨_, rfl⟩
  have hwr : WntOk wr := by rw [ewr]; exact ⟨by simp only; omega, by simp only; omega, by simp only; omega, by simp only; omega, by simp only; omega⟩
  have bsw : ∀ {lit : Bool}, bsA prog lit M4 23 1 [(0, .agg [.int .i64 w1, .int .i64 w2, .int .i64 w3, .int .i64 0, .int .i64 w4])] = some (.slice (some ⟨M4.length, 0, 0⟩) 1 1, M4 ++ [rowE encW 49 [wr] 0]) := fun {lit} => by
    rw [ewr]; exact bsWW1 (w := ⟨w1, w2, w3, 0, w4⟩)
  obtain ⟨w', M6, e8, ow6, l6, ex6, one6, kw6, oth6⟩ := snocWE (base := h.length) (r := wr) w4o (by omega) (by omega) (by omega)
  have gA6 := kw6.box gA4
  have gB6 := kw6.box gB4
  have gR6 := kw6.box gR5
  have f6o := kw6.ownE f4o (by decide)
  have f6l := kw6.ownE f4l (by decide)
  have w6l := oth6 w4l hwlow
  have y6 : SpE Z1 h.length v0 l0 (k1 + 1 + 1 + 1 + 1) M6 := ex6 _ (by rw [List.length_set]; omega) y4
  obtain ⟨N1, eN1⟩ : ∃ N1, N1 = M6.set Z3.length (ribB R.L fw w') := ⟨_, rfl⟩
  obtain ⟨N0, eN0⟩ : ∃ N0, N0 = N1.set (Z3.length + 1) (ribB (R.L + 1) fl wl) := ⟨_, rfl⟩
  have lN1 : N1.length = M6.length := by rw [eN1, List.length_set]
  have lN0 : N0.length = M6.length := by rw [eN0, List.length_set, lN1]
  have gA7 : N1[Z3.length]? = some (ribB R.L fw w') := by rw [eN1, List.getElem?_set_self (by omega)]
  have gB7 : N1[Z3.length + 1]? = some (ribB R.L fl wl) := by rw [eN1, List.getElem?_set_ne (by omega)]; exact gB6
  have gA8 : N0[Z3.length]? = some (ribB R.L fw w') := by rw [eN0, List.getElem?_set_ne (by omega)]; exact gA7
  have gB8 : N0[Z3.length + 1]? = some (ribB (R.L + 1) fl wl) := by rw [eN0, List.getElem?_set_self (by omega)]
  have gR8 : N0[H1.length]? = some (ribB R.L fv wv) := by rw [eN0, List.getElem?_set_ne (by omega), eN1, List.getElem?_set_ne (by omega)]; exact gR6
  have y8 : SpE Z1 h.length v0 l0 (k1 + 1 + 1 + 1 + 1) N0 := by
    rw [eN0, eN1]
    exact Ext.set (Ext.set y6 (by rw [List.length_set]; omega)) (by rw [List.length_set]; omega)
  have xhN : Ext h N0 := (((xh1.trans xG).trans z1).set (Nat.le_refl _)).trans y8
  have boxE : ∀ {α : Type} {E2 : Enc α} {e2 b2 : Nat} {v2 : AVal} {l2 : List α}, OwnE E2 e2 b2 M6 v2 l2 → OwnE E2 e2 b2 N0 v2 l2 := fun q => by
    rw [eN0]
    exact OwnE.setBox (by rw [eN1]; exact q.setBox gA6) gB7
  have aN : RibAt N0 (.agg [.int .i64 R.L, fv, wv]) R := rib_own hR (.inl (Own.ext ((oF.ext (xG.trans z1)).set (by omega)) y8)) (.inl (Own.ext ((oW.ext (xG.trans z1)).set (by omega)) y8))
  have hR1 : RibOk ⟨R.L, R.F, R.W ++ [wr]⟩ := ⟨hL, hnF, by simp; omega, fun y hy => by
    rcases List.mem_append.1 hy with q | q
    · exact hR.W y q
    · rw [List.mem_singleton] at q; rw [q]; exact hwr, hrF, hR.s⟩
  have hR2 : RibOk ⟨R.L + 1, R.F, R.W⟩ := ⟨by simp only; omega, hnF, hnW, hR.W, fun y hy => by have := hrF y hy; simp only; omega, hR.s⟩
  have gx1 : GoodX Z1.length vD N0 ⟨R.L, ⟨fw, ownE_sc f6o⟩, ⟨w', ownE_sc ow6⟩⟩ := ⟨⟨R.L, R.F, R.W ++ [wr]⟩, rfl, boxE f6o, boxE ow6, hR1, by rw [evD]; exact valD_want (w := wr) hR hR1⟩
  have gx2 : GoodX Z1.length vD N0 ⟨R.L + 1, ⟨fl, ownE_sc f6l⟩, ⟨wl, ownE_sc w6l⟩⟩ := ⟨⟨R.L + 1, R.F, R.W⟩, rfl, (boxE f6l).low (by omega), (boxE w6l).low (by omega), hR2, by rw [evD]; exact valD_long hR hR2⟩
  obtain ⟨x1, ex1⟩ : ∃ x1 : RX, x1 = ⟨R.L, ⟨fw, ownE_sc f6o⟩, ⟨w', ownE_sc ow6⟩⟩ := ⟨_, rfl⟩
  obtain ⟨x2, ex2⟩ : ∃ x2 : RX, x2 = ⟨R.L + 1, ⟨fl, ownE_sc f6l⟩, ⟨wl, ownE_sc w6l⟩⟩ := ⟨_, rfl⟩
  have bs2 := fun lit => bsX2 (lit := lit) (H := N0) (x := x1) (y := x2)
  obtain ⟨P0, eP0⟩ : ∃ P0, P0 = N0 ++ [rowE encX 25 [x1, x2] 0] := ⟨_, rfl⟩
  have xP : Ext N0 P0 := by rw [eP0]; exact .app .refl
  have oP : Own encX 25 N0.length P0 (.slice (some ⟨N0.length, 0, 0⟩) 2 2) [x1, x2] := .inr ⟨N0.length, 0, rfl, by rw [eP0]; exact get_eq rfl, Nat.le_refl _, by simp⟩
  rw [← eP0] at bs2
  rw [ex1, ex2] at bs2
  simp only at bs2
  rw [← ex1] at gx1
  rw [← ex2] at gx2
  have hgP : ∀ x ∈ [x1, x2], GoodX Z1.length vD P0 x := fun x hx => by
    rcases List.mem_cons.1 hx with rfl | hx
    · exact gx1.ext xP
    · rw [List.mem_singleton] at hx; rw [hx]; exact gx2.ext xP
  have hlow : refsLow G4.length ww := ownE_low ((ow1.ext z3).ext x34)
  obtain ⟨fv', wv', eqv, iFN, iWN⟩ := id aN
  simp only [AVal.agg.injEq, List.cons.injEq, and_true, true_and] at eqv
  obtain ⟨rfl, rfl⟩ := eqv
  have hnw := (iWN.ext xP).len (P := prog) Fc.el23
  unfold ribB at gG g1 g2 eG eG4 gA gA1 gA2 gA3 gA4 gA6 gB gA7 gB7 gA8 gB8 gR8 eN1 eN0
  refine callL_run func4 rfl rfl ?_
  have hsp := @Nat.succ_ne_zero; repeat' (first | simp (disch := first | exact dschN59 | fail) only [go_sem, ↓reduceIte, hsp, hw0, e1, ← eG, gG, c1, ne_eq, not_true, decide_false, eq_self, Bool.not_true, g1, c2, g2, c3, ← eG4] | refine WP_drw ?_ | refine cnd_intro (fun hsp => ?_) fun hsp => ?_)
  refine WPS_go ?_
  refine WP_wild [⟨1, 23, 43, ⟨Z3.length, 0, 2⟩, ww, 12⟩] (by kernel_rfl) (by kernel_rfl) (by kernel_rfl) ⟨hlow, trivial⟩ fun KK hK => ?_
  iterate 15
    rw [TRS_cons]
    refine ⟨by first | (simp (disch := first | exact dschN59 | fail) only [go_sem, ↓reduceIte, gA, e4, gA1, e5, gA2, e6, gA3, e7, gA4, bsw, e8, gA6, ← eN1, ldsQ_cons, ldsQ_nil, grdQ_cons, grdQ_nil, if_true, Nat.reduceLeDiff]; done) | exact trivial, ?_⟩
    simp (disch := first | exact dschN59 | fail) only [go_sem, ↓reduceIte, gA, e4, gA1, e5, gA2, e6, gA3, e7, gA4, bsw, e8, gA6, ← eN1]
  rw [TRS_nil]
  refine ⟨by first | (simp (disch := first | exact dschN59 | fail) only [go_sem, ↓reduceIte, gA, e4, gA1, e5, gA2, e6, gA3, e7, gA4, bsw, e8, gA6, ← eN1, ldsQ_cons, ldsQ_nil, grdQ_cons, grdQ_nil, if_true, Nat.reduceLeDiff]; done) | exact trivial, ?_⟩
  subst hK
  have gRP := xP.get gR8
  have lP0 : P0.length = N0.length + 1 := by rw [eP0]; simp
  have oone : One (.slice (some ⟨N0.length, 0, 0⟩) 2 2) := ⟨rfl, rfl, rfl⟩
  by_cases cW : R.W = []
  · have t1 : ((R.W.length : Int) > 0) = False := eq_false (by rw [cW]; simp)
    obtain ⟨lv, elv⟩ : ∃ lv : AVal, lv = .slice (some ⟨N0.length, 0, 0⟩) 2 2 := ⟨_, rfl⟩
    obtain ⟨xs, exs⟩ : ∃ xs, xs = [x1, x2] := ⟨_, rfl⟩
    obtain ⟨Y, eY⟩ : ∃ Y, Y = P0 := ⟨_, rfl⟩
    rw [← elv, ← exs, ← eY] at oP
    rw [← exs, ← eY] at hgP
    have xY : Ext N0 Y := by rw [eY]; exact xP
    have hxl : xs.length ≤ 6 := by rw [exs]; simp
    rw [← eY] at bs2 gRP hnw
    rw [← elv] at bs2
    have hlx := own_len oP Fc.el50 (by omega)
    have olv := oP.one
    have hsp := @Nat.succ_ne_zero; repeat' (first | simp (disch := first | exact dschN59 | fail) only [go_sem, ↓reduceIte, hsp, ← eN1, gA7, gB7, ← eN0, gA8, gB8, bs2, gRP, hnw, t1, hlx] | refine WP_drw ?_ | refine cnd_intro (fun hsp => ?_) fun hsp => ?_)
    refine WP_count [(6, 6), (21, 26), (140, 172)] 0 xs.length (Nat.zero_le _) (fun _ j fr K => fr 140 = .int .i64 (j : Int) ∧ Ext Y K) ?_ ?_ ?_
    · exact ⟨by (simp (disch := first | exact dschN59 | fail) only [go_sem, ↓reduceIte, Int.natCast_zero]; first | done | rfl), .refl⟩
    · rintro j fr K hj0 hj hA3 ⟨r140, xK⟩
      have z10 := hA3 10 rfl
      have z138 := hA3 138 rfl
      have z139 := hA3 139 rfl
      try simp (disch := first | exact dschN59 | fail) only [go_sem, ↓reduceIte] at z10 z138 z139
      have hlt3 : ((j : Int) < (xs.length : Int)) = True := eq_true (by omega)
      have lK := xK.len
      have lY := xY.len
      obtain ⟨x, ex⟩ : ∃ x, xs[j]? = some x := ⟨_, List.getElem?_eq_getElem hj⟩
      have rX := (oP.rows (by omega)).ext xK
      have hgx := (hgP x (List.mem_of_getElem? ex)).ext xK
      obtain ⟨a, ⟨f, hf⟩, ⟨g, hg⟩⟩ := x
      obtain ⟨R', b1, b2, b3, b4, b5⟩ := hgx
      simp only at b1 b2 b3
      subst b1
      have of_ := b2.one
      have og_ := b3.one
      have ad := rX.addr (P := prog) (i := (j : Int)) Fc.el50 Fc.ar50 (by omega) (by omega)
      rw [Int.toNat_natCast] at ad
      have ld : loadP prog K 25 (elAdr lv encX.z j 0) = some (.agg [.int .i64 R'.L, f, g]) := rX.load (P := prog) Fc.ty25 ex
      have hc' := chkR_iff.2 b4
      have hL' := b4.L
      have hnF' := b4.nF
      obtain ⟨K1, eK1⟩ : ∃ K1, K1 = K ++ [ribB R'.L f g] := ⟨_, rfl⟩
      have x1' : Ext K K1 := by rw [eK1]; exact .app .refl
      have gK1 : K1[K.length]? = some (ribB R'.L f g) := by rw [eK1]; exact get_eq rfl
      have lK1 : K1.length = K.length + 1 := by rw [eK1]; simp
      have aR' := (rib_own b4 b2 b3).ext x1'
      obtain ⟨_, K2, d1, y2', u2, rfl, oB2⟩ := run_Best (base := h.length) (h := K1) (by omega) aR' (by omega)
      have ou2 := oB2.one
      have ea' : allE R' = valD R' 0 := by unfold allE; rw [if_neg (fun q => q hc')]
      have eb' : bstE false R' = pthL false R' R'.L.toNat 0 := by unfold bstE; rw [if_neg (fun q => q hc')]
      rw [ea', hc'] at d1
      rw [eb'] at oB2
      obtain ⟨p1', n1'⟩ := pthL_ok (b := false) b4 R'.L.toNat 0 0 0 (by omega) (by omega) (by omega)
      rw [folD_e b4 (by omega), Int.zero_add] at p1'
      have fb1 := folD_bd (b := false) (x := 0) b4
      have d2 := fun base => run_learned (base := base) (aR'.ext y2') b4 (oB2.rows (by omega))
      rw [p1'] at d2
      simp only [decide_true] at d2
      have gK2 := y2'.get gK1
      have tl : (valD R' 0 < vD) = False := eq_false (by omega)
      unfold ribB at eK1 gK1 gK2
      have hsp := @Nat.succ_ne_zero; repeat' (first | simp (disch := first | exact dschN59 | fail) only [go_sem, ↓reduceIte, hsp, r140, z10, z138, z139, hlt3, ad, ld, ← eK1, gK1, d1, gK2, d2, ne_eq, not_true, decide_false, eq_self, tl, Bool.not_true] | refine WP_drw ?_ | refine cnd_intro (fun hsp => ?_) fun hsp => ?_)
      exact ⟨by (repeat first | exact Agree.refl | assumption | refine Agree.put rfl ?_ | refine Agree.put0 ?_ | refine Agree.sub rfl (by assumption) ?_), by omega, xK.trans (x1'.trans y2')⟩
    · rintro fr K hA3 ⟨r140, xK⟩
      have z10 := hA3 10 rfl
      have z138 := hA3 138 rfl
      have z139 := hA3 139 rfl
      try simp (disch := first | exact dschN59 | fail) only [go_sem, ↓reduceIte] at z10 z138 z139
      have hlt3 : ((xs.length : Int) < (xs.length : Int)) = False := eq_false (by omega)
      have haw := fun base => run_awake (base := base) (h := K)
      have hsp := @Nat.succ_ne_zero; repeat' (first | simp (disch := first | exact dschN59 | fail) only [go_sem, ↓reduceIte, hsp, r140, z10, z138, z139, hlt3, haw] | refine WP_drw ?_ | refine cnd_intro (fun hsp => ?_) fun hsp => ?_)
      exact fB rfl (xhN.trans (xY.trans xK))
  · have t1 : ((R.W.length : Int) > 0) = True := eq_true (by have := List.length_pos_iff.2 cW; omega)
    have hW0 := List.length_pos_iff.2 cW
    obtain ⟨kk, ekk⟩ : ∃ kk : Nat, n1.tmod (R.W.length : Int) = (kk : Int) := by
      refine Int.eq_ofNat_of_zero_le ?_
      rw [Int.tmod_eq_emod_of_nonneg q1.1]
      exact Int.emod_nonneg _ (by omega)
    have hkk : kk < R.W.length := by
      have := Int.emod_lt_of_pos n1 (show 0 < (R.W.length : Int) by omega)
      rw [Int.tmod_eq_emod_of_nonneg q1.1] at ekk
      omega
    have mr : binA prog .rem 3 (.int .i64 n1) (.int .i64 (R.W.length : Int)) = some (.int .i64 (kk : Int)) := by rw [bin_rem (by omega), ekk]
    have mr2 : binA prog .rem 3 (.int .i64 n2) (.int .i64 20) = some (.int .i64 (n2.tmod 20)) := bin_rem (by omega)
    obtain ⟨by_, eby⟩ : ∃ b, b = n2.tmod 20 := ⟨_, rfl⟩
    rw [← eby] at mr2
    have hby : 0 ≤ by_ ∧ by_ < 20 := by
      rw [eby, Int.tmod_eq_emod_of_nonneg q2.1]
      exact ⟨Int.emod_nonneg _ (by omega), Int.emod_lt_of_pos _ (by omega)⟩
    obtain ⟨w, hwk⟩ : ∃ w, R.W[kk]? = some w := ⟨_, List.getElem?_eq_getElem hkk⟩
    have hwo0 := hR.W w (List.mem_of_getElem? hwk)
    obtain ⟨a1, a2, a3, a4, a5⟩ := hwo0
    have hWsz := hnW
    have hsp := @Nat.succ_ne_zero; repeat' (first | simp (disch := first | exact dschN59 | fail) only [go_sem, ↓reduceIte, hsp, ← eN1, gA7, gB7, ← eN0, gA8, gB8, bs2, gRP, hnw, t1, cvtN q1, cvtN q2, mr, mr2] | refine WP_drw ?_ | refine cnd_intro (fun hsp => ?_) fun hsp => ?_)
    refine WP_count [(14, 14), (17, 137)] 0 4 (by omega) (fun _ i fr K => fr 77 = .int .i64 (i : Int) ∧ ∃ lv xs, fr 14 = lv ∧ Own encX 25 N0.length K lv xs ∧ (∀ x ∈ xs, GoodX Z1.length vD K x) ∧ Ext N0 K ∧ xs.length ≤ 2 + i) ?_ ?_ ?_
    · exact ⟨by (simp (disch := first | exact dschN59 | fail) only [go_sem, ↓reduceIte, Int.natCast_zero]; first | done | rfl), _, _, by simp (disch := first | exact dschN59 | fail) only [go_sem, ↓reduceIte], oP, hgP, xP, by simp⟩
    · rintro i fr K hi0 hi hAg ⟨r77, lv, xs, r14, oX, hgs, xK, hxl⟩
      have q6 := hAg 6 rfl
      have q8 := hAg 8 rfl
      have q10 := hAg 10 rfl
      have q15 := hAg 15 rfl
      have q16 := hAg 16 rfl
      try simp (disch := first | exact dschN59 | fail) only [go_sem, ↓reduceIte] at q6 q8 q10 q15 q16
      have hlt : ((i : Int) < 4) = True := eq_true (by omega)
      have olv := oX.one
      have lK := xK.len
      have gRK := xK.get gR8
      obtain ⟨_, K1, c8, y1, fw2, ww2, rfl, oF2, oW2⟩ := run_own (base := h.length) (h := K) (by omega) (aN.ext xK) (by omega) (by omega)
      have n1' := y1.len
      have ofw2 := oF2.one
      obtain ⟨id2, ver, rfl, gw, hid2, -⟩ : ∃ id ver, ww2 = .slice (some ⟨id, ver, 0⟩) R.W.length R.W.length ∧ K1[id]? = some (rowE encW 49 R.W ver) ∧ K.length ≤ id ∧ True := by
        rcases oW2 with (⟨_, q⟩ | ⟨i, v, q, gi, hi, _⟩) | ⟨_, q⟩
        · exact absurd q cW
        · exact ⟨i, v, q, gi, hi, trivial⟩
        · exact absurd q cW
      have lid2 := lt_of_get gw
      obtain ⟨K2, eK2⟩ : ∃ K2, K2 = K1 ++ [ribB R.L fw2 (.slice (some ⟨id2, ver, 0⟩) R.W.length R.W.length)] := ⟨_, rfl⟩
      have y2 : Ext K1 K2 := by rw [eK2]; exact .app .refl
      have lK2 : K2.length = K1.length + 1 := by rw [eK2]; simp
      have g2' : K2[K1.length]? = some (ribB R.L fw2 (.slice (some ⟨id2, ver, 0⟩) R.W.length R.W.length)) := by rw [eK2]; exact get_eq rfl
      unfold ribB at eK2
      have hcase : i = 0 ∨ i = 1 ∨ i = 2 ∨ i = 3 := by omega
      rcases hcase with rfl | rfl | rfl | rfl
      · obtain ⟨nv, env⟩ : ∃ nv, nv = min 100 (w.pr + by_) := ⟨_, rfl⟩
        obtain ⟨w', ew'⟩ : ∃ w' : Wnt, w' = { w with pr := nv } := ⟨_, rfl⟩
        obtain ⟨oo, eoo⟩ : ∃ oo : Nat, oo = 1 := ⟨_, rfl⟩
        have ldw : ∀ z, ldB (some (false, z)) (some (rowE encW 49 R.W ver)) ver (kk * 5 + 1) = some (.int .i64 w.pr) := fun z => ldB_cellE (E := encW) hwk rfl
        have hle : WntLe w w' := by rw [ew']; exact ⟨by simp only, by simp only; omega, by simp only; omega, by simp only; omega, by simp only; omega⟩
        have hwo : WntOk w' := by rw [ew']; exact ⟨by simp only; omega, by simp only; omega, by simp only; omega, by simp only; omega, by simp only; omega⟩
        have hR2 : RibOk ⟨R.L, R.F, R.W.set kk w'⟩ := ⟨hL, hnF, by simp only [List.length_set]; exact hnW, fun y hy => by
          rcases List.mem_or_eq_of_mem_set hy with q | q
          · exact hR.W y q
          · rw [q]; exact hwo, hrF, hR.s⟩
        have hval : vD ≤ valD ⟨R.L, R.F, R.W.set kk w'⟩ 0 := by rw [evD]; exact valD_set hwk hle hR hR2
        obtain ⟨K3, eK3⟩ : ∃ K3, K3 = K2.set id2 (rowE encW 49 (R.W.set kk w') ver) := ⟨_, rfl⟩
        have xK3 : Ext K K3 := by rw [eK3]; exact (y1.trans y2).set (by omega)
        have l3 : K3.length = K2.length := by rw [eK3, List.length_set]
        have g3 : K3[K1.length]? = some (ribB R.L fw2 (.slice (some ⟨id2, ver, 0⟩) R.W.length R.W.length)) := by rw [eK3, List.getElem?_set_ne (by omega)]; exact g2'
        have f3 : OwnE encI 3 Z1.length K3 fw2 R.F := by rw [eK3]; exact ((oF2.ext y2).setRow (y2.get gw) (by decide)).low (by omega)
        have w3 : OwnE encW 49 Z1.length K3 (.slice (some ⟨id2, ver, 0⟩) R.W.length R.W.length) (R.W.set kk w') := .inl (.inr ⟨id2, ver, by rw [List.length_set], by rw [eK3, List.getElem?_set_self (by omega)], by omega, by rw [List.length_set]; omega⟩)
        obtain ⟨nx, enx⟩ : ∃ nx : RX, nx = ⟨R.L, ⟨fw2, ownE_sc oF2⟩, ⟨.slice (some ⟨id2, ver, 0⟩) R.W.length R.W.length, rfl⟩⟩ := ⟨_, rfl⟩
        have gx : GoodX Z1.length vD K3 nx := by rw [enx]; exact ⟨⟨R.L, R.F, R.W.set kk w'⟩, rfl, f3, w3, hR2, hval⟩
        have hgs3 := fun x hx => (hgs x hx).ext xK3
        have bs1 : ∀ lit, bsA prog lit K3 50 1 [(0, .agg [.int .i64 R.L, fw2, .slice (some ⟨id2, ver, 0⟩) R.W.length R.W.length])] = some (.slice (some ⟨K3.length, 0, 0⟩) 1 1, K3 ++ [rowE encX 25 [nx] 0]) := fun lit => by rw [enx]; exact bsX1 (x := ⟨R.L, ⟨fw2, ownE_sc oF2⟩, ⟨.slice (some ⟨id2, ver, 0⟩) R.W.length R.W.length, rfl⟩⟩)
        obtain ⟨lv', K5, ea, oX5, l5, e5, one5, k5⟩ := snocX (base := h.length) (r := nx) (oX.ext xK3) (by omega) (by omega) (by omega)
        have st1 : ∀ (F : ABlk → Heap), stQ h.length id2 (some (rowE encW 49 R.W ver)) ver (kk * 5 + oo) [.int .i64 nv] F = some (F (rowE encW 49 (R.W.set kk w') ver)) := fun F => stQ_cellE (E := encW) (i := kk) (o := oo) (y := w') hwk (by rw [eoo]; decide) (by rw [eoo, ew']; rfl) rfl (by omega)
        rw [eoo] at st1
        have gw2 := y2.get gw
        have hsp := @Nat.succ_ne_zero; repeat' (first | simp (disch := first | exact dschN59 | fail) only [go_sem, ↓reduceIte, hsp, r77, r14, q6, q8, q10, q15, q16, hlt, gRK, c8, ← eK2, g2', gw2, ldw, ← env, st1, ← eK3, g3, bs1, ea] | refine WP_drw ?_ | refine cnd_intro (fun hsp => ?_) fun hsp => ?_)
        exact ⟨by (repeat first | exact Agree.refl | assumption | refine Agree.put rfl ?_ | refine Agree.put0 ?_ | refine Agree.sub rfl (by assumption) ?_), by omega, _, rfl, oX5, fun x hx => by
          rcases List.mem_append.1 hx with z | z
          · exact (hgs3 x z).keep k5
          · rw [List.mem_singleton] at z; rw [z]; exact gx.keep k5, e5 _ (Nat.le_refl _) (xK.trans xK3), by rw [List.length_append, List.length_singleton]; omega⟩
      · obtain ⟨nv, env⟩ : ∃ nv, nv = max 0 (w.off - by_) := ⟨_, rfl⟩
        obtain ⟨w', ew'⟩ : ∃ w' : Wnt, w' = { w with off := nv } := ⟨_, rfl⟩
        obtain ⟨oo, eoo⟩ : ∃ oo : Nat, oo = 2 := ⟨_, rfl⟩
        have ldw : ∀ z, ldB (some (false, z)) (some (rowE encW 49 R.W ver)) ver (kk * 5 + 2) = some (.int .i64 w.off) := fun z => ldB_cellE (E := encW) hwk rfl
        have hle : WntLe w w' := by rw [ew']; exact ⟨by simp only, by simp only; omega, by simp only; omega, by simp only; omega, by simp only; omega⟩
        have hwo : WntOk w' := by rw [ew']; exact ⟨by simp only; omega, by simp only; omega, by simp only; omega, by simp only; omega, by simp only; omega⟩
        have hR2 : RibOk ⟨R.L, R.F, R.W.set kk w'⟩ := ⟨hL, hnF, by simp only [List.length_set]; exact hnW, fun y hy => by
          rcases List.mem_or_eq_of_mem_set hy with q | q
          · exact hR.W y q
          · rw [q]; exact hwo, hrF, hR.s⟩
        have hval : vD ≤ valD ⟨R.L, R.F, R.W.set kk w'⟩ 0 := by rw [evD]; exact valD_set hwk hle hR hR2
        obtain ⟨K3, eK3⟩ : ∃ K3, K3 = K2.set id2 (rowE encW 49 (R.W.set kk w') ver) := ⟨_, rfl⟩
        have xK3 : Ext K K3 := by rw [eK3]; exact (y1.trans y2).set (by omega)
        have l3 : K3.length = K2.length := by rw [eK3, List.length_set]
        have g3 : K3[K1.length]? = some (ribB R.L fw2 (.slice (some ⟨id2, ver, 0⟩) R.W.length R.W.length)) := by rw [eK3, List.getElem?_set_ne (by omega)]; exact g2'
        have f3 : OwnE encI 3 Z1.length K3 fw2 R.F := by rw [eK3]; exact ((oF2.ext y2).setRow (y2.get gw) (by decide)).low (by omega)
        have w3 : OwnE encW 49 Z1.length K3 (.slice (some ⟨id2, ver, 0⟩) R.W.length R.W.length) (R.W.set kk w') := .inl (.inr ⟨id2, ver, by rw [List.length_set], by rw [eK3, List.getElem?_set_self (by omega)], by omega, by rw [List.length_set]; omega⟩)
        obtain ⟨nx, enx⟩ : ∃ nx : RX, nx = ⟨R.L, ⟨fw2, ownE_sc oF2⟩, ⟨.slice (some ⟨id2, ver, 0⟩) R.W.length R.W.length, rfl⟩⟩ := ⟨_, rfl⟩
        have gx : GoodX Z1.length vD K3 nx := by rw [enx]; exact ⟨⟨R.L, R.F, R.W.set kk w'⟩, rfl, f3, w3, hR2, hval⟩
        have hgs3 := fun x hx => (hgs x hx).ext xK3
        have bs1 : ∀ lit, bsA prog lit K3 50 1 [(0, .agg [.int .i64 R.L, fw2, .slice (some ⟨id2, ver, 0⟩) R.W.length R.W.length])] = some (.slice (some ⟨K3.length, 0, 0⟩) 1 1, K3 ++ [rowE encX 25 [nx] 0]) := fun lit => by rw [enx]; exact bsX1 (x := ⟨R.L, ⟨fw2, ownE_sc oF2⟩, ⟨.slice (some ⟨id2, ver, 0⟩) R.W.length R.W.length, rfl⟩⟩)
        obtain ⟨lv', K5, ea, oX5, l5, e5, one5, k5⟩ := snocX (base := h.length) (r := nx) (oX.ext xK3) (by omega) (by omega) (by omega)
        have st1 : ∀ (F : ABlk → Heap), stQ h.length id2 (some (rowE encW 49 R.W ver)) ver (kk * 5 + oo) [.int .i64 nv] F = some (F (rowE encW 49 (R.W.set kk w') ver)) := fun F => stQ_cellE (E := encW) (i := kk) (o := oo) (y := w') hwk (by rw [eoo]; decide) (by rw [eoo, ew']; rfl) rfl (by omega)
        rw [eoo] at st1
        have gw2 := y2.get gw
        have hsp := @Nat.succ_ne_zero; repeat' (first | simp (disch := first | exact dschN59 | fail) only [go_sem, ↓reduceIte, hsp, r77, r14, q6, q8, q10, q15, q16, hlt, gRK, c8, ← eK2, g2', gw2, ldw, ← env, st1, ← eK3, g3, bs1, ea] | refine WP_drw ?_ | refine cnd_intro (fun hsp => ?_) fun hsp => ?_)
        exact ⟨by (repeat first | exact Agree.refl | assumption | refine Agree.put rfl ?_ | refine Agree.put0 ?_ | refine Agree.sub rfl (by assumption) ?_), by omega, _, rfl, oX5, fun x hx => by
          rcases List.mem_append.1 hx with z | z
          · exact (hgs3 x z).keep k5
          · rw [List.mem_singleton] at z; rw [z]; exact gx.keep k5, e5 _ (Nat.le_refl _) (xK.trans xK3), by rw [List.length_append, List.length_singleton]; omega⟩
      · obtain ⟨nv, env⟩ : ∃ nv, nv = min 4 (w.fl + by_) := ⟨_, rfl⟩
        obtain ⟨w', ew'⟩ : ∃ w' : Wnt, w' = { w with fl := nv } := ⟨_, rfl⟩
        obtain ⟨oo, eoo⟩ : ∃ oo : Nat, oo = 3 := ⟨_, rfl⟩
        have ldw : ∀ z, ldB (some (false, z)) (some (rowE encW 49 R.W ver)) ver (kk * 5 + 3) = some (.int .i64 w.fl) := fun z => ldB_cellE (E := encW) hwk rfl
        have hle : WntLe w w' := by rw [ew']; exact ⟨by simp only, by simp only; omega, by simp only; omega, by simp only; omega, by simp only; omega⟩
        have hwo : WntOk w' := by rw [ew']; exact ⟨by simp only; omega, by simp only; omega, by simp only; omega, by simp only; omega, by simp only; omega⟩
        have hR2 : RibOk ⟨R.L, R.F, R.W.set kk w'⟩ := ⟨hL, hnF, by simp only [List.length_set]; exact hnW, fun y hy => by
          rcases List.mem_or_eq_of_mem_set hy with q | q
          · exact hR.W y q
          · rw [q]; exact hwo, hrF, hR.s⟩
        have hval : vD ≤ valD ⟨R.L, R.F, R.W.set kk w'⟩ 0 := by rw [evD]; exact valD_set hwk hle hR hR2
        obtain ⟨K3, eK3⟩ : ∃ K3, K3 = K2.set id2 (rowE encW 49 (R.W.set kk w') ver) := ⟨_, rfl⟩
        have xK3 : Ext K K3 := by rw [eK3]; exact (y1.trans y2).set (by omega)
        have l3 : K3.length = K2.length := by rw [eK3, List.length_set]
        have g3 : K3[K1.length]? = some (ribB R.L fw2 (.slice (some ⟨id2, ver, 0⟩) R.W.length R.W.length)) := by rw [eK3, List.getElem?_set_ne (by omega)]; exact g2'
        have f3 : OwnE encI 3 Z1.length K3 fw2 R.F := by rw [eK3]; exact ((oF2.ext y2).setRow (y2.get gw) (by decide)).low (by omega)
        have w3 : OwnE encW 49 Z1.length K3 (.slice (some ⟨id2, ver, 0⟩) R.W.length R.W.length) (R.W.set kk w') := .inl (.inr ⟨id2, ver, by rw [List.length_set], by rw [eK3, List.getElem?_set_self (by omega)], by omega, by rw [List.length_set]; omega⟩)
        obtain ⟨nx, enx⟩ : ∃ nx : RX, nx = ⟨R.L, ⟨fw2, ownE_sc oF2⟩, ⟨.slice (some ⟨id2, ver, 0⟩) R.W.length R.W.length, rfl⟩⟩ := ⟨_, rfl⟩
        have gx : GoodX Z1.length vD K3 nx := by rw [enx]; exact ⟨⟨R.L, R.F, R.W.set kk w'⟩, rfl, f3, w3, hR2, hval⟩
        have hgs3 := fun x hx => (hgs x hx).ext xK3
        have bs1 : ∀ lit, bsA prog lit K3 50 1 [(0, .agg [.int .i64 R.L, fw2, .slice (some ⟨id2, ver, 0⟩) R.W.length R.W.length])] = some (.slice (some ⟨K3.length, 0, 0⟩) 1 1, K3 ++ [rowE encX 25 [nx] 0]) := fun lit => by rw [enx]; exact bsX1 (x := ⟨R.L, ⟨fw2, ownE_sc oF2⟩, ⟨.slice (some ⟨id2, ver, 0⟩) R.W.length R.W.length, rfl⟩⟩)
        obtain ⟨lv', K5, ea, oX5, l5, e5, one5, k5⟩ := snocX (base := h.length) (r := nx) (oX.ext xK3) (by omega) (by omega) (by omega)
        have st1 : ∀ (F : ABlk → Heap), stQ h.length id2 (some (rowE encW 49 R.W ver)) ver (kk * 5 + oo) [.int .i64 nv] F = some (F (rowE encW 49 (R.W.set kk w') ver)) := fun F => stQ_cellE (E := encW) (i := kk) (o := oo) (y := w') hwk (by rw [eoo]; decide) (by rw [eoo, ew']; rfl) rfl (by omega)
        rw [eoo] at st1
        have gw2 := y2.get gw
        have hsp := @Nat.succ_ne_zero; repeat' (first | simp (disch := first | exact dschN59 | fail) only [go_sem, ↓reduceIte, hsp, r77, r14, q6, q8, q10, q15, q16, hlt, gRK, c8, ← eK2, g2', gw2, ldw, ← env, st1, ← eK3, g3, bs1, ea] | refine WP_drw ?_ | refine cnd_intro (fun hsp => ?_) fun hsp => ?_)
        exact ⟨by (repeat first | exact Agree.refl | assumption | refine Agree.put rfl ?_ | refine Agree.put0 ?_ | refine Agree.sub rfl (by assumption) ?_), by omega, _, rfl, oX5, fun x hx => by
          rcases List.mem_append.1 hx with z | z
          · exact (hgs3 x z).keep k5
          · rw [List.mem_singleton] at z; rw [z]; exact gx.keep k5, e5 _ (Nat.le_refl _) (xK.trans xK3), by rw [List.length_append, List.length_singleton]; omega⟩
      · obtain ⟨nv, env⟩ : ∃ nv, nv = min 4 (w.jn + by_) := ⟨_, rfl⟩
        obtain ⟨w', ew'⟩ : ∃ w' : Wnt, w' = { w with jn := nv } := ⟨_, rfl⟩
        obtain ⟨oo, eoo⟩ : ∃ oo : Nat, oo = 4 := ⟨_, rfl⟩
        have ldw : ∀ z, ldB (some (false, z)) (some (rowE encW 49 R.W ver)) ver (kk * 5 + 4) = some (.int .i64 w.jn) := fun z => ldB_cellE (E := encW) hwk rfl
        have hle : WntLe w w' := by rw [ew']; exact ⟨by simp only, by simp only; omega, by simp only; omega, by simp only; omega, by simp only; omega⟩
        have hwo : WntOk w' := by rw [ew']; exact ⟨by simp only; omega, by simp only; omega, by simp only; omega, by simp only; omega, by simp only; omega⟩
        have hR2 : RibOk ⟨R.L, R.F, R.W.set kk w'⟩ := ⟨hL, hnF, by simp only [List.length_set]; exact hnW, fun y hy => by
          rcases List.mem_or_eq_of_mem_set hy with q | q
          · exact hR.W y q
          · rw [q]; exact hwo, hrF, hR.s⟩
        have hval : vD ≤ valD ⟨R.L, R.F, R.W.set kk w'⟩ 0 := by rw [evD]; exact valD_set hwk hle hR hR2
        obtain ⟨K3, eK3⟩ : ∃ K3, K3 = K2.set id2 (rowE encW 49 (R.W.set kk w') ver) := ⟨_, rfl⟩
        have xK3 : Ext K K3 := by rw [eK3]; exact (y1.trans y2).set (by omega)
        have l3 : K3.length = K2.length := by rw [eK3, List.length_set]
        have g3 : K3[K1.length]? = some (ribB R.L fw2 (.slice (some ⟨id2, ver, 0⟩) R.W.length R.W.length)) := by rw [eK3, List.getElem?_set_ne (by omega)]; exact g2'
        have f3 : OwnE encI 3 Z1.length K3 fw2 R.F := by rw [eK3]; exact ((oF2.ext y2).setRow (y2.get gw) (by decide)).low (by omega)
        have w3 : OwnE encW 49 Z1.length K3 (.slice (some ⟨id2, ver, 0⟩) R.W.length R.W.length) (R.W.set kk w') := .inl (.inr ⟨id2, ver, by rw [List.length_set], by rw [eK3, List.getElem?_set_self (by omega)], by omega, by rw [List.length_set]; omega⟩)
        obtain ⟨nx, enx⟩ : ∃ nx : RX, nx = ⟨R.L, ⟨fw2, ownE_sc oF2⟩, ⟨.slice (some ⟨id2, ver, 0⟩) R.W.length R.W.length, rfl⟩⟩ := ⟨_, rfl⟩
        have gx : GoodX Z1.length vD K3 nx := by rw [enx]; exact ⟨⟨R.L, R.F, R.W.set kk w'⟩, rfl, f3, w3, hR2, hval⟩
        have hgs3 := fun x hx => (hgs x hx).ext xK3
        have bs1 : ∀ lit, bsA prog lit K3 50 1 [(0, .agg [.int .i64 R.L, fw2, .slice (some ⟨id2, ver, 0⟩) R.W.length R.W.length])] = some (.slice (some ⟨K3.length, 0, 0⟩) 1 1, K3 ++ [rowE encX 25 [nx] 0]) := fun lit => by rw [enx]; exact bsX1 (x := ⟨R.L, ⟨fw2, ownE_sc oF2⟩, ⟨.slice (some ⟨id2, ver, 0⟩) R.W.length R.W.length, rfl⟩⟩)
        obtain ⟨lv', K5, ea, oX5, l5, e5, one5, k5⟩ := snocX (base := h.length) (r := nx) (oX.ext xK3) (by omega) (by omega) (by omega)
        have st1 : ∀ (F : ABlk → Heap), stQ h.length id2 (some (rowE encW 49 R.W ver)) ver (kk * 5 + oo) [.int .i64 nv] F = some (F (rowE encW 49 (R.W.set kk w') ver)) := fun F => stQ_cellE (E := encW) (i := kk) (o := oo) (y := w') hwk (by rw [eoo]; decide) (by rw [eoo, ew']; rfl) rfl (by omega)
        rw [eoo] at st1
        have gw2 := y2.get gw
        have hsp := @Nat.succ_ne_zero; repeat' (first | simp (disch := first | exact dschN59 | fail) only [go_sem, ↓reduceIte, hsp, r77, r14, q6, q8, q10, q15, q16, hlt, gRK, c8, ← eK2, g2', gw2, ldw, ← env, st1, ← eK3, g3, bs1, ea] | refine WP_drw ?_ | refine cnd_intro (fun hsp => ?_) fun hsp => ?_)
        exact ⟨by (repeat first | exact Agree.refl | assumption | refine Agree.put rfl ?_ | refine Agree.put0 ?_ | refine Agree.sub rfl (by assumption) ?_), by omega, _, rfl, oX5, fun x hx => by
          rcases List.mem_append.1 hx with z | z
          · exact (hgs3 x z).keep k5
          · rw [List.mem_singleton] at z; rw [z]; exact gx.keep k5, e5 _ (Nat.le_refl _) (xK.trans xK3), by rw [List.length_append, List.length_singleton]; omega⟩
    · rintro fr Y hAg ⟨r77, lv, xs, r14, oP, hgP, xY, hxl⟩
      have q6 := hAg 6 rfl
      have q8 := hAg 8 rfl
      have q10 := hAg 10 rfl
      have q15 := hAg 15 rfl
      have q16 := hAg 16 rfl
      try simp (disch := first | exact dschN59 | fail) only [go_sem, ↓reduceIte] at q6 q8 q10 q15 q16
      have hlt : ((4 : Int) < 4) = False := eq_false (by omega)
      have hlx := own_len oP Fc.el50 (by omega)
      have olv := oP.one
      have hsp := @Nat.succ_ne_zero; repeat' (first | simp (disch := first | exact dschN59 | fail) only [go_sem, ↓reduceIte, hsp, r77, r14, q6, q8, q10, q15, q16, hlt, hlx] | refine WP_drw ?_ | refine cnd_intro (fun hsp => ?_) fun hsp => ?_)
      refine WP_count [(6, 6), (21, 26), (140, 172)] 0 xs.length (Nat.zero_le _) (fun _ j fr K => fr 140 = .int .i64 (j : Int) ∧ Ext Y K) ?_ ?_ ?_
      · exact ⟨by (simp (disch := first | exact dschN59 | fail) only [go_sem, ↓reduceIte, Int.natCast_zero]; first | done | rfl), .refl⟩
      · rintro j fr K hj0 hj hA3 ⟨r140, xK⟩
        have z10 := hA3 10 rfl
        have z138 := hA3 138 rfl
        have z139 := hA3 139 rfl
        try simp (disch := first | exact dschN59 | fail) only [go_sem, ↓reduceIte, q10] at z10 z138 z139
        have hlt3 : ((j : Int) < (xs.length : Int)) = True := eq_true (by omega)
        have lK := xK.len
        have lY := xY.len
        obtain ⟨x, ex⟩ : ∃ x, xs[j]? = some x := ⟨_, List.getElem?_eq_getElem hj⟩
        have rX := (oP.rows (by omega)).ext xK
        have hgx := (hgP x (List.mem_of_getElem? ex)).ext xK
        obtain ⟨a, ⟨f, hf⟩, ⟨g, hg⟩⟩ := x
        obtain ⟨R', b1, b2, b3, b4, b5⟩ := hgx
        simp only at b1 b2 b3
        subst b1
        have of_ := b2.one
        have og_ := b3.one
        have ad := rX.addr (P := prog) (i := (j : Int)) Fc.el50 Fc.ar50 (by omega) (by omega)
        rw [Int.toNat_natCast] at ad
        have ld : loadP prog K 25 (elAdr lv encX.z j 0) = some (.agg [.int .i64 R'.L, f, g]) := rX.load (P := prog) Fc.ty25 ex
        have hc' := chkR_iff.2 b4
        have hL' := b4.L
        have hnF' := b4.nF
        obtain ⟨K1, eK1⟩ : ∃ K1, K1 = K ++ [ribB R'.L f g] := ⟨_, rfl⟩
        have x1' : Ext K K1 := by rw [eK1]; exact .app .refl
        have gK1 : K1[K.length]? = some (ribB R'.L f g) := by rw [eK1]; exact get_eq rfl
        have lK1 : K1.length = K.length + 1 := by rw [eK1]; simp
        have aR' := (rib_own b4 b2 b3).ext x1'
        obtain ⟨_, K2, d1, y2', u2, rfl, oB2⟩ := run_Best (base := h.length) (h := K1) (by omega) aR' (by omega)
        have ou2 := oB2.one
        have ea' : allE R' = valD R' 0 := by unfold allE; rw [if_neg (fun q => q hc')]
        have eb' : bstE false R' = pthL false R' R'.L.toNat 0 := by unfold bstE; rw [if_neg (fun q => q hc')]
        rw [ea', hc'] at d1
        rw [eb'] at oB2
        obtain ⟨p1', n1'⟩ := pthL_ok (b := false) b4 R'.L.toNat 0 0 0 (by omega) (by omega) (by omega)
        rw [folD_e b4 (by omega), Int.zero_add] at p1'
        have fb1 := folD_bd (b := false) (x := 0) b4
        have d2 := fun base => run_learned (base := base) (aR'.ext y2') b4 (oB2.rows (by omega))
        rw [p1'] at d2
        simp only [decide_true] at d2
        have gK2 := y2'.get gK1
        have tl : (valD R' 0 < vD) = False := eq_false (by omega)
        unfold ribB at eK1 gK1 gK2
        have hsp := @Nat.succ_ne_zero; repeat' (first | simp (disch := first | exact dschN59 | fail) only [go_sem, ↓reduceIte, hsp, r140, z10, z138, z139, q6, q8, q10, q15, q16, hlt3, ad, ld, ← eK1, gK1, d1, gK2, d2, ne_eq, not_true, decide_false, eq_self, tl, Bool.not_true] | refine WP_drw ?_ | refine cnd_intro (fun hsp => ?_) fun hsp => ?_)
        exact ⟨by (repeat first | exact Agree.refl | assumption | refine Agree.put rfl ?_ | refine Agree.put0 ?_ | refine Agree.sub rfl (by assumption) ?_), by omega, xK.trans (x1'.trans y2')⟩
      · rintro fr K hA3 ⟨r140, xK⟩
        have z10 := hA3 10 rfl
        have z138 := hA3 138 rfl
        have z139 := hA3 139 rfl
        try simp (disch := first | exact dschN59 | fail) only [go_sem, ↓reduceIte, q10] at z10 z138 z139
        have hlt3 : ((xs.length : Int) < (xs.length : Int)) = False := eq_false (by omega)
        have haw := fun base => run_awake (base := base) (h := K)
        have hsp := @Nat.succ_ne_zero; repeat' (first | simp (disch := first | exact dschN59 | fail) only [go_sem, ↓reduceIte, hsp, r140, z10, z138, z139, q6, q8, q10, q15, q16, hlt3, haw] | refine WP_drw ?_ | refine cnd_intro (fun hsp => ?_) fun hsp => ?_)
        exact fB rfl (xhN.trans (xY.trans xK))
end Go.AM
