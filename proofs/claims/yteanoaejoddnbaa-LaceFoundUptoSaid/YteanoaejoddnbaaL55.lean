/-
  LaceFound, walked.
-/
import Derived.Test.YteanoaejoddnbaaU19
set_option linter.unusedSimpArgs false
set_option linter.unusedVariables false
namespace Go.AM
open Go.Proofs.Try
theorem dschL55 {p : Prop} (h : p := by first | exact Nat.ne_of_beq_eq_false rfl | assumption | (apply asOne; (first | exact One.int | exact One.bool | assumption | exact Ints.one (by assumption) | exact Rows.one (by assumption) | exact Own.one (by assumption) | exact One.lit ⟨rfl, rfl, rfl⟩)) | (apply asSp; (repeat first | assumption | apply SpAt.set | (refine SpAt.new ?_ (by (first | rfl | (simp only [List.length_append, List.length_cons, List.length_nil, List.length_set]; done) | (simp only [List.length_append, List.length_cons, List.length_nil, List.length_set]; omega)))) | apply SpAt.app | apply Bytes.app); done) | (apply asBytes; (repeat first | assumption | apply Bytes.app); done) | (apply asInts; (repeat first | assumption | exact ints_nil | apply Ints.app); done) | (apply asRows; (repeat first | assumption | exact Rows.nil | apply Rows.app); done) | (apply asScal; (first | apply allS1 | apply allS2 | apply allS3 | apply allS4) <;> (first | exact One.int | exact One.bool | assumption | exact Ints.one (by assumption) | exact Rows.one (by assumption) | exact Own.one (by assumption) | exact One.lit ⟨rfl, rfl, rfl⟩)) | exact litT rfl | exact litF rfl | omega | (simp only [List.length_append, List.length_cons, List.length_nil, List.length_set, List.length_reverse]; first | done | omega) | fail) : p := h
attribute [-go_sem] put_ne put_same
attribute [local go_sem ↓] put_if
/-- The state between two steps: the spool of wrong rows, the box of the chain, its rows. -/
structure Fnd (h K : Heap) (b : Nat) (v1 : AVal) (l1 : List Int) (T : Int) (C o : List Int) (cv ov : AVal) (kq : Nat) (rw' : AVal) (Ri : List Rw3) (i : Nat) : Prop where
  fq : K[h.length + 1]? = some (spB v1 l1 kq)
  fk : kq ≤ 10 * i
  ext : Ext h K
  fb : h.length + 2 ≤ b ∧ b < K.length
  fg : K[b]? = some (lacB T cv rw')
  oC : OwnE encI 3 (h.length + 2) K cv C
  oO : OwnE encI 3 (h.length + 2) K ov o
  oR : OwnE encR 70 (h.length + 2) K rw' Ri
  ok : LacOk ⟨T, C, Ri⟩
  rl : Ri.length ≤ 8 + i
  first : i = 0 → o ∈ fnd ⟨T, C, Ri⟩
theorem stL55 {base : Nat} {l : List Oper} {s : St} {Q : AExit → St → Prop} : WP prog raw base (.region 34 l.toArray true) s Q = WPS prog raw base (.region 34 l.toArray true) s Q := WP_stop
attribute [local go_sem ↓ 3000] stL55
set_option maxRecDepth 100000 in
set_option maxHeartbeats 20000000 in
theorem run_LaceFound {base : Nat} {h : Heap} {v0 v1 : AVal} {l0 l1 : List Int} (hB0 : Bytes h v0 l0) (hB1 : Bytes h v1 l1) :
    callL prog raw base (.fn 15 [] []) [v0, v1] h = some (.bool true, h) := by
  have o0 := hB0.one
  have o1 := hB1.one
  have hw0 := run_wound (base := h.length) hB0
  have hw1 := run_wound (base := h.length) (hB1.ext (.app (t := [spB v0 l0 0]) .refl))
  rw [show (h ++ [spB v0 l0 0]).length = h.length + 1 by simp] at hw1
  obtain ⟨G, eG⟩ : ∃ G, G = h ++ [spB v0 l0 0] ++ [spB v1 l1 0] := ⟨_, rfl⟩
  have lG : G.length = h.length + 2 := by rw [eG]; simp
  have xG : Ext h G := by rw [eG]; exact .app (.app .refl)
  have hS : SpAt G h.length v0 l0 0 := by rw [eG]; exact (SpAt.new hB0 rfl).app
  have hQ : G[h.length + 1]? = some (spB v1 l1 0) := by rw [eG]; exact get_eq (by simp)
  have hv1 : ∀ r n c, v1 = .slice (some r) n c → r.id ≠ h.length + 1 := fun r n c q => by have := hB1.low r n c q; omega
  obtain ⟨H1, H2, T, C, R, o, cv, rv, ov, k, e1, e2, ocv, oov, orv, g2, lG1, S⟩ := run_start (base := h.length) (N := 7) (most := 8) (by omega) hS (by omega) (by omega) (by omega)
  rw [show (((7 : Nat) : Int)) = 7 from rfl] at e1
  rw [show (((8 : Nat) : Int)) = 8 from rfl] at e2
  obtain ⟨B, eB⟩ : ∃ B, B = H1 ++ [lacB T cv (.slice none 0 0)] := ⟨_, rfl⟩
  have gB : B[H1.length]? = some (lacB T cv (.slice none 0 0)) := by rw [eB]; exact get_eq rfl
  obtain ⟨H3, eH3⟩ : ∃ H3, H3 = H2.set H1.length (lacB T cv rv) := ⟨_, rfl⟩
  rw [← eB] at e2
  rw [← eH3] at S
  have hTb := S.made.tb
  have hoC := S.ord
  have hcl := S.bd
  have sh := shl_one (w := T) (by omega) (by omega)
  obtain ⟨hw1', hw2'⟩ := pow_le8 hTb
  obtain ⟨W, eW⟩ : ∃ W : Int, W = 2 ^ T.toNat := ⟨_, rfl⟩
  rw [← eW] at sh hw1' hw2'
  have F0 : Fnd h H3 H1.length v1 l1 T C o cv ov 0 rv R 0 :=
    ⟨S.sp.get (by omega) hQ, by omega, S.sp.on xG (Nat.le_refl _), ⟨by omega, S.b.2⟩, S.g, S.oC.low (by omega), S.oO.low (by omega), S.oR.low (by omega), chkL_iff.1 (S.lac (by omega) (by omega)), S.rl, fun _ => S.xpl⟩
  have lhH1 : h.length + 2 ≤ H1.length := by omega
  obtain ⟨n, en⟩ : ∃ n, n = C.length := ⟨_, rfl⟩
  rw [← en] at hcl hoC
  unfold lacB at eB gB g2 eH3
  refine callL_run func15 rfl rfl ?_
  have hsp := @Nat.succ_ne_zero; repeat' (first | simp (disch := first | exact dschL55 | fail) only [go_sem, ↓reduceIte, hsp, hw0, hw1, ← eG, e1, ← eB, gB, e2, g2, ← eH3] | refine WP_drw ?_ | refine cnd_intro (fun hsp => ?_) fun hsp => ?_)
  refine WP_count [(4, 4), (9, 241)] 0 3 (Nat.zero_le _) (fun _ i fr K => fr 40 = .int .i64 (i : Int) ∧ ∃ kq rw1 Ri, Fnd h K H1.length v1 l1 T C o cv ov kq rw1 Ri i) ?_ ?_ ?_
  · exact ⟨by (simp (disch := first | exact dschL55 | fail) only [go_sem, ↓reduceIte, Int.natCast_zero]; first | done | rfl), _, _, _, F0⟩
  · rintro i fr K hi0 hi hA ⟨r40, kq, rw1, Ri, F⟩
    have q6 := hA 6 rfl
    have q7 := hA 7 rfl
    have q8 := hA 8 rfl
    try simp (disch := first | exact dschL55 | fail) only [go_sem, ↓reduceIte] at q6 q7 q8
    have hlt : ((i : Int) < 3) = True := eq_true (by omega)
    have lK := F.fb
    have hkq := F.fk
    have hRi := F.rl
    have orw1 := F.oR.one
    have hhK := F.ext.len
    obtain ⟨L, eL⟩ : ∃ L : Lac, L = ⟨T, C, Ri⟩ := ⟨_, rfl⟩
    have hLn : L.C.length = n := by rw [eL, en]
    have hc : chkL L = 0 := by rw [eL]; exact chkL_iff.2 F.ok
    have aL : LacAt K (.agg [.int .i64 T, cv, rw1]) L := by
      rw [eL]; exact ⟨cv, rw1, rfl, ownE_ints F.oC (by have := lac_small hc; rw [eL] at this; exact this), F.oR.rows (by omega)⟩
    obtain ⟨_, K1, f1, x1, fv, rfl, oF⟩ := run_First (base := h.length) (h := K) (by omega) aL
    obtain ⟨_, K2, f2, x2, kv, rfl, oK⟩ := run_Known (base := h.length) (h := K1) (by have := x1.len; omega) (aL.ext x1)
    have cL := fun base => run_Count (base := base) (aL.ext (x1.trans x2))
    obtain ⟨_, K3, f3, x3, gv, rl, rfl, oG, rG1, rG2⟩ := run_Ring (base := h.length) (h := K2) (by have := x1.len; have := x2.len; omega) (aL.ext (x1.trans x2))
    have x13 := (x1.trans x2).trans x3
    have l13 := x13.len
    obtain ⟨_, K4, f4, x4, pv, pl, rfl, oP, rP1, rP2⟩ := run_Gap (base := h.length) (h := K3) (by omega) (aL.ext x13)
    have x14 := x13.trans x4
    have l14 := x14.len
    have l12 := x1.len
    have ofv := oF.one
    have okv := oK.one
    have ogv := oG.one
    have opv := oP.one
    have gK := F.fg
    have tz : ((0 : Int) > 0) = False := eq_false (by omega)
    have gK1 := x1.get gK
    have gK2 := (x1.trans x2).get gK
    have gK3 := x13.get gK
    have gK4 := x14.get gK
    unfold lacB at gK gK1 gK2 gK3 gK4
    by_cases cf : fnd L = []
    · have hi1 : i ≠ 0 := fun q => by
        have := F.first q
        rw [← eL, cf] at this; cases this
      obtain ⟨w1, w2, w3, w4, w5⟩ := found_none hc cf
      rw [w1] at f1 oF
      rw [w2] at f2 oK
      rw [w3] at cL
      rw [w4] at f3
      rw [w5] at f4
      obtain ⟨_, hgo⟩ := rP2 w5
      obtain ⟨g1, g2', g3, g4⟩ := gap_is hc hgo
      rw [hLn] at g3
      have gG := fun base => run_Gapes (base := base) (aL.ext x14) (own_ints oP g4)
      rw [g1] at gG
      have ti : ((i : Int) = 0) = False := eq_false (by omega)
      obtain ⟨gn, egn⟩ : ∃ gn, gn = (pl.length : Int) - fittN L pl := ⟨_, rfl⟩
      rw [← egn] at gG g2'
      have tg : (gn < 1) = False := eq_false (by omega)
      obtain ⟨Z, eZ⟩ : ∃ Z, Z = K4 := ⟨_, rfl⟩
      have xZ : Ext K Z := by rw [eZ]; exact x14
      rw [← eZ] at f4 gG gK4
      have lZ := xZ.len
      have gbZ := xZ.get F.fg
      have gqZ := xZ.get F.fq
      have hZ := F.ext.trans xZ
      have lrZ : lenOpA prog Z 42 rw1 = some (.int .i64 (Ri.length : Int)) := ((F.oR.ext xZ).rows (by omega)).len (P := prog) Fc.el42
      have t12 : ((Ri.length : Int) = 12) = False := eq_false (by omega)
      have hSZ : SpAt Z (h.length + 1) v1 l1 kq := ⟨gqZ, hB1.ext hZ, hv1⟩
      obtain ⟨r, er, hr⟩ := run_Seen hSZ (by omega) ((F.oC.ext xZ).low (Nat.zero_le _)) orw1 ((F.oO.ext xZ).low (Nat.zero_le _)) (by omega) hTb F.ok.c (by rw [← en]; exact hoC) (by omega)
      obtain ⟨Z1, eZ1⟩ : ∃ Z1, Z1 = Z.set (h.length + 1) (spB v1 l1 (kq + 4)) := ⟨_, rfl⟩
      rw [← eZ1] at er
      have lZ1 : Z1.length = Z.length := by rw [eZ1, List.length_set]
      have gq1 : Z1[h.length + 1]? = some (spB v1 l1 (kq + 4)) := by rw [eZ1, List.getElem?_set_self (by omega)]
      have gb1 : Z1[H1.length]? = some (lacB T cv rw1) := by rw [eZ1, List.getElem?_set_ne (by omega)]; exact gbZ
      have hZ1 : Ext h Z1 := by rw [eZ1]; exact hZ.set (by omega)
      obtain ⟨Z2, eZ2⟩ : ∃ Z2, Z2 = Z1 ++ [rwB r] := ⟨_, rfl⟩
      have lZ2 : Z2.length = Z.length + 1 := by rw [eZ2]; simp [lZ1]
      have x12 : Ext Z1 Z2 := by rw [eZ2]; exact .app .refl
      have gr2 : Z2[Z1.length]? = some (rwB r) := by rw [eZ2]; exact get_eq rfl
      have gb2 := x12.get gb1
      have gq2 := x12.get gq1
      obtain ⟨k1, k2, k3, k4⟩ := hr
      have ub := up_bd (silk := l1) (k := kq + 4) (n := W - 1) (by omega)
      have eu := fun base => run_upto (base := base) (n := W - 1) (show SpAt Z2 (h.length + 1) v1 l1 (kq + 4) from ⟨gq2, hB1.ext (hZ1.trans x12), hv1⟩) (by omega) (by omega)
      obtain ⟨x, ex⟩ := Int.eq_ofNat_of_zero_le ub.1
      rw [ex] at eu ub
      obtain ⟨Z3, eZ3⟩ : ∃ Z3, Z3 = Z2.set (h.length + 1) (spB v1 l1 (kq + 4 + 1)) := ⟨_, rfl⟩
      rw [← eZ3] at eu
      have lZ3 : Z3.length = Z.length + 1 := by rw [eZ3, List.length_set, lZ2]
      have gr3 : Z3[Z1.length]? = some (rwB r) := by rw [eZ3, List.getElem?_set_ne (by omega)]; exact gr2
      have gb3 : Z3[H1.length]? = some (lacB T cv rw1) := by rw [eZ3, List.getElem?_set_ne (by omega)]; exact gb2
      have gq3 : Z3[h.length + 1]? = some (spB v1 l1 (kq + 4 + 1)) := by rw [eZ3, List.getElem?_set_self (by omega)]
      obtain ⟨mk, emk⟩ := Int.eq_ofNat_of_zero_le k2.1
      obtain ⟨sw, esw⟩ := Int.eq_ofNat_of_zero_le k3
      have hmk : (mk : Int) ≤ W - 1 := by rw [eW]; omega
      have hsw : sw ≤ mk := by rw [emk, esw, Int.toNat_natCast, Int.toNat_natCast] at k4; rw [← k4]; exact Nat.and_le_right
      have hma : mk &&& x ≤ mk := Nat.and_le_left
      have an := andN (t := 3) (a := mk) (b := x) (by omega) (by omega)
      have xo := xorN (t := 3) (a := sw) (b := mk &&& x) (by omega) (by omega)
      obtain ⟨s', es'⟩ : ∃ s', s' = sw ^^^ (mk &&& x) := ⟨_, rfl⟩
      rw [← es'] at xo
      obtain ⟨Z4, eZ4⟩ : ∃ Z4, Z4 = Z3.set Z1.length (rwB (r.1, (mk : Int), (s' : Int))) := ⟨_, rfl⟩
      have lZ4 : Z4.length = Z.length + 1 := by rw [eZ4, List.length_set, lZ3]
      have gr4 : Z4[Z1.length]? = some (rwB (r.1, (mk : Int), (s' : Int))) := by rw [eZ4, List.getElem?_set_self (by omega)]
      have gb4 : Z4[H1.length]? = some (lacB T cv rw1) := by rw [eZ4, List.getElem?_set_ne (by omega)]; exact gb3
      have gq4 : Z4[h.length + 1]? = some (spB v1 l1 (kq + 4 + 1)) := by rw [eZ4, List.getElem?_set_ne (by omega)]; exact gq3
      have hZ4 : Ext h Z4 := by rw [eZ4, eZ3]; exact ((hZ1.trans x12).set (by omega)).set (by omega)
      have mvI : ∀ {α : Type} {E : Enc α} {e : TypeId} {v : AVal} {l : List α}, OwnE E e (h.length + 2) K v l → OwnE E e (h.length + 2) Z4 v l := fun {α E e v l} y => by
        have y1 : OwnE E e (h.length + 2) Z1 v l := by rw [eZ1]; exact (y.ext xZ).setBox gqZ
        have y3 : OwnE E e (h.length + 2) Z3 v l := by rw [eZ3]; exact (y1.ext x12).setBox gq2
        rw [eZ4]; exact y3.setBox gr3
      obtain ⟨w', Z5, ea, oW, lW, eW5, oneW, kW⟩ := snocR (base := h.length) (r := (r.1, (mk : Int), (s' : Int))) (mvI F.oR) (by omega) (by omega) (by omega)
      have gb5 := kW.box gb4
      have gq5 := kW.box gq4
      have hZ5 : Ext h Z5 := eW5 _ (by omega) hZ4
      have rok : (0 ≤ r.1 ∧ r.1 ≤ 999) ∧ (0 ≤ r.2.1 ∧ r.2.1 ≤ 2 ^ T.toNat - 1) ∧ (0 ≤ r.2.2 ∧ r.2.2 ≤ 2 ^ T.toNat - 1) ∧ r.2.2.toNat &&& r.2.1.toNat = r.2.2.toNat := by
        refine ⟨by omega, k2, by rw [← eW]; omega, ?_⟩
        rw [← k4, Nat.and_assoc, Nat.and_self]
      have hok' := wrong_row (L := ⟨T, C, Ri⟩) (x := x) rok F.ok (by simp only; omega)
      rw [emk, esw, Int.toNat_natCast, Int.toNat_natCast, ← es'] at hok'
      have bs : ∀ {lit : Bool}, bsA prog lit Z4 42 1 [(0, .agg [.int .i64 r.1, .int .i64 (mk : Int), .int .i64 (s' : Int)])] = some (.slice (some ⟨Z4.length, 0, 0⟩) 1 1, Z4 ++ [rowE encR 70 [(r.1, (mk : Int), (s' : Int))] 0]) := fun {lit} => bsR1 (r := (r.1, (mk : Int), (s' : Int)))
      have nxt : Fnd h (Z5.set H1.length (lacB T cv w')) H1.length v1 l1 T C o cv ov (kq + 5) w' (Ri ++ [(r.1, (mk : Int), (s' : Int))]) (i + 1) :=
        ⟨by rw [List.getElem?_set_ne (by omega)]; exact gq5, by omega, hZ5.set (by omega), ⟨F.fb.1, by rw [List.length_set]; omega⟩, by rw [List.getElem?_set_self (by omega)], (kW.ownE (mvI F.oC) (by decide)).setBox gb5, (kW.ownE (mvI F.oO) (by decide)).setBox gb5, OwnE.setBox (.inl oW) gb5, hok', by simp; omega, fun q => by omega⟩
      unfold lacB at gbZ gb1 gb2 gb3 gb4 gb5
      unfold rwB at eZ2 gr2 gr3 eZ4 gr4
      rw [emk, esw] at er eZ2 gr2 gr3
      have hsp := @Nat.succ_ne_zero; repeat' (first | simp (disch := first | exact dschL55 | fail) only [go_sem, ↓reduceIte, hsp, r40, q6, q7, q8, hlt, gK, f1, gK1, f2, gK2, cL, f3, gK3, f4, eq_self, not_true, neB, ne_eq, decide_false, decide_true, tz, ti, gK4, gG, tg, gbZ, lrZ, t12, er, ← eZ2] | refine WP_drw ?_ | refine cnd_intro (fun hsp => ?_) fun hsp => ?_)
      refine WPS_go ?_
      refine WP_wild [⟨1, 3, 222, ⟨Z1.length, 0, 2⟩, .int .i64 (sw : Int), 13⟩, ⟨3, 3, 224, ⟨Z1.length, 0, 1⟩, .int .i64 (mk : Int), 13⟩] (by kernel_rfl) (by kernel_rfl) (by kernel_rfl) ⟨refsLow_int, refsLow_int, trivial⟩ fun K9 hK => ?_
      iterate 14
        rw [TRS_cons]
        refine ⟨by first | (simp (disch := first | exact dschL55 | fail) only [go_sem, ↓reduceIte, gr2, q6, q7, q8, gb2, sh, eu, gr3, an, xo, ← eZ4, ldsQ_cons, ldsQ_nil, grdQ_cons, grdQ_nil, if_true, Nat.reduceLeDiff]; done) | exact trivial, ?_⟩
        simp (disch := first | exact dschL55 | fail) only [go_sem, ↓reduceIte, gr2, q6, q7, q8, gb2, sh, eu, gr3, an, xo, ← eZ4]
      rw [TRS_nil]
      refine ⟨by first | (simp (disch := first | exact dschL55 | fail) only [go_sem, ↓reduceIte, gr2, q6, q7, q8, gb2, sh, eu, gr3, an, xo, ← eZ4, ldsQ_cons, ldsQ_nil, grdQ_cons, grdQ_nil, if_true, Nat.reduceLeDiff]; done) | exact trivial, ?_⟩
      subst hK
      have hsp := @Nat.succ_ne_zero; repeat' (first | simp (disch := first | exact dschL55 | fail) only [go_sem, ↓reduceIte, hsp, r40, q6, q7, q8, gb4, gr4, bs, ea, gb5] | refine WP_drw ?_ | refine cnd_intro (fun hsp => ?_) fun hsp => ?_)
      exact ⟨by (repeat first | exact Agree.refl | assumption | refine Agree.put rfl ?_ | refine Agree.put0 ?_ | refine Agree.sub rfl (by assumption) ?_), by omega, _, _, _, nxt⟩
    · have hfo : (fnd L).headD [] ∈ fnd L := by
        cases q : fnd L with
        | nil => exact absurd q cf
        | cons a l => simp
      obtain ⟨w5, w4⟩ := found_some hc cf
      obtain ⟨p1, p2, p3, p4, p5, p6, p7⟩ := found_all hc hfo
      rw [hLn] at p2
      rw [p3] at f1 oF
      rw [p2] at f2 oK
      rw [p1] at cL
      rw [w5] at f4
      obtain ⟨fo, efo⟩ : ∃ fo, fo = (fnd L).headD [] := ⟨_, rfl⟩
      rw [← efo] at f1 oF hfo
      have hfoO := fnd_ord hfo
      rw [hLn] at hfoO
      have iF : Ints K1 fv fo := ownE_ints oF (ord_small hfoO (by omega))
      have iK : Ints K2 kv (knwL n (fnd L)) := ownE_ints oK (by have := knwL_small hfo (by omega); rw [hLn] at this; exact this)
      have iO := ownE_ints F.oO (ord_small hoC (by omega))
      have x24 := x3.trans x4
      have ex1 := fun base => run_explains (base := base) (aL.ext x14) (iF.ext (x2.trans x24)) hc (by rw [hLn]; exact hfoO)
      rw [xplD_iff.2 (fnd_mem.1 hfo).2] at ex1
      have lk4 := lenI (iK.ext x24)
      have lf4 := lenI (iF.ext (x2.trans x24))
      rw [knwL_len] at lk4
      rw [hfoO.1] at lf4
      have t0 : (((fnd L).length : Int) > 0) = True := eq_true (by omega)
      have iK4 := iK.ext x24
      have iF4 := iF.ext (x2.trans x24)
      have iO4 := iO.ext x14
      have hEq := fun base => run_equal (base := base) iF4 iO4
      have known : ∀ p, p < n → (knwL n (fnd L)).getD p 0 = -1 ∨ ((knwL n (fnd L)).getD p 0 ≠ -1 ∧ (knwL n (fnd L)).getD p 0 = fo.getD p 0 ∧ (i = 0 → (knwL n (fnd L)).getD p 0 = o.getD p 0)) := fun p hp => by
        by_cases q : (knwL n (fnd L)).getD p 0 = -1
        · exact .inl q
        · have hs := knwL_sure hp q
          exact .inr ⟨q, (hs fo hfo).symm, fun hi => (hs o (by have := F.first hi; rw [← eL] at this; exact this)).symm⟩
      by_cases c1 : (fnd L).length = 1
      · rw [if_pos c1] at w4
        rw [w4] at f3
        have t1 : (((fnd L).length : Int) > 1) = False := eq_false (by omega)
        have hone : fnd L = [fo] := by rw [efo]; exact len_one c1
        have hct := fun base => run_contains (base := base) (x := -1) iK4
        have hnm : (-1 : Int) ∉ knwL n (fnd L) := by
          rw [hone, knwL_one hfoO.1]
          intro q
          have := hfoO.2.1 _ q
          omega
        rw [decide_eq_false hnm] at hct
        by_cases ci : i = 0
        · have ti : ((i : Int) = 0) = True := eq_true (by omega)
          have hoo := F.first ci
          rw [← eL, hone, List.mem_singleton] at hoo
          rw [decide_eq_true hoo.symm] at hEq
          have hsp := @Nat.succ_ne_zero; repeat' (first | simp (disch := first | exact dschL55 | fail) only [go_sem, ↓reduceIte, hsp, r40, q6, q7, q8, hlt, gK, f1, gK1, f2, gK2, cL, f3, gK3, f4, eq_self, not_true, not_false_eq_true, neB, ne_eq, decide_false, decide_true, Bool.true_eq_false, Bool.false_eq_true, t0, t1, ti, gK4, ex1, lk4, lf4] | refine WP_drw ?_ | refine cnd_intro (fun hsp => ?_) fun hsp => ?_)
          refine WP_count [(4, 4), (22, 23), (152, 179)] 0 n (Nat.zero_le _) (fun _ j fr K' => fr 152 = .int .i64 (j : Int) ∧ K' = K4) ?_ ?_ ?_
          · exact ⟨by (simp (disch := first | exact dschL55 | fail) only [go_sem, ↓reduceIte, Int.natCast_zero]; first | done | rfl), rfl⟩
          · rintro j fr2 K' hj0 hj hA2 ⟨r152, eK'⟩
            subst eK'
            have z6 := hA2 6 rfl
            have z7 := hA2 7 rfl
            have z8 := hA2 8 rfl
            have z9 := hA2 9 rfl
            have z10 := hA2 10 rfl
            have z12 := hA2 12 rfl
            have z16 := hA2 16 rfl
            have z17 := hA2 17 rfl
            have z40 := hA2 40 rfl
            have z150 := hA2 150 rfl
            have z151 := hA2 151 rfl
            try simp (disch := first | exact dschL55 | fail) only [go_sem, ↓reduceIte, q6, q7, q8] at z6 z7 z8 z9 z10 z12 z16 z17 z40 z150 z151
            have hlt2 : ((j : Int) < (n : Int)) = True := eq_true (by omega)
            have ak := adrI (i := (j : Int)) (by omega) iK4 (by rw [knwL_len]; omega)
            have af := adrI (i := (j : Int)) (by omega) iF4 (by rw [hfoO.1]; omega)
            have ao := adrI (i := (j : Int)) (by omega) iO4 (by rw [hoC.1]; omega)
            rw [Int.toNat_natCast] at ak af ao
            have lk := loadI iK4 (i := j) (by rw [knwL_len]; omega)
            have lf := loadI iF4 (i := j) (by rw [hfoO.1]; omega)
            have lo := loadI iO4 (i := j) (by rw [hoC.1]; omega)
            have hkn := known j hj
            obtain ⟨a, ea⟩ : ∃ a, a = (knwL n (fnd L)).getD j 0 := ⟨_, rfl⟩
            rw [← ea] at lk hkn
            rcases hkn with hkn | ⟨hk1, hk2, hk3⟩
            · have u1 : (a = -1) = True := eq_true hkn
              have hsp := @Nat.succ_ne_zero; repeat' (first | simp (disch := first | exact dschL55 | fail) only [go_sem, ↓reduceIte, hsp, r152, z6, z7, z8, z9, z10, z12, z16, z17, z40, z150, z151, q6, q7, q8, hlt2, ak, lk, u1] | refine WP_drw ?_ | refine cnd_intro (fun hsp => ?_) fun hsp => ?_)
              exact ⟨by (repeat first | exact Agree.refl | assumption | refine Agree.put rfl ?_ | refine Agree.put0 ?_ | refine Agree.sub rfl (by assumption) ?_), by omega⟩
            · have u1 : (a = -1) = False := eq_false hk1
              have u2 : (a = fo.getD j 0) = True := eq_true hk2
              have u3 : (a = o.getD j 0) = True := eq_true (hk3 ci)
              have hsp := @Nat.succ_ne_zero; repeat' (first | simp (disch := first | exact dschL55 | fail) only [go_sem, ↓reduceIte, hsp, r152, z6, z7, z8, z9, z10, z12, z16, z17, z40, z150, z151, q6, q7, q8, hlt2, ak, lk, u1, af, lf, u2, ti, ao, lo, u3] | refine WP_drw ?_ | refine cnd_intro (fun hsp => ?_) fun hsp => ?_)
              exact ⟨by (repeat first | exact Agree.refl | assumption | refine Agree.put rfl ?_ | refine Agree.put0 ?_ | refine Agree.sub rfl (by assumption) ?_), by omega⟩
          · rintro fr2 K' hA2 ⟨r152, eK'⟩
            have z6 := hA2 6 rfl
            have z7 := hA2 7 rfl
            have z8 := hA2 8 rfl
            have z9 := hA2 9 rfl
            have z10 := hA2 10 rfl
            have z12 := hA2 12 rfl
            have z16 := hA2 16 rfl
            have z17 := hA2 17 rfl
            have z40 := hA2 40 rfl
            have z150 := hA2 150 rfl
            have z151 := hA2 151 rfl
            try simp (disch := first | exact dschL55 | fail) only [go_sem, ↓reduceIte, q6, q7, q8] at z6 z7 z8 z9 z10 z12 z16 z17 z40 z150 z151
            have hlt2 : ((n : Int) < (n : Int)) = False := eq_false (by omega)
            subst eK'
            obtain ⟨Z, eZ⟩ : ∃ Z, Z = K' := ⟨_, rfl⟩
            have xZ : Ext K Z := by rw [eZ]; exact x14
            rw [← eZ] at hct hEq ⊢
            have lZ := xZ.len
            have gbZ := xZ.get F.fg
            have gqZ := xZ.get F.fq
            have hZ := F.ext.trans xZ
            have lrZ : lenOpA prog Z 42 rw1 = some (.int .i64 (Ri.length : Int)) := ((F.oR.ext xZ).rows (by omega)).len (P := prog) Fc.el42
            have t12 : ((Ri.length : Int) = 12) = False := eq_false (by omega)
            have hSZ : SpAt Z (h.length + 1) v1 l1 kq := ⟨gqZ, hB1.ext hZ, hv1⟩
            obtain ⟨r, er, hr⟩ := run_Seen hSZ (by omega) ((F.oC.ext xZ).low (Nat.zero_le _)) orw1 ((F.oO.ext xZ).low (Nat.zero_le _)) (by omega) hTb F.ok.c (by rw [← en]; exact hoC) (by omega)
            obtain ⟨Z1, eZ1⟩ : ∃ Z1, Z1 = Z.set (h.length + 1) (spB v1 l1 (kq + 4)) := ⟨_, rfl⟩
            rw [← eZ1] at er
            have lZ1 : Z1.length = Z.length := by rw [eZ1, List.length_set]
            have gq1 : Z1[h.length + 1]? = some (spB v1 l1 (kq + 4)) := by rw [eZ1, List.getElem?_set_self (by omega)]
            have gb1 : Z1[H1.length]? = some (lacB T cv rw1) := by rw [eZ1, List.getElem?_set_ne (by omega)]; exact gbZ
            have hZ1 : Ext h Z1 := by rw [eZ1]; exact hZ.set (by omega)
            obtain ⟨Z2, eZ2⟩ : ∃ Z2, Z2 = Z1 ++ [rwB r] := ⟨_, rfl⟩
            have lZ2 : Z2.length = Z.length + 1 := by rw [eZ2]; simp [lZ1]
            have x12 : Ext Z1 Z2 := by rw [eZ2]; exact .app .refl
            have gr2 : Z2[Z1.length]? = some (rwB r) := by rw [eZ2]; exact get_eq rfl
            have gb2 := x12.get gb1
            have gq2 := x12.get gq1
            obtain ⟨k1, k2, k3, k4⟩ := hr
            have ub := up_bd (silk := l1) (k := kq + 4) (n := W - 1) (by omega)
            have eu := fun base => run_upto (base := base) (n := W - 1) (show SpAt Z2 (h.length + 1) v1 l1 (kq + 4) from ⟨gq2, hB1.ext (hZ1.trans x12), hv1⟩) (by omega) (by omega)
            obtain ⟨x, ex⟩ := Int.eq_ofNat_of_zero_le ub.1
            rw [ex] at eu ub
            obtain ⟨Z3, eZ3⟩ : ∃ Z3, Z3 = Z2.set (h.length + 1) (spB v1 l1 (kq + 4 + 1)) := ⟨_, rfl⟩
            rw [← eZ3] at eu
            have lZ3 : Z3.length = Z.length + 1 := by rw [eZ3, List.length_set, lZ2]
            have gr3 : Z3[Z1.length]? = some (rwB r) := by rw [eZ3, List.getElem?_set_ne (by omega)]; exact gr2
            have gb3 : Z3[H1.length]? = some (lacB T cv rw1) := by rw [eZ3, List.getElem?_set_ne (by omega)]; exact gb2
            have gq3 : Z3[h.length + 1]? = some (spB v1 l1 (kq + 4 + 1)) := by rw [eZ3, List.getElem?_set_self (by omega)]
            obtain ⟨mk, emk⟩ := Int.eq_ofNat_of_zero_le k2.1
            obtain ⟨sw, esw⟩ := Int.eq_ofNat_of_zero_le k3
            have hmk : (mk : Int) ≤ W - 1 := by rw [eW]; omega
            have hsw : sw ≤ mk := by rw [emk, esw, Int.toNat_natCast, Int.toNat_natCast] at k4; rw [← k4]; exact Nat.and_le_right
            have hma : mk &&& x ≤ mk := Nat.and_le_left
            have an := andN (t := 3) (a := mk) (b := x) (by omega) (by omega)
            have xo := xorN (t := 3) (a := sw) (b := mk &&& x) (by omega) (by omega)
            obtain ⟨s', es'⟩ : ∃ s', s' = sw ^^^ (mk &&& x) := ⟨_, rfl⟩
            rw [← es'] at xo
            obtain ⟨Z4, eZ4⟩ : ∃ Z4, Z4 = Z3.set Z1.length (rwB (r.1, (mk : Int), (s' : Int))) := ⟨_, rfl⟩
            have lZ4 : Z4.length = Z.length + 1 := by rw [eZ4, List.length_set, lZ3]
            have gr4 : Z4[Z1.length]? = some (rwB (r.1, (mk : Int), (s' : Int))) := by rw [eZ4, List.getElem?_set_self (by omega)]
            have gb4 : Z4[H1.length]? = some (lacB T cv rw1) := by rw [eZ4, List.getElem?_set_ne (by omega)]; exact gb3
            have gq4 : Z4[h.length + 1]? = some (spB v1 l1 (kq + 4 + 1)) := by rw [eZ4, List.getElem?_set_ne (by omega)]; exact gq3
            have hZ4 : Ext h Z4 := by rw [eZ4, eZ3]; exact ((hZ1.trans x12).set (by omega)).set (by omega)
            have mvI : ∀ {α : Type} {E : Enc α} {e : TypeId} {v : AVal} {l : List α}, OwnE E e (h.length + 2) K v l → OwnE E e (h.length + 2) Z4 v l := fun {α E e v l} y => by
              have y1 : OwnE E e (h.length + 2) Z1 v l := by rw [eZ1]; exact (y.ext xZ).setBox gqZ
              have y3 : OwnE E e (h.length + 2) Z3 v l := by rw [eZ3]; exact (y1.ext x12).setBox gq2
              rw [eZ4]; exact y3.setBox gr3
            obtain ⟨w', Z5, ea, oW, lW, eW5, oneW, kW⟩ := snocR (base := h.length) (r := (r.1, (mk : Int), (s' : Int))) (mvI F.oR) (by omega) (by omega) (by omega)
            have gb5 := kW.box gb4
            have gq5 := kW.box gq4
            have hZ5 : Ext h Z5 := eW5 _ (by omega) hZ4
            have rok : (0 ≤ r.1 ∧ r.1 ≤ 999) ∧ (0 ≤ r.2.1 ∧ r.2.1 ≤ 2 ^ T.toNat - 1) ∧ (0 ≤ r.2.2 ∧ r.2.2 ≤ 2 ^ T.toNat - 1) ∧ r.2.2.toNat &&& r.2.1.toNat = r.2.2.toNat := by
              refine ⟨by omega, k2, by rw [← eW]; omega, ?_⟩
              rw [← k4, Nat.and_assoc, Nat.and_self]
            have hok' := wrong_row (L := ⟨T, C, Ri⟩) (x := x) rok F.ok (by simp only; omega)
            rw [emk, esw, Int.toNat_natCast, Int.toNat_natCast, ← es'] at hok'
            have bs : ∀ {lit : Bool}, bsA prog lit Z4 42 1 [(0, .agg [.int .i64 r.1, .int .i64 (mk : Int), .int .i64 (s' : Int)])] = some (.slice (some ⟨Z4.length, 0, 0⟩) 1 1, Z4 ++ [rowE encR 70 [(r.1, (mk : Int), (s' : Int))] 0]) := fun {lit} => bsR1 (r := (r.1, (mk : Int), (s' : Int)))
            have nxt : Fnd h (Z5.set H1.length (lacB T cv w')) H1.length v1 l1 T C o cv ov (kq + 5) w' (Ri ++ [(r.1, (mk : Int), (s' : Int))]) (i + 1) :=
              ⟨by rw [List.getElem?_set_ne (by omega)]; exact gq5, by omega, hZ5.set (by omega), ⟨F.fb.1, by rw [List.length_set]; omega⟩, by rw [List.getElem?_set_self (by omega)], (kW.ownE (mvI F.oC) (by decide)).setBox gb5, (kW.ownE (mvI F.oO) (by decide)).setBox gb5, OwnE.setBox (.inl oW) gb5, hok', by simp; omega, fun q => by omega⟩
            unfold lacB at gbZ gb1 gb2 gb3 gb4 gb5
            unfold rwB at eZ2 gr2 gr3 eZ4 gr4
            rw [emk, esw] at er eZ2 gr2 gr3
            have hsp := @Nat.succ_ne_zero; repeat' (first | simp (disch := first | exact dschL55 | fail) only [go_sem, ↓reduceIte, hsp, r152, r40, z6, z7, z8, z9, z10, z12, z16, z17, z40, z150, z151, q6, q7, q8, hlt2, ti, hEq, hct, gbZ, lrZ, t12, er, ← eZ2] | refine WP_drw ?_ | refine cnd_intro (fun hsp => ?_) fun hsp => ?_)
            refine WPS_go ?_
            refine WP_wild [⟨1, 3, 222, ⟨Z1.length, 0, 2⟩, .int .i64 (sw : Int), 13⟩, ⟨3, 3, 224, ⟨Z1.length, 0, 1⟩, .int .i64 (mk : Int), 13⟩] (by kernel_rfl) (by kernel_rfl) (by kernel_rfl) ⟨refsLow_int, refsLow_int, trivial⟩ fun K9 hK => ?_
            iterate 14
              rw [TRS_cons]
              refine ⟨by first | (simp (disch := first | exact dschL55 | fail) only [go_sem, ↓reduceIte, gr2, z6, z7, z8, z9, z10, z12, z16, z17, z40, z150, z151, q6, q7, q8, gb2, sh, eu, gr3, an, xo, ← eZ4, ldsQ_cons, ldsQ_nil, grdQ_cons, grdQ_nil, if_true, Nat.reduceLeDiff]; done) | exact trivial, ?_⟩
              simp (disch := first | exact dschL55 | fail) only [go_sem, ↓reduceIte, gr2, z6, z7, z8, z9, z10, z12, z16, z17, z40, z150, z151, q6, q7, q8, gb2, sh, eu, gr3, an, xo, ← eZ4]
            rw [TRS_nil]
            refine ⟨by first | (simp (disch := first | exact dschL55 | fail) only [go_sem, ↓reduceIte, gr2, z6, z7, z8, z9, z10, z12, z16, z17, z40, z150, z151, q6, q7, q8, gb2, sh, eu, gr3, an, xo, ← eZ4, ldsQ_cons, ldsQ_nil, grdQ_cons, grdQ_nil, if_true, Nat.reduceLeDiff]; done) | exact trivial, ?_⟩
            subst hK
            have hsp := @Nat.succ_ne_zero; repeat' (first | simp (disch := first | exact dschL55 | fail) only [go_sem, ↓reduceIte, hsp, r40, z6, z7, z8, z9, z10, z12, z16, z17, z40, z150, z151, q6, q7, q8, gb4, gr4, bs, ea, gb5] | refine WP_drw ?_ | refine cnd_intro (fun hsp => ?_) fun hsp => ?_)
            exact ⟨by (repeat first | exact Agree.refl | assumption | refine Agree.put rfl ?_ | refine Agree.put0 ?_ | refine Agree.sub rfl (by assumption) ?_), by omega, _, _, _, nxt⟩
        · have ti : ((i : Int) = 0) = False := eq_false (by omega)
          have hsp := @Nat.succ_ne_zero; repeat' (first | simp (disch := first | exact dschL55 | fail) only [go_sem, ↓reduceIte, hsp, r40, q6, q7, q8, hlt, gK, f1, gK1, f2, gK2, cL, f3, gK3, f4, eq_self, not_true, not_false_eq_true, neB, ne_eq, decide_false, decide_true, Bool.true_eq_false, Bool.false_eq_true, t0, t1, ti, gK4, ex1, lk4, lf4] | refine WP_drw ?_ | refine cnd_intro (fun hsp => ?_) fun hsp => ?_)
          refine WP_count [(4, 4), (22, 23), (152, 179)] 0 n (Nat.zero_le _) (fun _ j fr K' => fr 152 = .int .i64 (j : Int) ∧ K' = K4) ?_ ?_ ?_
          · exact ⟨by (simp (disch := first | exact dschL55 | fail) only [go_sem, ↓reduceIte, Int.natCast_zero]; first | done | rfl), rfl⟩
          · rintro j fr2 K' hj0 hj hA2 ⟨r152, eK'⟩
            subst eK'
            have z6 := hA2 6 rfl
            have z7 := hA2 7 rfl
            have z8 := hA2 8 rfl
            have z9 := hA2 9 rfl
            have z10 := hA2 10 rfl
            have z12 := hA2 12 rfl
            have z16 := hA2 16 rfl
            have z17 := hA2 17 rfl
            have z40 := hA2 40 rfl
            have z150 := hA2 150 rfl
            have z151 := hA2 151 rfl
            try simp (disch := first | exact dschL55 | fail) only [go_sem, ↓reduceIte, q6, q7, q8] at z6 z7 z8 z9 z10 z12 z16 z17 z40 z150 z151
            have hlt2 : ((j : Int) < (n : Int)) = True := eq_true (by omega)
            have ak := adrI (i := (j : Int)) (by omega) iK4 (by rw [knwL_len]; omega)
            have af := adrI (i := (j : Int)) (by omega) iF4 (by rw [hfoO.1]; omega)
            have ao := adrI (i := (j : Int)) (by omega) iO4 (by rw [hoC.1]; omega)
            rw [Int.toNat_natCast] at ak af ao
            have lk := loadI iK4 (i := j) (by rw [knwL_len]; omega)
            have lf := loadI iF4 (i := j) (by rw [hfoO.1]; omega)
            have lo := loadI iO4 (i := j) (by rw [hoC.1]; omega)
            have hkn := known j hj
            obtain ⟨a, ea⟩ : ∃ a, a = (knwL n (fnd L)).getD j 0 := ⟨_, rfl⟩
            rw [← ea] at lk hkn
            rcases hkn with hkn | ⟨hk1, hk2, hk3⟩
            · have u1 : (a = -1) = True := eq_true hkn
              have hsp := @Nat.succ_ne_zero; repeat' (first | simp (disch := first | exact dschL55 | fail) only [go_sem, ↓reduceIte, hsp, r152, z6, z7, z8, z9, z10, z12, z16, z17, z40, z150, z151, q6, q7, q8, hlt2, ak, lk, u1] | refine WP_drw ?_ | refine cnd_intro (fun hsp => ?_) fun hsp => ?_)
              exact ⟨by (repeat first | exact Agree.refl | assumption | refine Agree.put rfl ?_ | refine Agree.put0 ?_ | refine Agree.sub rfl (by assumption) ?_), by omega⟩
            · have u1 : (a = -1) = False := eq_false hk1
              have u2 : (a = fo.getD j 0) = True := eq_true hk2
              have hsp := @Nat.succ_ne_zero; repeat' (first | simp (disch := first | exact dschL55 | fail) only [go_sem, ↓reduceIte, hsp, r152, z6, z7, z8, z9, z10, z12, z16, z17, z40, z150, z151, q6, q7, q8, hlt2, ak, lk, u1, af, lf, u2, ti] | refine WP_drw ?_ | refine cnd_intro (fun hsp => ?_) fun hsp => ?_)
              exact ⟨by (repeat first | exact Agree.refl | assumption | refine Agree.put rfl ?_ | refine Agree.put0 ?_ | refine Agree.sub rfl (by assumption) ?_), by omega⟩
          · rintro fr2 K' hA2 ⟨r152, eK'⟩
            have z6 := hA2 6 rfl
            have z7 := hA2 7 rfl
            have z8 := hA2 8 rfl
            have z9 := hA2 9 rfl
            have z10 := hA2 10 rfl
            have z12 := hA2 12 rfl
            have z16 := hA2 16 rfl
            have z17 := hA2 17 rfl
            have z40 := hA2 40 rfl
            have z150 := hA2 150 rfl
            have z151 := hA2 151 rfl
            try simp (disch := first | exact dschL55 | fail) only [go_sem, ↓reduceIte, q6, q7, q8] at z6 z7 z8 z9 z10 z12 z16 z17 z40 z150 z151
            have hlt2 : ((n : Int) < (n : Int)) = False := eq_false (by omega)
            subst eK'
            obtain ⟨Z, eZ⟩ : ∃ Z, Z = K' := ⟨_, rfl⟩
            have xZ : Ext K Z := by rw [eZ]; exact x14
            rw [← eZ] at hct hEq ⊢
            have lZ := xZ.len
            have gbZ := xZ.get F.fg
            have gqZ := xZ.get F.fq
            have hZ := F.ext.trans xZ
            have lrZ : lenOpA prog Z 42 rw1 = some (.int .i64 (Ri.length : Int)) := ((F.oR.ext xZ).rows (by omega)).len (P := prog) Fc.el42
            have t12 : ((Ri.length : Int) = 12) = False := eq_false (by omega)
            have hSZ : SpAt Z (h.length + 1) v1 l1 kq := ⟨gqZ, hB1.ext hZ, hv1⟩
            obtain ⟨r, er, hr⟩ := run_Seen hSZ (by omega) ((F.oC.ext xZ).low (Nat.zero_le _)) orw1 ((F.oO.ext xZ).low (Nat.zero_le _)) (by omega) hTb F.ok.c (by rw [← en]; exact hoC) (by omega)
            obtain ⟨Z1, eZ1⟩ : ∃ Z1, Z1 = Z.set (h.length + 1) (spB v1 l1 (kq + 4)) := ⟨_, rfl⟩
            rw [← eZ1] at er
            have lZ1 : Z1.length = Z.length := by rw [eZ1, List.length_set]
            have gq1 : Z1[h.length + 1]? = some (spB v1 l1 (kq + 4)) := by rw [eZ1, List.getElem?_set_self (by omega)]
            have gb1 : Z1[H1.length]? = some (lacB T cv rw1) := by rw [eZ1, List.getElem?_set_ne (by omega)]; exact gbZ
            have hZ1 : Ext h Z1 := by rw [eZ1]; exact hZ.set (by omega)
            obtain ⟨Z2, eZ2⟩ : ∃ Z2, Z2 = Z1 ++ [rwB r] := ⟨_, rfl⟩
            have lZ2 : Z2.length = Z.length + 1 := by rw [eZ2]; simp [lZ1]
            have x12 : Ext Z1 Z2 := by rw [eZ2]; exact .app .refl
            have gr2 : Z2[Z1.length]? = some (rwB r) := by rw [eZ2]; exact get_eq rfl
            have gb2 := x12.get gb1
            have gq2 := x12.get gq1
            obtain ⟨k1, k2, k3, k4⟩ := hr
            have ub := up_bd (silk := l1) (k := kq + 4) (n := W - 1) (by omega)
            have eu := fun base => run_upto (base := base) (n := W - 1) (show SpAt Z2 (h.length + 1) v1 l1 (kq + 4) from ⟨gq2, hB1.ext (hZ1.trans x12), hv1⟩) (by omega) (by omega)
            obtain ⟨x, ex⟩ := Int.eq_ofNat_of_zero_le ub.1
            rw [ex] at eu ub
            obtain ⟨Z3, eZ3⟩ : ∃ Z3, Z3 = Z2.set (h.length + 1) (spB v1 l1 (kq + 4 + 1)) := ⟨_, rfl⟩
            rw [← eZ3] at eu
            have lZ3 : Z3.length = Z.length + 1 := by rw [eZ3, List.length_set, lZ2]
            have gr3 : Z3[Z1.length]? = some (rwB r) := by rw [eZ3, List.getElem?_set_ne (by omega)]; exact gr2
            have gb3 : Z3[H1.length]? = some (lacB T cv rw1) := by rw [eZ3, List.getElem?_set_ne (by omega)]; exact gb2
            have gq3 : Z3[h.length + 1]? = some (spB v1 l1 (kq + 4 + 1)) := by rw [eZ3, List.getElem?_set_self (by omega)]
            obtain ⟨mk, emk⟩ := Int.eq_ofNat_of_zero_le k2.1
            obtain ⟨sw, esw⟩ := Int.eq_ofNat_of_zero_le k3
            have hmk : (mk : Int) ≤ W - 1 := by rw [eW]; omega
            have hsw : sw ≤ mk := by rw [emk, esw, Int.toNat_natCast, Int.toNat_natCast] at k4; rw [← k4]; exact Nat.and_le_right
            have hma : mk &&& x ≤ mk := Nat.and_le_left
            have an := andN (t := 3) (a := mk) (b := x) (by omega) (by omega)
            have xo := xorN (t := 3) (a := sw) (b := mk &&& x) (by omega) (by omega)
            obtain ⟨s', es'⟩ : ∃ s', s' = sw ^^^ (mk &&& x) := ⟨_, rfl⟩
            rw [← es'] at xo
            obtain ⟨Z4, eZ4⟩ : ∃ Z4, Z4 = Z3.set Z1.length (rwB (r.1, (mk : Int), (s' : Int))) := ⟨_, rfl⟩
            have lZ4 : Z4.length = Z.length + 1 := by rw [eZ4, List.length_set, lZ3]
            have gr4 : Z4[Z1.length]? = some (rwB (r.1, (mk : Int), (s' : Int))) := by rw [eZ4, List.getElem?_set_self (by omega)]
            have gb4 : Z4[H1.length]? = some (lacB T cv rw1) := by rw [eZ4, List.getElem?_set_ne (by omega)]; exact gb3
            have gq4 : Z4[h.length + 1]? = some (spB v1 l1 (kq + 4 + 1)) := by rw [eZ4, List.getElem?_set_ne (by omega)]; exact gq3
            have hZ4 : Ext h Z4 := by rw [eZ4, eZ3]; exact ((hZ1.trans x12).set (by omega)).set (by omega)
            have mvI : ∀ {α : Type} {E : Enc α} {e : TypeId} {v : AVal} {l : List α}, OwnE E e (h.length + 2) K v l → OwnE E e (h.length + 2) Z4 v l := fun {α E e v l} y => by
              have y1 : OwnE E e (h.length + 2) Z1 v l := by rw [eZ1]; exact (y.ext xZ).setBox gqZ
              have y3 : OwnE E e (h.length + 2) Z3 v l := by rw [eZ3]; exact (y1.ext x12).setBox gq2
              rw [eZ4]; exact y3.setBox gr3
            obtain ⟨w', Z5, ea, oW, lW, eW5, oneW, kW⟩ := snocR (base := h.length) (r := (r.1, (mk : Int), (s' : Int))) (mvI F.oR) (by omega) (by omega) (by omega)
            have gb5 := kW.box gb4
            have gq5 := kW.box gq4
            have hZ5 : Ext h Z5 := eW5 _ (by omega) hZ4
            have rok : (0 ≤ r.1 ∧ r.1 ≤ 999) ∧ (0 ≤ r.2.1 ∧ r.2.1 ≤ 2 ^ T.toNat - 1) ∧ (0 ≤ r.2.2 ∧ r.2.2 ≤ 2 ^ T.toNat - 1) ∧ r.2.2.toNat &&& r.2.1.toNat = r.2.2.toNat := by
              refine ⟨by omega, k2, by rw [← eW]; omega, ?_⟩
              rw [← k4, Nat.and_assoc, Nat.and_self]
            have hok' := wrong_row (L := ⟨T, C, Ri⟩) (x := x) rok F.ok (by simp only; omega)
            rw [emk, esw, Int.toNat_natCast, Int.toNat_natCast, ← es'] at hok'
            have bs : ∀ {lit : Bool}, bsA prog lit Z4 42 1 [(0, .agg [.int .i64 r.1, .int .i64 (mk : Int), .int .i64 (s' : Int)])] = some (.slice (some ⟨Z4.length, 0, 0⟩) 1 1, Z4 ++ [rowE encR 70 [(r.1, (mk : Int), (s' : Int))] 0]) := fun {lit} => bsR1 (r := (r.1, (mk : Int), (s' : Int)))
            have nxt : Fnd h (Z5.set H1.length (lacB T cv w')) H1.length v1 l1 T C o cv ov (kq + 5) w' (Ri ++ [(r.1, (mk : Int), (s' : Int))]) (i + 1) :=
              ⟨by rw [List.getElem?_set_ne (by omega)]; exact gq5, by omega, hZ5.set (by omega), ⟨F.fb.1, by rw [List.length_set]; omega⟩, by rw [List.getElem?_set_self (by omega)], (kW.ownE (mvI F.oC) (by decide)).setBox gb5, (kW.ownE (mvI F.oO) (by decide)).setBox gb5, OwnE.setBox (.inl oW) gb5, hok', by simp; omega, fun q => by omega⟩
            unfold lacB at gbZ gb1 gb2 gb3 gb4 gb5
            unfold rwB at eZ2 gr2 gr3 eZ4 gr4
            rw [emk, esw] at er eZ2 gr2 gr3
            have hsp := @Nat.succ_ne_zero; repeat' (first | simp (disch := first | exact dschL55 | fail) only [go_sem, ↓reduceIte, hsp, r152, r40, z6, z7, z8, z9, z10, z12, z16, z17, z40, z150, z151, q6, q7, q8, hlt2, ti, hEq, hct, gbZ, lrZ, t12, er, ← eZ2] | refine WP_drw ?_ | refine cnd_intro (fun hsp => ?_) fun hsp => ?_)
            refine WPS_go ?_
            refine WP_wild [⟨1, 3, 222, ⟨Z1.length, 0, 2⟩, .int .i64 (sw : Int), 13⟩, ⟨3, 3, 224, ⟨Z1.length, 0, 1⟩, .int .i64 (mk : Int), 13⟩] (by kernel_rfl) (by kernel_rfl) (by kernel_rfl) ⟨refsLow_int, refsLow_int, trivial⟩ fun K9 hK => ?_
            iterate 14
              rw [TRS_cons]
              refine ⟨by first | (simp (disch := first | exact dschL55 | fail) only [go_sem, ↓reduceIte, gr2, z6, z7, z8, z9, z10, z12, z16, z17, z40, z150, z151, q6, q7, q8, gb2, sh, eu, gr3, an, xo, ← eZ4, ldsQ_cons, ldsQ_nil, grdQ_cons, grdQ_nil, if_true, Nat.reduceLeDiff]; done) | exact trivial, ?_⟩
              simp (disch := first | exact dschL55 | fail) only [go_sem, ↓reduceIte, gr2, z6, z7, z8, z9, z10, z12, z16, z17, z40, z150, z151, q6, q7, q8, gb2, sh, eu, gr3, an, xo, ← eZ4]
            rw [TRS_nil]
            refine ⟨by first | (simp (disch := first | exact dschL55 | fail) only [go_sem, ↓reduceIte, gr2, z6, z7, z8, z9, z10, z12, z16, z17, z40, z150, z151, q6, q7, q8, gb2, sh, eu, gr3, an, xo, ← eZ4, ldsQ_cons, ldsQ_nil, grdQ_cons, grdQ_nil, if_true, Nat.reduceLeDiff]; done) | exact trivial, ?_⟩
            subst hK
            have hsp := @Nat.succ_ne_zero; repeat' (first | simp (disch := first | exact dschL55 | fail) only [go_sem, ↓reduceIte, hsp, r40, z6, z7, z8, z9, z10, z12, z16, z17, z40, z150, z151, q6, q7, q8, gb4, gr4, bs, ea, gb5] | refine WP_drw ?_ | refine cnd_intro (fun hsp => ?_) fun hsp => ?_)
            exact ⟨by (repeat first | exact Agree.refl | assumption | refine Agree.put rfl ?_ | refine Agree.put0 ?_ | refine Agree.sub rfl (by assumption) ?_), by omega, _, _, _, nxt⟩
      · rw [if_neg c1] at w4
        rw [w4] at f3
        have t1 : (((fnd L).length : Int) > 1) = True := eq_true (by omega)
        obtain ⟨g1, g2', g3, g4⟩ := ring_is hc (rG2 w4)
        rw [← efo] at g1 g2' g3
        have iG4 := (own_ints oG g4).ext x4
        obtain ⟨_, Z, f5, x5, tv, rfl, oT⟩ := run_Turned (base := h.length) (h := K4) (by omega) (aL.ext x14) iF4 iG4
        rw [g1] at f5 oT
        have xZ := x14.trans x5
        have otv := oT.one
        have hTo := fnd_ord g2'
        rw [hLn] at hTo
        have iT : Ints Z tv (trnL fo rl) := own_ints oT (ord_small hTo (by omega))
        have ex2 := fun base => run_explains (base := base) (aL.ext xZ) iT hc (by rw [hLn]; exact hTo)
        rw [xplD_iff.2 (fnd_mem.1 g2').2] at ex2
        have hE2 := fun base => run_equal (base := base) (iF4.ext x5) iT
        rw [decide_eq_false (fun q => g3 q.symm)] at hE2
        by_cases ci : i = 0
        · have ti : ((i : Int) = 0) = True := eq_true (by omega)
          have hsp := @Nat.succ_ne_zero; repeat' (first | simp (disch := first | exact dschL55 | fail) only [go_sem, ↓reduceIte, hsp, r40, q6, q7, q8, hlt, gK, f1, gK1, f2, gK2, cL, f3, gK3, f4, eq_self, not_true, not_false_eq_true, neB, ne_eq, decide_false, decide_true, Bool.true_eq_false, Bool.false_eq_true, t0, t1, ti, gK4, ex1, lk4, lf4] | refine WP_drw ?_ | refine cnd_intro (fun hsp => ?_) fun hsp => ?_)
          refine WP_count [(4, 4), (22, 23), (152, 179)] 0 n (Nat.zero_le _) (fun _ j fr K' => fr 152 = .int .i64 (j : Int) ∧ K' = K4) ?_ ?_ ?_
          · exact ⟨by (simp (disch := first | exact dschL55 | fail) only [go_sem, ↓reduceIte, Int.natCast_zero]; first | done | rfl), rfl⟩
          · rintro j fr2 K' hj0 hj hA2 ⟨r152, eK'⟩
            subst eK'
            have z6 := hA2 6 rfl
            have z7 := hA2 7 rfl
            have z8 := hA2 8 rfl
            have z9 := hA2 9 rfl
            have z10 := hA2 10 rfl
            have z12 := hA2 12 rfl
            have z16 := hA2 16 rfl
            have z17 := hA2 17 rfl
            have z40 := hA2 40 rfl
            have z150 := hA2 150 rfl
            have z151 := hA2 151 rfl
            try simp (disch := first | exact dschL55 | fail) only [go_sem, ↓reduceIte, q6, q7, q8] at z6 z7 z8 z9 z10 z12 z16 z17 z40 z150 z151
            have hlt2 : ((j : Int) < (n : Int)) = True := eq_true (by omega)
            have ak := adrI (i := (j : Int)) (by omega) iK4 (by rw [knwL_len]; omega)
            have af := adrI (i := (j : Int)) (by omega) iF4 (by rw [hfoO.1]; omega)
            have ao := adrI (i := (j : Int)) (by omega) iO4 (by rw [hoC.1]; omega)
            rw [Int.toNat_natCast] at ak af ao
            have lk := loadI iK4 (i := j) (by rw [knwL_len]; omega)
            have lf := loadI iF4 (i := j) (by rw [hfoO.1]; omega)
            have lo := loadI iO4 (i := j) (by rw [hoC.1]; omega)
            have hkn := known j hj
            obtain ⟨a, ea⟩ : ∃ a, a = (knwL n (fnd L)).getD j 0 := ⟨_, rfl⟩
            rw [← ea] at lk hkn
            rcases hkn with hkn | ⟨hk1, hk2, hk3⟩
            · have u1 : (a = -1) = True := eq_true hkn
              have hsp := @Nat.succ_ne_zero; repeat' (first | simp (disch := first | exact dschL55 | fail) only [go_sem, ↓reduceIte, hsp, r152, z6, z7, z8, z9, z10, z12, z16, z17, z40, z150, z151, q6, q7, q8, hlt2, ak, lk, u1] | refine WP_drw ?_ | refine cnd_intro (fun hsp => ?_) fun hsp => ?_)
              exact ⟨by (repeat first | exact Agree.refl | assumption | refine Agree.put rfl ?_ | refine Agree.put0 ?_ | refine Agree.sub rfl (by assumption) ?_), by omega⟩
            · have u1 : (a = -1) = False := eq_false hk1
              have u2 : (a = fo.getD j 0) = True := eq_true hk2
              have u3 : (a = o.getD j 0) = True := eq_true (hk3 ci)
              have hsp := @Nat.succ_ne_zero; repeat' (first | simp (disch := first | exact dschL55 | fail) only [go_sem, ↓reduceIte, hsp, r152, z6, z7, z8, z9, z10, z12, z16, z17, z40, z150, z151, q6, q7, q8, hlt2, ak, lk, u1, af, lf, u2, ti, ao, lo, u3] | refine WP_drw ?_ | refine cnd_intro (fun hsp => ?_) fun hsp => ?_)
              exact ⟨by (repeat first | exact Agree.refl | assumption | refine Agree.put rfl ?_ | refine Agree.put0 ?_ | refine Agree.sub rfl (by assumption) ?_), by omega⟩
          · rintro fr2 K' hA2 ⟨r152, eK'⟩
            have z6 := hA2 6 rfl
            have z7 := hA2 7 rfl
            have z8 := hA2 8 rfl
            have z9 := hA2 9 rfl
            have z10 := hA2 10 rfl
            have z12 := hA2 12 rfl
            have z16 := hA2 16 rfl
            have z17 := hA2 17 rfl
            have z40 := hA2 40 rfl
            have z150 := hA2 150 rfl
            have z151 := hA2 151 rfl
            try simp (disch := first | exact dschL55 | fail) only [go_sem, ↓reduceIte, q6, q7, q8] at z6 z7 z8 z9 z10 z12 z16 z17 z40 z150 z151
            have hlt2 : ((n : Int) < (n : Int)) = False := eq_false (by omega)
            subst eK'
            have lZ := xZ.len
            have gbZ := xZ.get F.fg
            have gqZ := xZ.get F.fq
            have hZ := F.ext.trans xZ
            have lrZ : lenOpA prog Z 42 rw1 = some (.int .i64 (Ri.length : Int)) := ((F.oR.ext xZ).rows (by omega)).len (P := prog) Fc.el42
            have t12 : ((Ri.length : Int) = 12) = False := eq_false (by omega)
            have hSZ : SpAt Z (h.length + 1) v1 l1 kq := ⟨gqZ, hB1.ext hZ, hv1⟩
            obtain ⟨r, er, hr⟩ := run_Seen hSZ (by omega) ((F.oC.ext xZ).low (Nat.zero_le _)) orw1 ((F.oO.ext xZ).low (Nat.zero_le _)) (by omega) hTb F.ok.c (by rw [← en]; exact hoC) (by omega)
            obtain ⟨Z1, eZ1⟩ : ∃ Z1, Z1 = Z.set (h.length + 1) (spB v1 l1 (kq + 4)) := ⟨_, rfl⟩
            rw [← eZ1] at er
            have lZ1 : Z1.length = Z.length := by rw [eZ1, List.length_set]
            have gq1 : Z1[h.length + 1]? = some (spB v1 l1 (kq + 4)) := by rw [eZ1, List.getElem?_set_self (by omega)]
            have gb1 : Z1[H1.length]? = some (lacB T cv rw1) := by rw [eZ1, List.getElem?_set_ne (by omega)]; exact gbZ
            have hZ1 : Ext h Z1 := by rw [eZ1]; exact hZ.set (by omega)
            obtain ⟨Z2, eZ2⟩ : ∃ Z2, Z2 = Z1 ++ [rwB r] := ⟨_, rfl⟩
            have lZ2 : Z2.length = Z.length + 1 := by rw [eZ2]; simp [lZ1]
            have x12 : Ext Z1 Z2 := by rw [eZ2]; exact .app .refl
            have gr2 : Z2[Z1.length]? = some (rwB r) := by rw [eZ2]; exact get_eq rfl
            have gb2 := x12.get gb1
            have gq2 := x12.get gq1
            obtain ⟨k1, k2, k3, k4⟩ := hr
            have ub := up_bd (silk := l1) (k := kq + 4) (n := W - 1) (by omega)
            have eu := fun base => run_upto (base := base) (n := W - 1) (show SpAt Z2 (h.length + 1) v1 l1 (kq + 4) from ⟨gq2, hB1.ext (hZ1.trans x12), hv1⟩) (by omega) (by omega)
            obtain ⟨x, ex⟩ := Int.eq_ofNat_of_zero_le ub.1
            rw [ex] at eu ub
            obtain ⟨Z3, eZ3⟩ : ∃ Z3, Z3 = Z2.set (h.length + 1) (spB v1 l1 (kq + 4 + 1)) := ⟨_, rfl⟩
            rw [← eZ3] at eu
            have lZ3 : Z3.length = Z.length + 1 := by rw [eZ3, List.length_set, lZ2]
            have gr3 : Z3[Z1.length]? = some (rwB r) := by rw [eZ3, List.getElem?_set_ne (by omega)]; exact gr2
            have gb3 : Z3[H1.length]? = some (lacB T cv rw1) := by rw [eZ3, List.getElem?_set_ne (by omega)]; exact gb2
            have gq3 : Z3[h.length + 1]? = some (spB v1 l1 (kq + 4 + 1)) := by rw [eZ3, List.getElem?_set_self (by omega)]
            obtain ⟨mk, emk⟩ := Int.eq_ofNat_of_zero_le k2.1
            obtain ⟨sw, esw⟩ := Int.eq_ofNat_of_zero_le k3
            have hmk : (mk : Int) ≤ W - 1 := by rw [eW]; omega
            have hsw : sw ≤ mk := by rw [emk, esw, Int.toNat_natCast, Int.toNat_natCast] at k4; rw [← k4]; exact Nat.and_le_right
            have hma : mk &&& x ≤ mk := Nat.and_le_left
            have an := andN (t := 3) (a := mk) (b := x) (by omega) (by omega)
            have xo := xorN (t := 3) (a := sw) (b := mk &&& x) (by omega) (by omega)
            obtain ⟨s', es'⟩ : ∃ s', s' = sw ^^^ (mk &&& x) := ⟨_, rfl⟩
            rw [← es'] at xo
            obtain ⟨Z4, eZ4⟩ : ∃ Z4, Z4 = Z3.set Z1.length (rwB (r.1, (mk : Int), (s' : Int))) := ⟨_, rfl⟩
            have lZ4 : Z4.length = Z.length + 1 := by rw [eZ4, List.length_set, lZ3]
            have gr4 : Z4[Z1.length]? = some (rwB (r.1, (mk : Int), (s' : Int))) := by rw [eZ4, List.getElem?_set_self (by omega)]
            have gb4 : Z4[H1.length]? = some (lacB T cv rw1) := by rw [eZ4, List.getElem?_set_ne (by omega)]; exact gb3
            have gq4 : Z4[h.length + 1]? = some (spB v1 l1 (kq + 4 + 1)) := by rw [eZ4, List.getElem?_set_ne (by omega)]; exact gq3
            have hZ4 : Ext h Z4 := by rw [eZ4, eZ3]; exact ((hZ1.trans x12).set (by omega)).set (by omega)
            have mvI : ∀ {α : Type} {E : Enc α} {e : TypeId} {v : AVal} {l : List α}, OwnE E e (h.length + 2) K v l → OwnE E e (h.length + 2) Z4 v l := fun {α E e v l} y => by
              have y1 : OwnE E e (h.length + 2) Z1 v l := by rw [eZ1]; exact (y.ext xZ).setBox gqZ
              have y3 : OwnE E e (h.length + 2) Z3 v l := by rw [eZ3]; exact (y1.ext x12).setBox gq2
              rw [eZ4]; exact y3.setBox gr3
            obtain ⟨w', Z5, ea, oW, lW, eW5, oneW, kW⟩ := snocR (base := h.length) (r := (r.1, (mk : Int), (s' : Int))) (mvI F.oR) (by omega) (by omega) (by omega)
            have gb5 := kW.box gb4
            have gq5 := kW.box gq4
            have hZ5 : Ext h Z5 := eW5 _ (by omega) hZ4
            have rok : (0 ≤ r.1 ∧ r.1 ≤ 999) ∧ (0 ≤ r.2.1 ∧ r.2.1 ≤ 2 ^ T.toNat - 1) ∧ (0 ≤ r.2.2 ∧ r.2.2 ≤ 2 ^ T.toNat - 1) ∧ r.2.2.toNat &&& r.2.1.toNat = r.2.2.toNat := by
              refine ⟨by omega, k2, by rw [← eW]; omega, ?_⟩
              rw [← k4, Nat.and_assoc, Nat.and_self]
            have hok' := wrong_row (L := ⟨T, C, Ri⟩) (x := x) rok F.ok (by simp only; omega)
            rw [emk, esw, Int.toNat_natCast, Int.toNat_natCast, ← es'] at hok'
            have bs : ∀ {lit : Bool}, bsA prog lit Z4 42 1 [(0, .agg [.int .i64 r.1, .int .i64 (mk : Int), .int .i64 (s' : Int)])] = some (.slice (some ⟨Z4.length, 0, 0⟩) 1 1, Z4 ++ [rowE encR 70 [(r.1, (mk : Int), (s' : Int))] 0]) := fun {lit} => bsR1 (r := (r.1, (mk : Int), (s' : Int)))
            have nxt : Fnd h (Z5.set H1.length (lacB T cv w')) H1.length v1 l1 T C o cv ov (kq + 5) w' (Ri ++ [(r.1, (mk : Int), (s' : Int))]) (i + 1) :=
              ⟨by rw [List.getElem?_set_ne (by omega)]; exact gq5, by omega, hZ5.set (by omega), ⟨F.fb.1, by rw [List.length_set]; omega⟩, by rw [List.getElem?_set_self (by omega)], (kW.ownE (mvI F.oC) (by decide)).setBox gb5, (kW.ownE (mvI F.oO) (by decide)).setBox gb5, OwnE.setBox (.inl oW) gb5, hok', by simp; omega, fun q => by omega⟩
            unfold lacB at gbZ gb1 gb2 gb3 gb4 gb5
            unfold rwB at eZ2 gr2 gr3 eZ4 gr4
            rw [emk, esw] at er eZ2 gr2 gr3
            have hsp := @Nat.succ_ne_zero; repeat' (first | simp (disch := first | exact dschL55 | fail) only [go_sem, ↓reduceIte, hsp, r152, r40, z6, z7, z8, z9, z10, z12, z16, z17, z40, z150, z151, q6, q7, q8, hlt2, eq_self, gK4, f5, ex2, hE2, gbZ, lrZ, t12, er, ← eZ2] | refine WP_drw ?_ | refine cnd_intro (fun hsp => ?_) fun hsp => ?_)
            refine WPS_go ?_
            refine WP_wild [⟨1, 3, 222, ⟨Z1.length, 0, 2⟩, .int .i64 (sw : Int), 13⟩, ⟨3, 3, 224, ⟨Z1.length, 0, 1⟩, .int .i64 (mk : Int), 13⟩] (by kernel_rfl) (by kernel_rfl) (by kernel_rfl) ⟨refsLow_int, refsLow_int, trivial⟩ fun K9 hK => ?_
            iterate 14
              rw [TRS_cons]
              refine ⟨by first | (simp (disch := first | exact dschL55 | fail) only [go_sem, ↓reduceIte, gr2, z6, z7, z8, z9, z10, z12, z16, z17, z40, z150, z151, q6, q7, q8, gb2, sh, eu, gr3, an, xo, ← eZ4, ldsQ_cons, ldsQ_nil, grdQ_cons, grdQ_nil, if_true, Nat.reduceLeDiff]; done) | exact trivial, ?_⟩
              simp (disch := first | exact dschL55 | fail) only [go_sem, ↓reduceIte, gr2, z6, z7, z8, z9, z10, z12, z16, z17, z40, z150, z151, q6, q7, q8, gb2, sh, eu, gr3, an, xo, ← eZ4]
            rw [TRS_nil]
            refine ⟨by first | (simp (disch := first | exact dschL55 | fail) only [go_sem, ↓reduceIte, gr2, z6, z7, z8, z9, z10, z12, z16, z17, z40, z150, z151, q6, q7, q8, gb2, sh, eu, gr3, an, xo, ← eZ4, ldsQ_cons, ldsQ_nil, grdQ_cons, grdQ_nil, if_true, Nat.reduceLeDiff]; done) | exact trivial, ?_⟩
            subst hK
            have hsp := @Nat.succ_ne_zero; repeat' (first | simp (disch := first | exact dschL55 | fail) only [go_sem, ↓reduceIte, hsp, r40, z6, z7, z8, z9, z10, z12, z16, z17, z40, z150, z151, q6, q7, q8, gb4, gr4, bs, ea, gb5] | refine WP_drw ?_ | refine cnd_intro (fun hsp => ?_) fun hsp => ?_)
            exact ⟨by (repeat first | exact Agree.refl | assumption | refine Agree.put rfl ?_ | refine Agree.put0 ?_ | refine Agree.sub rfl (by assumption) ?_), by omega, _, _, _, nxt⟩
        · have ti : ((i : Int) = 0) = False := eq_false (by omega)
          have hsp := @Nat.succ_ne_zero; repeat' (first | simp (disch := first | exact dschL55 | fail) only [go_sem, ↓reduceIte, hsp, r40, q6, q7, q8, hlt, gK, f1, gK1, f2, gK2, cL, f3, gK3, f4, eq_self, not_true, not_false_eq_true, neB, ne_eq, decide_false, decide_true, Bool.true_eq_false, Bool.false_eq_true, t0, t1, ti, gK4, ex1, lk4, lf4] | refine WP_drw ?_ | refine cnd_intro (fun hsp => ?_) fun hsp => ?_)
          refine WP_count [(4, 4), (22, 23), (152, 179)] 0 n (Nat.zero_le _) (fun _ j fr K' => fr 152 = .int .i64 (j : Int) ∧ K' = K4) ?_ ?_ ?_
          · exact ⟨by (simp (disch := first | exact dschL55 | fail) only [go_sem, ↓reduceIte, Int.natCast_zero]; first | done | rfl), rfl⟩
          · rintro j fr2 K' hj0 hj hA2 ⟨r152, eK'⟩
            subst eK'
            have z6 := hA2 6 rfl
            have z7 := hA2 7 rfl
            have z8 := hA2 8 rfl
            have z9 := hA2 9 rfl
            have z10 := hA2 10 rfl
            have z12 := hA2 12 rfl
            have z16 := hA2 16 rfl
            have z17 := hA2 17 rfl
            have z40 := hA2 40 rfl
            have z150 := hA2 150 rfl
            have z151 := hA2 151 rfl
            try simp (disch := first | exact dschL55 | fail) only [go_sem, ↓reduceIte, q6, q7, q8] at z6 z7 z8 z9 z10 z12 z16 z17 z40 z150 z151
            have hlt2 : ((j : Int) < (n : Int)) = True := eq_true (by omega)
            have ak := adrI (i := (j : Int)) (by omega) iK4 (by rw [knwL_len]; omega)
            have af := adrI (i := (j : Int)) (by omega) iF4 (by rw [hfoO.1]; omega)
            have ao := adrI (i := (j : Int)) (by omega) iO4 (by rw [hoC.1]; omega)
            rw [Int.toNat_natCast] at ak af ao
            have lk := loadI iK4 (i := j) (by rw [knwL_len]; omega)
            have lf := loadI iF4 (i := j) (by rw [hfoO.1]; omega)
            have lo := loadI iO4 (i := j) (by rw [hoC.1]; omega)
            have hkn := known j hj
            obtain ⟨a, ea⟩ : ∃ a, a = (knwL n (fnd L)).getD j 0 := ⟨_, rfl⟩
            rw [← ea] at lk hkn
            rcases hkn with hkn | ⟨hk1, hk2, hk3⟩
            · have u1 : (a = -1) = True := eq_true hkn
              have hsp := @Nat.succ_ne_zero; repeat' (first | simp (disch := first | exact dschL55 | fail) only [go_sem, ↓reduceIte, hsp, r152, z6, z7, z8, z9, z10, z12, z16, z17, z40, z150, z151, q6, q7, q8, hlt2, ak, lk, u1] | refine WP_drw ?_ | refine cnd_intro (fun hsp => ?_) fun hsp => ?_)
              exact ⟨by (repeat first | exact Agree.refl | assumption | refine Agree.put rfl ?_ | refine Agree.put0 ?_ | refine Agree.sub rfl (by assumption) ?_), by omega⟩
            · have u1 : (a = -1) = False := eq_false hk1
              have u2 : (a = fo.getD j 0) = True := eq_true hk2
              have hsp := @Nat.succ_ne_zero; repeat' (first | simp (disch := first | exact dschL55 | fail) only [go_sem, ↓reduceIte, hsp, r152, z6, z7, z8, z9, z10, z12, z16, z17, z40, z150, z151, q6, q7, q8, hlt2, ak, lk, u1, af, lf, u2, ti] | refine WP_drw ?_ | refine cnd_intro (fun hsp => ?_) fun hsp => ?_)
              exact ⟨by (repeat first | exact Agree.refl | assumption | refine Agree.put rfl ?_ | refine Agree.put0 ?_ | refine Agree.sub rfl (by assumption) ?_), by omega⟩
          · rintro fr2 K' hA2 ⟨r152, eK'⟩
            have z6 := hA2 6 rfl
            have z7 := hA2 7 rfl
            have z8 := hA2 8 rfl
            have z9 := hA2 9 rfl
            have z10 := hA2 10 rfl
            have z12 := hA2 12 rfl
            have z16 := hA2 16 rfl
            have z17 := hA2 17 rfl
            have z40 := hA2 40 rfl
            have z150 := hA2 150 rfl
            have z151 := hA2 151 rfl
            try simp (disch := first | exact dschL55 | fail) only [go_sem, ↓reduceIte, q6, q7, q8] at z6 z7 z8 z9 z10 z12 z16 z17 z40 z150 z151
            have hlt2 : ((n : Int) < (n : Int)) = False := eq_false (by omega)
            subst eK'
            have lZ := xZ.len
            have gbZ := xZ.get F.fg
            have gqZ := xZ.get F.fq
            have hZ := F.ext.trans xZ
            have lrZ : lenOpA prog Z 42 rw1 = some (.int .i64 (Ri.length : Int)) := ((F.oR.ext xZ).rows (by omega)).len (P := prog) Fc.el42
            have t12 : ((Ri.length : Int) = 12) = False := eq_false (by omega)
            have hSZ : SpAt Z (h.length + 1) v1 l1 kq := ⟨gqZ, hB1.ext hZ, hv1⟩
            obtain ⟨r, er, hr⟩ := run_Seen hSZ (by omega) ((F.oC.ext xZ).low (Nat.zero_le _)) orw1 ((F.oO.ext xZ).low (Nat.zero_le _)) (by omega) hTb F.ok.c (by rw [← en]; exact hoC) (by omega)
            obtain ⟨Z1, eZ1⟩ : ∃ Z1, Z1 = Z.set (h.length + 1) (spB v1 l1 (kq + 4)) := ⟨_, rfl⟩
            rw [← eZ1] at er
            have lZ1 : Z1.length = Z.length := by rw [eZ1, List.length_set]
            have gq1 : Z1[h.length + 1]? = some (spB v1 l1 (kq + 4)) := by rw [eZ1, List.getElem?_set_self (by omega)]
            have gb1 : Z1[H1.length]? = some (lacB T cv rw1) := by rw [eZ1, List.getElem?_set_ne (by omega)]; exact gbZ
            have hZ1 : Ext h Z1 := by rw [eZ1]; exact hZ.set (by omega)
            obtain ⟨Z2, eZ2⟩ : ∃ Z2, Z2 = Z1 ++ [rwB r] := ⟨_, rfl⟩
            have lZ2 : Z2.length = Z.length + 1 := by rw [eZ2]; simp [lZ1]
            have x12 : Ext Z1 Z2 := by rw [eZ2]; exact .app .refl
            have gr2 : Z2[Z1.length]? = some (rwB r) := by rw [eZ2]; exact get_eq rfl
            have gb2 := x12.get gb1
            have gq2 := x12.get gq1
            obtain ⟨k1, k2, k3, k4⟩ := hr
            have ub := up_bd (silk := l1) (k := kq + 4) (n := W - 1) (by omega)
            have eu := fun base => run_upto (base := base) (n := W - 1) (show SpAt Z2 (h.length + 1) v1 l1 (kq + 4) from ⟨gq2, hB1.ext (hZ1.trans x12), hv1⟩) (by omega) (by omega)
            obtain ⟨x, ex⟩ := Int.eq_ofNat_of_zero_le ub.1
            rw [ex] at eu ub
            obtain ⟨Z3, eZ3⟩ : ∃ Z3, Z3 = Z2.set (h.length + 1) (spB v1 l1 (kq + 4 + 1)) := ⟨_, rfl⟩
            rw [← eZ3] at eu
            have lZ3 : Z3.length = Z.length + 1 := by rw [eZ3, List.length_set, lZ2]
            have gr3 : Z3[Z1.length]? = some (rwB r) := by rw [eZ3, List.getElem?_set_ne (by omega)]; exact gr2
            have gb3 : Z3[H1.length]? = some (lacB T cv rw1) := by rw [eZ3, List.getElem?_set_ne (by omega)]; exact gb2
            have gq3 : Z3[h.length + 1]? = some (spB v1 l1 (kq + 4 + 1)) := by rw [eZ3, List.getElem?_set_self (by omega)]
            obtain ⟨mk, emk⟩ := Int.eq_ofNat_of_zero_le k2.1
            obtain ⟨sw, esw⟩ := Int.eq_ofNat_of_zero_le k3
            have hmk : (mk : Int) ≤ W - 1 := by rw [eW]; omega
            have hsw : sw ≤ mk := by rw [emk, esw, Int.toNat_natCast, Int.toNat_natCast] at k4; rw [← k4]; exact Nat.and_le_right
            have hma : mk &&& x ≤ mk := Nat.and_le_left
            have an := andN (t := 3) (a := mk) (b := x) (by omega) (by omega)
            have xo := xorN (t := 3) (a := sw) (b := mk &&& x) (by omega) (by omega)
            obtain ⟨s', es'⟩ : ∃ s', s' = sw ^^^ (mk &&& x) := ⟨_, rfl⟩
            rw [← es'] at xo
            obtain ⟨Z4, eZ4⟩ : ∃ Z4, Z4 = Z3.set Z1.length (rwB (r.1, (mk : Int), (s' : Int))) := ⟨_, rfl⟩
            have lZ4 : Z4.length = Z.length + 1 := by rw [eZ4, List.length_set, lZ3]
            have gr4 : Z4[Z1.length]? = some (rwB (r.1, (mk : Int), (s' : Int))) := by rw [eZ4, List.getElem?_set_self (by omega)]
            have gb4 : Z4[H1.length]? = some (lacB T cv rw1) := by rw [eZ4, List.getElem?_set_ne (by omega)]; exact gb3
            have gq4 : Z4[h.length + 1]? = some (spB v1 l1 (kq + 4 + 1)) := by rw [eZ4, List.getElem?_set_ne (by omega)]; exact gq3
            have hZ4 : Ext h Z4 := by rw [eZ4, eZ3]; exact ((hZ1.trans x12).set (by omega)).set (by omega)
            have mvI : ∀ {α : Type} {E : Enc α} {e : TypeId} {v : AVal} {l : List α}, OwnE E e (h.length + 2) K v l → OwnE E e (h.length + 2) Z4 v l := fun {α E e v l} y => by
              have y1 : OwnE E e (h.length + 2) Z1 v l := by rw [eZ1]; exact (y.ext xZ).setBox gqZ
              have y3 : OwnE E e (h.length + 2) Z3 v l := by rw [eZ3]; exact (y1.ext x12).setBox gq2
              rw [eZ4]; exact y3.setBox gr3
            obtain ⟨w', Z5, ea, oW, lW, eW5, oneW, kW⟩ := snocR (base := h.length) (r := (r.1, (mk : Int), (s' : Int))) (mvI F.oR) (by omega) (by omega) (by omega)
            have gb5 := kW.box gb4
            have gq5 := kW.box gq4
            have hZ5 : Ext h Z5 := eW5 _ (by omega) hZ4
            have rok : (0 ≤ r.1 ∧ r.1 ≤ 999) ∧ (0 ≤ r.2.1 ∧ r.2.1 ≤ 2 ^ T.toNat - 1) ∧ (0 ≤ r.2.2 ∧ r.2.2 ≤ 2 ^ T.toNat - 1) ∧ r.2.2.toNat &&& r.2.1.toNat = r.2.2.toNat := by
              refine ⟨by omega, k2, by rw [← eW]; omega, ?_⟩
              rw [← k4, Nat.and_assoc, Nat.and_self]
            have hok' := wrong_row (L := ⟨T, C, Ri⟩) (x := x) rok F.ok (by simp only; omega)
            rw [emk, esw, Int.toNat_natCast, Int.toNat_natCast, ← es'] at hok'
            have bs : ∀ {lit : Bool}, bsA prog lit Z4 42 1 [(0, .agg [.int .i64 r.1, .int .i64 (mk : Int), .int .i64 (s' : Int)])] = some (.slice (some ⟨Z4.length, 0, 0⟩) 1 1, Z4 ++ [rowE encR 70 [(r.1, (mk : Int), (s' : Int))] 0]) := fun {lit} => bsR1 (r := (r.1, (mk : Int), (s' : Int)))
            have nxt : Fnd h (Z5.set H1.length (lacB T cv w')) H1.length v1 l1 T C o cv ov (kq + 5) w' (Ri ++ [(r.1, (mk : Int), (s' : Int))]) (i + 1) :=
              ⟨by rw [List.getElem?_set_ne (by omega)]; exact gq5, by omega, hZ5.set (by omega), ⟨F.fb.1, by rw [List.length_set]; omega⟩, by rw [List.getElem?_set_self (by omega)], (kW.ownE (mvI F.oC) (by decide)).setBox gb5, (kW.ownE (mvI F.oO) (by decide)).setBox gb5, OwnE.setBox (.inl oW) gb5, hok', by simp; omega, fun q => by omega⟩
            unfold lacB at gbZ gb1 gb2 gb3 gb4 gb5
            unfold rwB at eZ2 gr2 gr3 eZ4 gr4
            rw [emk, esw] at er eZ2 gr2 gr3
            have hsp := @Nat.succ_ne_zero; repeat' (first | simp (disch := first | exact dschL55 | fail) only [go_sem, ↓reduceIte, hsp, r152, r40, z6, z7, z8, z9, z10, z12, z16, z17, z40, z150, z151, q6, q7, q8, hlt2, eq_self, gK4, f5, ex2, hE2, gbZ, lrZ, t12, er, ← eZ2] | refine WP_drw ?_ | refine cnd_intro (fun hsp => ?_) fun hsp => ?_)
            refine WPS_go ?_
            refine WP_wild [⟨1, 3, 222, ⟨Z1.length, 0, 2⟩, .int .i64 (sw : Int), 13⟩, ⟨3, 3, 224, ⟨Z1.length, 0, 1⟩, .int .i64 (mk : Int), 13⟩] (by kernel_rfl) (by kernel_rfl) (by kernel_rfl) ⟨refsLow_int, refsLow_int, trivial⟩ fun K9 hK => ?_
            iterate 14
              rw [TRS_cons]
              refine ⟨by first | (simp (disch := first | exact dschL55 | fail) only [go_sem, ↓reduceIte, gr2, z6, z7, z8, z9, z10, z12, z16, z17, z40, z150, z151, q6, q7, q8, gb2, sh, eu, gr3, an, xo, ← eZ4, ldsQ_cons, ldsQ_nil, grdQ_cons, grdQ_nil, if_true, Nat.reduceLeDiff]; done) | exact trivial, ?_⟩
              simp (disch := first | exact dschL55 | fail) only [go_sem, ↓reduceIte, gr2, z6, z7, z8, z9, z10, z12, z16, z17, z40, z150, z151, q6, q7, q8, gb2, sh, eu, gr3, an, xo, ← eZ4]
            rw [TRS_nil]
            refine ⟨by first | (simp (disch := first | exact dschL55 | fail) only [go_sem, ↓reduceIte, gr2, z6, z7, z8, z9, z10, z12, z16, z17, z40, z150, z151, q6, q7, q8, gb2, sh, eu, gr3, an, xo, ← eZ4, ldsQ_cons, ldsQ_nil, grdQ_cons, grdQ_nil, if_true, Nat.reduceLeDiff]; done) | exact trivial, ?_⟩
            subst hK
            have hsp := @Nat.succ_ne_zero; repeat' (first | simp (disch := first | exact dschL55 | fail) only [go_sem, ↓reduceIte, hsp, r40, z6, z7, z8, z9, z10, z12, z16, z17, z40, z150, z151, q6, q7, q8, gb4, gr4, bs, ea, gb5] | refine WP_drw ?_ | refine cnd_intro (fun hsp => ?_) fun hsp => ?_)
            exact ⟨by (repeat first | exact Agree.refl | assumption | refine Agree.put rfl ?_ | refine Agree.put0 ?_ | refine Agree.sub rfl (by assumption) ?_), by omega, _, _, _, nxt⟩
  · rintro fr K hA ⟨r40, kq, rw1, Ri, F⟩
    have q6 := hA 6 rfl
    have q7 := hA 7 rfl
    have q8 := hA 8 rfl
    try simp (disch := first | exact dschL55 | fail) only [go_sem, ↓reduceIte] at q6 q7 q8
    have hlt : (((3 : Nat) : Int) < 3) = False := eq_false (by omega)
    have hlt3 : ((3 : Int) < 3) = False := eq_false (by omega)
    have haw := fun base => run_awake (base := base) (h := K)
    have hsp := @Nat.succ_ne_zero; repeat' (first | simp (disch := first | exact dschL55 | fail) only [go_sem, ↓reduceIte, hsp, r40, q6, q7, q8, hlt, hlt3, haw] | refine WP_drw ?_ | refine cnd_intro (fun hsp => ?_) fun hsp => ?_)
    exact fB rfl F.ext
end Go.AM
