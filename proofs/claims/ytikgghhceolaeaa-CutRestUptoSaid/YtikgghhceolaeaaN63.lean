/-
  CutRest, walked.
-/
import Derived.Test.YtikgghhceolaeaaU20
set_option linter.unusedSimpArgs false
set_option linter.unusedVariables false
namespace Go.AM
open Go.Proofs.Try
theorem dschN63 {p : Prop} (h : p := by first | exact Nat.ne_of_beq_eq_false rfl | assumption | (apply asOne; (first | exact One.int | exact One.bool | assumption | exact Ints.one (by assumption) | exact Rows.one (by assumption) | exact Own.one (by assumption) | exact One.lit ⟨rfl, rfl, rfl⟩)) | (apply asSp; (repeat first | assumption | apply SpAt.set | (refine SpAt.new ?_ (by (first | rfl | (simp only [List.length_append, List.length_cons, List.length_nil, List.length_set]; done) | (simp only [List.length_append, List.length_cons, List.length_nil, List.length_set]; omega)))) | apply SpAt.app | apply Bytes.app); done) | (apply asBytes; (repeat first | assumption | apply Bytes.app); done) | (apply asInts; (repeat first | assumption | exact ints_nil | apply Ints.app); done) | (apply asRows; (repeat first | assumption | exact Rows.nil | apply Rows.app); done) | (apply asScal; (first | apply allS1 | apply allS2 | apply allS3 | apply allS4) <;> (first | exact One.int | exact One.bool | assumption | exact Ints.one (by assumption) | exact Rows.one (by assumption) | exact Own.one (by assumption) | exact One.lit ⟨rfl, rfl, rfl⟩)) | exact litT rfl | exact litF rfl | omega | (simp only [List.length_append, List.length_cons, List.length_nil, List.length_set, List.length_reverse]; first | done | omega) | fail) : p := h
attribute [-go_sem] put_ne put_same
attribute [local go_sem ↓] put_if
theorem neqD {a b : Bool} : binA prog .neq 4 (.bool a) (.bool b) = some (.bool (a != b)) := by cases a <;> cases b <;> kernel_rfl
theorem sp_ad {h : Heap} {v : AVal} {l : List (Int × Int)} {i : Nat} (hR : Rows encS h v l) (hi : i < l.length) : indexAddrA prog 59 v (.int .i64 (i : Int)) = some (elAdr v encS.z i 0) := by
  have := hR.addr (P := prog) (i := (i : Int)) Fc.el59 Fc.ar59 (by omega) (by omega)
  rwa [Int.toNat_natCast] at this
theorem sp_ld {h : Heap} {v : AVal} {l : List (Int × Int)} {i : Nat} {y : Int × Int} (hR : Rows encS h v l) (hx : l[i]? = some y) : loadP prog h 69 (elAdr v encS.z i 0) = some (.agg [.int .i64 y.1, .int .i64 y.2]) := hR.load (P := prog) Fc.ty69 hx
theorem sp_f1 {h : Heap} {v : AVal} {l : List (Int × Int)} {i : Nat} (hR : Rows encS h v l) (hi : i < l.length) : fieldAddrA prog 69 (elAdr v encS.z i 0) 1 = some (elAdr v encS.z i 1) := elAdr_field (P := prog) (i := i) (o := 0) (off := 1) (q := false) (n := 1) hR hi (by kernel_rfl) (by decide)
theorem sp_l1 {h : Heap} {v : AVal} {l : List (Int × Int)} {i : Nat} {y : Int × Int} (hR : Rows encS h v l) (hx : l[i]? = some y) : loadP prog h 3 (elAdr v encS.z i 1) = some (.int .i64 y.2) := hR.cell (P := prog) Fc.ty3 hx (o := 1) (a := .int .i64 y.2) rfl
theorem smS_take {o : List (Int × Int)} {j : Nat} {y : Int × Int} (h : o[j]? = some y) : smS (o.take (j + 1)) = smS (o.take j) + (y.2 - y.1 + 1) := by
  rw [List.take_add_one, h, smS_app]; simp [smS]
theorem lgS_take {R : Rib} {p : List Ct} {j : Nat} {c : Ct} (h : p[j]? = some c) : lgS R (p.take (j + 1)) = lgS R (p.take j) + lgC R c := by
  rw [List.take_add_one, h, lgS_app]; simp [lgS]
set_option maxRecDepth 100000 in
set_option maxHeartbeats 8000000 in
theorem run_CutRest {base : Nat} {h : Heap} {v0 v1 : AVal} {l0 l1 : List Int} (hB0 : Bytes h v0 l0) (hB1 : Bytes h v1 l1) :
    callL prog raw base (.fn 8 [] []) [v0, v1] h = some (.bool true, h) := by
  have o0 := hB0.one
  have o1 := hB1.one
  have hw0 := run_wound (base := h.length) hB0
  obtain ⟨H0, eH0⟩ : ∃ H0, H0 = h ++ [spB v0 l0 0] := ⟨_, rfl⟩
  rw [← eH0] at hw0
  have hS : SpAt H0 h.length v0 l0 0 := by rw [eH0]; exact SpAt.new hB0 rfl
  have l00 : H0.length = h.length + 1 := by rw [eH0]; simp
  have x00 : Ext h H0 := by rw [eH0]; exact .app .refl
  obtain ⟨_, H1, e1, L, F, W, fv, wv, k1, rfl, hk1, p1, oF, oW, hR, hLA⟩ := run_LMade (base := h.length) (A := 50) (B := 12) (D := 6) (by omega) hS (by omega) (by omega) (by omega) (by omega)
  have xh1 : Ext h H1 := Ext.trans (x00.set (Nat.le_refl _)) p1
  have lH1 := p1.len
  have ofv := oF.one
  have owv := oW.one
  obtain ⟨R, eR⟩ : ∃ R : Rib, R = ⟨L, F, W⟩ := ⟨_, rfl⟩
  rw [← eR] at hR
  have hL := hR.L
  have hnF := hR.nF
  have hnW := hR.nW
  have hrF := hR.F
  have eL : L = R.L := by rw [eR]
  have eF : F = R.F := by rw [eR]
  have eW : W = R.W := by rw [eR]
  subst eL eF eW
  clear eR
  obtain ⟨G, eG⟩ : ∃ G, G = H1 ++ [ribB R.L fv wv] := ⟨_, rfl⟩
  have xG : Ext H1 G := by rw [eG]; exact .app .refl
  have gG : G[H1.length]? = some (ribB R.L fv wv) := by rw [eG]; exact get_eq rfl
  have lG : G.length = H1.length + 1 := by rw [eG]; simp
  have smF : Small R.F := ⟨by omega, fun y hy => by have := hrF y hy; omega⟩
  have aG : RibAt G (.agg [.int .i64 R.L, fv, wv]) R := ⟨fv, wv, rfl, (own_ints oF smF).ext xG, (oW.rows (by omega)).ext xG⟩
  have hc := chkR_iff.2 hR
  have xhG : Ext h G := xh1.trans xG
  have hB1G : Bytes G v1 l1 := hB1.ext xhG
  have hw1 := run_wound (base := h.length) hB1G
  obtain ⟨Z4, eZ4⟩ : ∃ Z4, Z4 = G ++ [spB v1 l1 0] := ⟨_, rfl⟩
  rw [← eZ4] at hw1
  have hS1 : SpAt Z4 G.length v1 l1 0 := by rw [eZ4]; exact SpAt.new hB1G rfl
  have x34 : Ext G Z4 := by rw [eZ4]; exact .app .refl
  have gGr := gG
  unfold ribB at eG gG
  refine callL_run func8 rfl rfl ?_
  have hsp := @Nat.succ_ne_zero; repeat' (first | simp (disch := first | exact dschN63 | fail) only [go_sem, ↓reduceIte, hsp, hw0, e1, ← eG, hw1] | refine WP_drw ?_ | refine cnd_intro (fun hsp => ?_) fun hsp => ?_)
  refine WP_count [(4, 4), (7, 178)] 0 6 (by omega) (fun _ i fr K => fr 29 = .int .i64 (i : Int) ∧ ∃ k', k' ≤ 200 * i ∧ SpAt K G.length v1 l1 k' ∧ Ext G K) ?_ ?_ ?_
  · exact ⟨by (simp (disch := first | exact dschN63 | fail) only [go_sem, ↓reduceIte, Int.natCast_zero]; first | done | rfl), 0, by omega, hS1, x34⟩
  · rintro i fr K hi0 hi hAg ⟨r29, k', hk', hSK, xK⟩
    have q5 := hAg 5 rfl
    have q6 := hAg 6 rfl
    try simp (disch := first | exact dschN63 | fail) only [go_sem, ↓reduceIte] at q5 q6
    have hlt : ((i : Int) < 6) = True := eq_true (by omega)
    have lK := xK.len
    obtain ⟨tv, K1, f1, p, k2, s, hk2, qK, oP, hpl, hpp⟩ := run_tried (base := h.length) (id := G.length) (h := K) (rv := .agg [.int .i64 R.L, fv, wv]) (by omega) hSK (by omega) hR (fun k' H x => aG.ext (Ext.trans (xK.set (Nat.le_refl _)) x))
    have xK1 : Ext G K1 := Ext.trans (xK.set (Nat.le_refl _)) qK
    have otv := oP.one
    have rP := oP.rows (by omega)
    have gK := xK.get gG
    have gK1 := xK1.get gG
    have lK1 := xK1.len
    obtain ⟨_, K2, f2, y2, ru, rfl, oU⟩ := run_Rest (base := h.length) (h := K1) (by omega) (aG.ext xK1) (by omega) rP
    have our := oU.one
    have epl : plnE R p = (s, 0) := by unfold plnE; rw [if_neg (fun q => q hc), hpp]
    have ers : rstE R p = (spnN (tknL R p []) R.L.toNat, 0) := by unfold rstE; rw [if_neg (by rw [epl]; simp), ]
    rw [ers] at f2 oU
    obtain ⟨hT, hsum⟩ := tkn_all hR hpp
    have hKs := (spnN_k (t := tknL R p []) R.L.toNat).1
    have hol := spnN_len (t := tknL R p []) (n := R.L.toNat)
    obtain ⟨T, eT⟩ : ∃ T, T = tknL R p [] := ⟨_, rfl⟩
    rw [← eT] at oU hT hsum hKs hol
    obtain ⟨o, eo⟩ : ∃ o, o = spnN T R.L.toNat := ⟨_, rfl⟩
    rw [← eo] at oU hsum hKs hol
    have oU : Own encS 69 K1.length K2 ru o := oU
    have rU := oU.rows (by omega)
    have xK2 := xK1.trans y2
    have gK2 := xK2.get gG
    have lK2 := xK2.len
    have hno := own_len oU Fc.el59 (by omega)
    have hsp := @Nat.succ_ne_zero; repeat' (first | simp (disch := first | exact dschN63 | fail) only [go_sem, ↓reduceIte, hsp, r29, q5, q6, hlt, gK, f1, gK1, f2, ne_eq, not_true, decide_false, eq_self, hno] | refine WP_drw ?_ | refine cnd_intro (fun hsp => ?_) fun hsp => ?_)
    refine WP_count [(4, 4), (10, 12), (44, 90)] 0 o.length (Nat.zero_le _) (fun _ j fr X => fr 44 = .int .i64 (j : Int) ∧ fr 10 = .int .i64 (smS (o.take j)) ∧ (0 ≤ smS (o.take j) ∧ smS (o.take j) ≤ 61 * j) ∧ Ext K2 X) ?_ ?_ ?_
    · exact ⟨by (simp (disch := first | exact dschN63 | fail) only [go_sem, ↓reduceIte, Int.natCast_zero]; first | done | rfl), by simp (disch := first | exact dschN63 | fail) only [go_sem, ↓reduceIte]; simp [smS], by simp [smS], .refl⟩
    · rintro j fr2 X hj0 hj hA2 ⟨r44, r10, hsb, xX⟩
      have d5 := hA2 5 rfl
      have d6 := hA2 6 rfl
      have d7 := hA2 7 rfl
      have d8 := hA2 8 rfl
      have d29 := hA2 29 rfl
      have d42 := hA2 42 rfl
      have d43 := hA2 43 rfl
      try simp (disch := first | exact dschN63 | fail) only [go_sem, ↓reduceIte, q5, q6] at d5 d6 d7 d8 d29 d42 d43
      have hlt2 : ((j : Int) < (o.length : Int)) = True := eq_true (by omega)
      obtain ⟨y, hy⟩ : ∃ y, o[j]? = some y := ⟨_, List.getElem?_eq_getElem hj⟩
      have hyb := hKs.b y (List.mem_of_getElem? hy)
      have hst := smS_take hy
      have rX := rU.ext xX
      have ad := sp_ad rX hj
      have ld := sp_ld rX hy
      have lX := xX.len
      have gX := xX.get gK2
      obtain ⟨a, b⟩ := y
      simp only at hyb hst ld
      obtain ⟨X1, eX1⟩ : ∃ X1, X1 = X ++ [(⟨.cells [.int .i64 a, .int .i64 b] 69 false false, 0⟩ : ABlk)] := ⟨_, rfl⟩
      have x1 : Ext X X1 := by rw [eX1]; exact .app .refl
      have gX1 : X1[X.length]? = some ⟨.cells [.int .i64 a, .int .i64 b] 69 false false, 0⟩ := by rw [eX1]; exact get_eq rfl
      have gG1 := x1.get gX
      have t1 : (a < 0) = False := eq_false (by omega)
      have t2 : (b ≥ R.L) = False := eq_false (by omega)
      have t3 : (a > b) = False := eq_false (by omega)
      by_cases c0 : j = 0
      · have t4 : ((j : Int) > 0) = False := eq_false (by omega)
        have hsp := @Nat.succ_ne_zero; repeat' (first | simp (disch := first | exact dschN63 | fail) only [go_sem, ↓reduceIte, hsp, r44, r10, d5, d6, d7, d8, d29, d42, d43, q5, q6, hlt2, ad, ld, ← eX1, gX1, gG1, t1, t2, t3, t4] | refine WP_drw ?_ | refine cnd_intro (fun hsp => ?_) fun hsp => ?_)
        exact ⟨by (repeat first | exact Agree.refl | assumption | refine Agree.put rfl ?_ | refine Agree.put0 ?_ | refine Agree.sub rfl (by assumption) ?_), by omega, by omega, by omega, xX.trans x1⟩
      · have t4 : ((j : Int) > 0) = True := eq_true (by omega)
        obtain ⟨y', hy'⟩ : ∃ y, o[j - 1]? = some y := ⟨_, List.getElem?_eq_getElem (by omega)⟩
        have hpw := List.pairwise_iff_getElem.1 hKs.s (j - 1) j (by omega) hj (by omega)
        rw [(List.getElem?_eq_some_iff.1 hy).2, (List.getElem?_eq_some_iff.1 hy').2] at hpw
        have hyb' := hKs.b y' (List.mem_of_getElem? hy')
        have rX1 := rX.ext x1
        have ad2 := sp_ad rX1 (i := j - 1) (by omega)
        rw [show ((j - 1 : Nat) : Int) = (j : Int) - 1 by omega] at ad2
        have fd2 := sp_f1 rX1 (i := j - 1) (by omega)
        have ld2 := sp_l1 rX1 hy'
        obtain ⟨a', b'⟩ := y'
        simp only at hpw hyb' ld2
        have t5 : (a ≤ b' + 1) = False := eq_false (by omega)
        have hsp := @Nat.succ_ne_zero; repeat' (first | simp (disch := first | exact dschN63 | fail) only [go_sem, ↓reduceIte, hsp, r44, r10, d5, d6, d7, d8, d29, d42, d43, q5, q6, hlt2, ad, ld, ← eX1, gX1, gG1, t1, t2, t3, t4, ad2, fd2, ld2, t5] | refine WP_drw ?_ | refine cnd_intro (fun hsp => ?_) fun hsp => ?_)
        exact ⟨by (repeat first | exact Agree.refl | assumption | refine Agree.put rfl ?_ | refine Agree.put0 ?_ | refine Agree.sub rfl (by assumption) ?_), by omega, by omega, by omega, xX.trans x1⟩
    · rintro fr2 X hA2 ⟨r44, r10, hsb, xX⟩
      have d5 := hA2 5 rfl
      have d6 := hA2 6 rfl
      have d7 := hA2 7 rfl
      have d8 := hA2 8 rfl
      have d29 := hA2 29 rfl
      have d42 := hA2 42 rfl
      have d43 := hA2 43 rfl
      try simp (disch := first | exact dschN63 | fail) only [go_sem, ↓reduceIte, q5, q6] at d5 d6 d7 d8 d29 d42 d43
      have hlt2 : ((o.length : Int) < (o.length : Int)) = False := eq_false (by omega)
      have d29 := hA2 29 rfl
      simp (disch := first | exact dschN63 | fail) only [go_sem, ↓reduceIte, r29] at d29
      rw [List.take_length] at r10 hsb
      have y2X := y2.trans xX
      have hlp := (rP.ext y2X).len (P := prog) Fc.el43
      obtain ⟨m0, em0⟩ : ∃ m0, m0 = smS o := ⟨_, rfl⟩
      rw [← em0] at r10 hsb hsum
      have hsp := @Nat.succ_ne_zero; repeat' (first | simp (disch := first | exact dschN63 | fail) only [go_sem, ↓reduceIte, hsp, r44, r10, d29, d5, d6, d7, d8, d29, d42, d43, q5, q6, hlt2, hlp] | refine WP_drw ?_ | refine cnd_intro (fun hsp => ?_) fun hsp => ?_)
      refine WP_count [(4, 4), (10, 23), (93, 173)] 0 p.length (Nat.zero_le _) (fun _ j fr Y => fr 93 = .int .i64 (j : Int) ∧ fr 10 = .int .i64 (m0 + lgS R (p.take j)) ∧ (0 ≤ lgS R (p.take j) ∧ lgS R (p.take j) ≤ 60 * j) ∧ Ext X Y) ?_ ?_ ?_
      · exact ⟨by (simp (disch := first | exact dschN63 | fail) only [go_sem, ↓reduceIte, Int.natCast_zero]; first | done | rfl), by rw [List.take_zero, lgS, Int.add_zero]; simp (disch := first | exact dschN63 | fail) only [go_sem, ↓reduceIte, r10], by simp [lgS], .refl⟩
      · rintro j fr3 Y hj0 hj hA3 ⟨r93, r10', hsb3, xY⟩
        have z5 := hA3 5 rfl
        have z6 := hA3 6 rfl
        have z8 := hA3 8 rfl
        have z29 := hA3 29 rfl
        have z91 := hA3 91 rfl
        have z92 := hA3 92 rfl
        try simp (disch := first | exact dschN63 | fail) only [go_sem, ↓reduceIte, d5, d6, d8, d29] at z5 z6 z8 z29 z91 z92
        have hlt4 : ((j : Int) < (p.length : Int)) = True := eq_true (by omega)
        obtain ⟨c, hx⟩ : ∃ c, p[j]? = some c := ⟨_, List.getElem?_eq_getElem hj⟩
        have hcm := List.mem_of_getElem? hx
        obtain ⟨hrg, e, he⟩ := plnL_rng (R := R) (p := p) (a := 0) (s := 0) (by rw [hpp]) c hcm
        have tk := tk_of hR hrg.1 hrg.2 he
        have hat := hT.at_ c hcm e he
        have hlt5 := lgS_take (R := R) hx
        obtain ⟨ck, cx, jj⟩ := c
        simp only at hrg tk hat
        obtain ⟨k, rfl⟩ := Int.eq_ofNat_of_zero_le hrg.1.1
        obtain ⟨x, rfl⟩ := Int.eq_ofNat_of_zero_le hrg.2.1
        have hkW : k < R.W.length := by omega
        have hxL : x < R.L.toNat := by omega
        have hwk : R.W[k]? = some (R.W[k]'hkW) := List.getElem?_eq_getElem hkW
        generalize R.W[k]'hkW = w at hwk
        have hwo := hR.W w (List.mem_of_getElem? hwk)
        have hlgw := hwo.lg
        have elg : lgC R ⟨(k : Int), (x : Int), jj⟩ = w.lg := by unfold lgC; rw [Int.toNat_natCast, hwk]
        rw [elg] at hlt5
        have etk : takL R w x jj = some e := by unfold takC at he; rw [Int.toNat_natCast, hwk] at he; simpa using he
        have hem := takL_b (e := e.1) (p := e.2) hR hwo hxL etk
        have etn : tknR R ⟨(k : Int), (x : Int), jj⟩ = (e.1, e.2, true) := by
          rw [tknR_in hwk hxL hkW]
          have := tknW_is (j := jj) hwo hxL
          rw [etk] at this
          split at this
          · rename_i q
            have := Option.some.inj this
            rw [this]
            exact Prod.ext rfl (Prod.ext rfl q)
          · cases this
        have xXY := y2X.trans xY
        have xKY := xK1.trans xXY
        have aY := aG.ext xKY
        have gY := xKY.get gG
        have gYr := xKY.get gGr
        have lYY := xKY.len
        have iP := rP.ext xXY
        have ac := ct_ad iP hj
        have lc := ct_ld iP hx
        simp only at lc
        obtain ⟨Y1, eY1⟩ : ∃ Y1, Y1 = Y ++ [cutB ⟨(k : Int), (x : Int), jj⟩] := ⟨_, rfl⟩
        have x1 : Ext Y Y1 := by rw [eY1]; exact .app .refl
        have gc1 : Y1[Y.length]? = some (cutB ⟨(k : Int), (x : Int), jj⟩) := by rw [eY1]; exact get_eq rfl
        have gY1 := x1.get gY
        have gYr1 := x1.get gYr
        have lY1 : Y1.length = Y.length + 1 := by rw [eY1]; simp
        have aY1 := aY.ext x1
        have ctk := fun base => run_Take (base := base) (c := ⟨(k : Int), (x : Int), jj⟩) aY1 (by omega)
        have ete : takE R ⟨(k : Int), (x : Int), jj⟩ = (e.1, e.2, 0) := by
          unfold takE
          rw [if_neg (fun q => q hc), if_neg (fun q => q ⟨⟨by simp only; omega, by simp only; omega⟩, by simp only; omega, by simp only; omega⟩), he]
        rw [ete] at ctk
        have ctn := fun base => run_taken (base := base) (c := ⟨(k : Int), (x : Int), jj⟩) aY1 hR
        rw [etn] at ctn
        simp only at ctk ctn
        obtain ⟨fv', wv', eqv, iF1, iW1⟩ := id aY1
        simp only [AVal.agg.injEq, List.cons.injEq, and_true, true_and] at eqv
        obtain ⟨rfl, rfl⟩ := eqv
        have wa := wnt_ad iW1 hkW
        have wf := wnt_f0 iW1 hkW
        have wl := wnt_l0 iW1 hwk
        obtain ⟨_, Y2, g1, x2, cu, rfl, oC⟩ := run_Cuts (base := h.length) (h := Y1) (from_ := (x : Int)) (by have := xKY.len; omega) aY1 (by omega)
        have ocu := oC.one
        have lY2 := x2.len
        have ects : ctsE R (x : Int) = ((cutL R x).map (·.1), 0) := by
          unfold ctsE
          rw [if_neg (fun q => q hc), if_neg (fun q => q ⟨by omega, by omega⟩), Int.toNat_natCast]
        rw [ects] at g1 oC
        have hcl := cutL_len (x := x) hR
        have rC := oC.rows (by simp only [List.length_map]; omega)
        have hmem : (⟨(k : Int), (x : Int), jj⟩ : Ct) ∈ (cutL R x).map (·.1) := List.mem_map.2 ⟨(⟨(k : Int), (x : Int), jj⟩, e), cutL_mem.2 ⟨k, w, jj, hwk, etk, rfl⟩, rfl⟩
        have ccn := fun base => run_containsC (base := base) rC hmem
        have gY2 := x2.get gY1
        have gYr2 := x2.get gYr1
        have gc2 := x2.get gc1
        have aY2 := aY1.ext x2
        have cca := fun base => anyF_C (base := base) (g := .fn 53 [] [.ptr (some ⟨H1.length, 0, 0⟩), .ptr (some ⟨Y.length, 0, 0⟩)]) (fun _ => false) rC (fun base d hd => by
          obtain ⟨⟨d', e'⟩, hd1, hd2⟩ := List.mem_map.1 hd
          simp only at hd2
          subst hd2
          obtain ⟨k2, w2, j2, hw2, ht2, hd3⟩ := cutL_mem.1 hd1
          simp only at hd3 ht2
          subst hd3
          have hk2 := (List.getElem?_eq_some_iff.1 hw2).1
          refine run_rs1 (d := ⟨(k2 : Int), (x : Int), j2⟩) gYr2 gc2 aY2 hR ?_ rfl
          rw [tknR_in hw2 hxL hk2]
          have := tknW_is (j := j2) (hR.W w2 (List.mem_of_getElem? hw2)) hxL
          rw [ht2] at this
          split at this
          · assumption
          · cases this)
        have hany : ((cutL R x).map (·.1)).any (fun _ => false) = false := by simp
        rw [hany] at cca
        obtain ⟨Y3, eY3⟩ : ∃ Y3, Y3 = Y2 ++ [(⟨.cells [.int .i64 (x : Int)] 3 false false, 0⟩ : ABlk)] := ⟨_, rfl⟩
        have x3 : Ext Y2 Y3 := by rw [eY3]; exact .app .refl
        have gu3 : Y3[Y2.length]? = some ⟨.cells [.int .i64 (x : Int)] 3 false false, 0⟩ := by rw [eY3]; exact get_eq rfl
        obtain ⟨n, en⟩ := Int.eq_ofNat_of_zero_le (show 0 ≤ e.1 by omega)
        obtain ⟨e1', e2'⟩ := e
        simp only at en hem hat ctk ctn
        subst en
        have xY3 := (x1.trans x2).trans x3
        unfold cutB at eY1 gc1 gc2
        have hsp := @Nat.succ_ne_zero; repeat' (first | simp (disch := first | exact dschN63 | fail) only [go_sem, ↓reduceIte, hsp, r93, r10', z5, z6, z8, z29, z91, z92, d5, d6, d7, d8, d29, d42, d43, q5, q6, hlt4, ac, lc, ← eY1, gY1, gc1, ctk, ctn, ne_eq, not_true, decide_false, eq_self, wa, wf, wl, g1, gY2, gc2, ccn, Bool.not_true, cca, ← eY3] | refine WP_drw ?_ | refine cnd_intro (fun hsp => ?_) fun hsp => ?_)
        refine WP_iter [(4, 4), (22, 23), (154, 172)] (fun _ (a : Nat) fr U => ∃ id, fr 22 = .ptr (some ⟨id, 0, 0⟩) ∧ U[id]? = some ⟨.cells [.int .i64 ((x + a : Nat) : Int)] 3 false false, 0⟩ ∧ Y3.length ≤ id + 1 ∧ Ext Y2 U ∧ x + a ≤ n) (fun a => n - (x + a)) 0 ?_ ?_
        · exact ⟨Y2.length, by (simp (disch := first | exact dschN63 | fail) only [go_sem, ↓reduceIte, Int.natCast_zero]; first | done | rfl), by rw [Nat.add_zero]; exact gu3, by rw [eY3]; simp, x3, by omega⟩
        · rintro a fr4 U hA4 ⟨id, r22, gU, hidU, xU, hxa⟩
          have y5 := hA4 5 rfl
          have y6 := hA4 6 rfl
          have y8 := hA4 8 rfl
          have y10 := hA4 10 rfl
          have y14 := hA4 14 rfl
          have y18 := hA4 18 rfl
          have y29 := hA4 29 rfl
          have y91 := hA4 91 rfl
          have y92 := hA4 92 rfl
          have y93 := hA4 93 rfl
          try simp (disch := first | exact dschN63 | fail) only [go_sem, ↓reduceIte, z5, z6, z8, z29, z91, z92] at y5 y6 y8 y10 y14 y18 y29 y91 y92 y93
          have lU := xU.len
          have lid := lt_of_get gU
          have lY3 : Y3.length = Y2.length + 1 := by rw [eY3]; simp
          have gcU := xU.get gc2
          have gYU := xU.get gY2
          have y10 := hA4 10 rfl
          simp (disch := first | exact dschN63 | fail) only [go_sem, ↓reduceIte, r10'] at y10
          by_cases ca : x + a < n
          · have t6 : (((x + a : Nat) : Int) < (n : Int)) = True := eq_true (by omega)
            have rU4 := rU.ext (xX.trans (xY.trans ((x1.trans x2).trans xU)))
            have iF4 := iF1.ext (x2.trans xU)
            have cs := fun base => anyF_S (base := base) (g := .fn 55 [] [.ptr (some ⟨id, 0, 0⟩)]) (fun y => decide (y.1 ≤ ((x + a : Nat) : Int) ∧ ((x + a : Nat) : Int) ≤ y.2)) rU4 (fun base y _ => run_rs2 gU)
            have hm := hKs.m (x + a)
            have ht := hat (x + a) (by omega) (by omega)
            have hany2 : o.any (fun y => decide (y.1 ≤ ((x + a : Nat) : Int) ∧ ((x + a : Nat) : Int) ≤ y.2)) = (jj && badF R (x + a)) := by
              rw [Bool.eq_iff_iff, List.any_eq_true]
              simp only [decide_eq_true_eq]
              rw [hm]
              constructor
              · rintro ⟨_, q⟩
                cases hb : (jj && badF R (x + a)) with
                | true => rfl
                | false => exact absurd (ht.2 hb) q
              · intro q
                exact ⟨by omega, fun z => by rw [ht.1 z] at q; cases q⟩
            rw [hany2] at cs
            have ccF : ∀ base, callL prog raw base (.fn 56 [] []) [fv, .int .i64 ((x + a : Nat) : Int)] U = some (.bool (badF R (x + a)), U) := fun base => run_contains iF4
            obtain ⟨bb, ebb⟩ : ∃ bb, bb = badF R (x + a) := ⟨_, rfl⟩
            rw [← ebb] at ccF cs
            obtain ⟨uu, euu⟩ : ∃ uu : Int, uu = ((x + a : Nat) : Int) := ⟨_, rfl⟩
            rw [← euu] at gU t6 ccF
            have hub : 0 ≤ uu ∧ uu ≤ 100 := by omega
            have nb1 : ∀ b : Bool, (b != b) = false := fun b => by cases b <;> rfl
            have fin : ∀ U' : Heap, U' = U ++ [(⟨.cells [.int .i64 (uu + 1)] 3 false false, 0⟩ : ABlk)] → U'[U.length]? = some ⟨.cells [.int .i64 ((x + (a + 1) : Nat) : Int)] 3 false false, 0⟩ ∧ Ext Y2 U' := fun U' e => by
              rw [e]
              exact ⟨by rw [show ((x + (a + 1) : Nat) : Int) = uu + 1 by omega]; exact get_eq rfl, xU.app⟩
            cases jj with
            | false =>
              simp only [Bool.false_and] at cs
              have hsp := @Nat.succ_ne_zero; repeat' (first | simp (disch := first | exact dschN63 | fail) only [go_sem, ↓reduceIte, hsp, r22, y5, y6, y8, y10, y14, y18, y29, y91, y92, y93, z5, z6, z8, z29, z91, z92, d5, d6, d7, d8, d29, d42, d43, q5, q6, gU, t6, cs, gcU, gYU, neqD, nb1] | refine WP_drw ?_ | refine cnd_intro (fun hsp => ?_) fun hsp => ?_)
              exact ⟨by (repeat first | exact Agree.refl | assumption | refine Agree.put rfl ?_ | refine Agree.put0 ?_ | refine Agree.sub rfl (by assumption) ?_), a + 1, ⟨U.length, rfl, (fin _ rfl).1, by omega, (fin _ rfl).2, by omega⟩, by omega⟩
            | true =>
              simp only [Bool.true_and] at cs
              have hsp := @Nat.succ_ne_zero; repeat' (first | simp (disch := first | exact dschN63 | fail) only [go_sem, ↓reduceIte, hsp, r22, y5, y6, y8, y10, y14, y18, y29, y91, y92, y93, z5, z6, z8, z29, z91, z92, d5, d6, d7, d8, d29, d42, d43, q5, q6, gU, t6, cs, gcU, gYU, ccF, neqD, nb1] | refine WP_drw ?_ | refine cnd_intro (fun hsp => ?_) fun hsp => ?_)
              exact ⟨by (repeat first | exact Agree.refl | assumption | refine Agree.put rfl ?_ | refine Agree.put0 ?_ | refine Agree.sub rfl (by assumption) ?_), a + 1, ⟨U.length, rfl, (fin _ rfl).1, by omega, (fin _ rfl).2, by omega⟩, by omega⟩
          · have t6 : (((x + a : Nat) : Int) < (n : Int)) = False := eq_false (by omega)
            have y93 := hA4 93 rfl
            simp (disch := first | exact dschN63 | fail) only [go_sem, ↓reduceIte, r93] at y93
            have hsp := @Nat.succ_ne_zero; repeat' (first | simp (disch := first | exact dschN63 | fail) only [go_sem, ↓reduceIte, hsp, r22, y93, y10, y5, y6, y8, y10, y14, y18, y29, y91, y92, y93, z5, z6, z8, z29, z91, z92, d5, d6, d7, d8, d29, d42, d43, q5, q6, gU, t6] | refine WP_drw ?_ | refine cnd_intro (fun hsp => ?_) fun hsp => ?_)
            exact ⟨by (repeat first | exact Agree.refl | assumption | refine Agree.put rfl ?_ | refine Agree.put0 ?_ | refine Agree.sub rfl (by assumption) ?_), by omega, by omega, by omega, xY.trans ((x1.trans x2).trans xU)⟩
      · rintro fr3 Y hA3 ⟨r93, r10', hsb3, xY⟩
        have z5 := hA3 5 rfl
        have z6 := hA3 6 rfl
        have z8 := hA3 8 rfl
        have z29 := hA3 29 rfl
        have z91 := hA3 91 rfl
        have z92 := hA3 92 rfl
        try simp (disch := first | exact dschN63 | fail) only [go_sem, ↓reduceIte, d5, d6, d8, d29] at z5 z6 z8 z29 z91 z92
        have hlt4 : ((p.length : Int) < (p.length : Int)) = False := eq_false (by omega)
        have z29 := hA3 29 rfl
        simp (disch := first | exact dschN63 | fail) only [go_sem, ↓reduceIte, d29] at z29
        rw [List.take_length] at r10' hsb3
        have xXY := y2X.trans xY
        have gY := (xK1.trans xXY).get gG
        rw [hsum] at r10'
        have hsp := @Nat.succ_ne_zero; repeat' (first | simp (disch := first | exact dschN63 | fail) only [go_sem, ↓reduceIte, hsp, r93, r10', z29, z5, z6, z8, z29, z91, z92, d5, d6, d7, d8, d29, d42, d43, q5, q6, hlt4, gY, ne_eq, not_true, decide_false, eq_self] | refine WP_drw ?_ | refine cnd_intro (fun hsp => ?_) fun hsp => ?_)
        exact ⟨by (repeat first | exact Agree.refl | assumption | refine Agree.put rfl ?_ | refine Agree.put0 ?_ | refine Agree.sub rfl (by assumption) ?_), by omega, k2, by omega, (qK.at hSK).ext xXY, xK1.trans xXY⟩
  · rintro fr K hAg ⟨r29, k', hk', hSK, xK⟩
    have q5 := hAg 5 rfl
    have q6 := hAg 6 rfl
    try simp (disch := first | exact dschN63 | fail) only [go_sem, ↓reduceIte] at q5 q6
    have hlt : ((6 : Int) < 6) = False := eq_false (by omega)
    have haw := fun base => run_awake (base := base) (h := K)
    have hsp := @Nat.succ_ne_zero; repeat' (first | simp (disch := first | exact dschN63 | fail) only [go_sem, ↓reduceIte, hsp, r29, q5, q6, hlt, haw] | refine WP_drw ?_ | refine cnd_intro (fun hsp => ?_) fun hsp => ?_)
    exact fB rfl (xhG.trans xK)
end Go.AM
