/-
  FaultFound, walked: the whole.
-/
import Derived.Test.YtlhmeoeamcgcmaaE39
set_option linter.unusedSimpArgs false
set_option linter.unusedVariables false
namespace Go.AM
open Go.Proofs.Try
theorem dschE43 {p : Prop} (h : p := by first | exact Nat.ne_of_beq_eq_false rfl | assumption | (apply asOne; (first | exact One.int | exact One.bool | assumption | exact Ints.one (by assumption) | exact Rows.one (by assumption) | exact Own.one (by assumption) | exact One.lit ⟨rfl, rfl, rfl⟩)) | (apply asSp; (repeat first | assumption | apply SpAt.set | (refine SpAt.new ?_ (by (first | rfl | (simp only [List.length_append, List.length_cons, List.length_nil, List.length_set]; done) | (simp only [List.length_append, List.length_cons, List.length_nil, List.length_set]; omega)))) | apply SpAt.app | apply Bytes.app); done) | (apply asBytes; (repeat first | assumption | apply Bytes.app); done) | (apply asInts; (repeat first | assumption | exact ints_nil | apply Ints.app); done) | (apply asRows; (repeat first | assumption | exact Rows.nil | apply Rows.app); done) | (apply asScal; (first | apply allS1 | apply allS2 | apply allS3 | apply allS4) <;> (first | exact One.int | exact One.bool | assumption | exact Ints.one (by assumption) | exact Rows.one (by assumption) | exact Own.one (by assumption) | exact One.lit ⟨rfl, rfl, rfl⟩)) | exact litT rfl | exact litF rfl | omega | (simp only [List.length_append, List.length_cons, List.length_nil, List.length_set, List.length_reverse]; first | done | omega) | fail) : p := h
attribute [-go_sem] put_ne put_same
attribute [local go_sem ↓] put_if

theorem stE43 {base : Nat} {l : List Oper} {s : St} {Q : AExit → St → Prop} : WP prog raw base (.region 12 l.toArray false) s Q = WPS prog raw base (.region 12 l.toArray false) s Q := WP_stop
attribute [local go_sem ↓ 3000] stE43
set_option maxRecDepth 100000 in
set_option maxHeartbeats 4000000 in
theorem run_FaultFound {base : Nat} {h : Heap} {v0 v1 : AVal} {s0 s1 : List Int} (hB0 : Bytes h v0 s0) (hB1 : Bytes h v1 s1) :
    callL prog raw base (.fn 8 [] []) [v0, v1] h = some (.bool true, h) := by
  obtain ⟨H1, L, t, pv, sv, tv, e1, x1, M1, b1, b2, b3, b4⟩ := run_start (base := h.length) (T0 := 10) (P0 := 5) (S0 := 8) (Nat.le_refl _) hB0 (by omega) (by omega) (by omega)
  obtain ⟨k1, k2, k3, k4, k5, k6⟩ := chkM_ok M1.hc
  have hp1 := M1.hP.one
  have hs1 := M1.hS.one
  have ht1 := M1.hT.one
  have hv1 := hB1.one
  have hl1 := x1.len
  have y1 : Ext h (H1 ++ [lmB' L pv sv]) := x1.trans (.app .refl)
  have M2 := M1.ext (.app (t := [lmB' L pv sv]) .refl)
  obtain ⟨w2, H2, e2, x2, u2, rfl, o2⟩ := run_fewest (base := h.length) y1.len M2.lom M2.ok
  obtain ⟨w3, H3, e3, x3, u3, rfl, o3⟩ := run_packed (base := h.length) (y1.trans x2).len (M2.lom.ext x2) M2.ok
  obtain ⟨w4, H4, e4, x4, u4, rfl, o4⟩ := run_weavers (base := h.length) ((y1.trans x2).trans x3).len (M2.lom.ext (x2.trans x3)) M2.ok
  have hf := fewM_truth M1.hc M1.xp
  have hk := pckM_best M1.hc M1.xp
  have hwv := wvrM_mem M1.hc M1.xp
  rw [hf.1] at e2
  rw [hk.1] at e3
  rw [hwv.1] at e4
  have x14 := (x2.trans x3).trans x4
  have y4 := y1.trans x14
  have M4 := M2.ext x14
  have gl1 : (H1 ++ [lmB' L pv sv])[H1.length]? = some (lmB' L pv sv) := get_eq rfl
  have gl2 := x2.get gl1
  have gl3 := x3.get gl2
  have gl4 := x4.get gl3
  have hl14 : H1.length < H4.length := lt_of_get gl4
  have hSp4 : SpAt (H4 ++ [spB v1 s1 0]) H4.length v1 s1 0 := SpAt.new (hB1.ext y4) rfl
  have hw := run_wound (base := h.length) (hB1.ext y4)
  have hw0 := run_wound (base := h.length) hB0
  have hck := fun base => run_check' (base := base) M4.lom M4.ok
  rw [M1.hc] at hck
  have hfl := truth_len hf.2.1.1
  have htl := truth_len M1.xp.1
  have o24 := o2.ext (x3.trans x4)
  have hxe4 := fun base => run_explains4 (base := base) M4.hP M4.hS M4.hc (o24.rows (by omega)) (by omega)
  rw [(xplM_iff M1.hc).2 hf.2.1] at hxe4
  have i3 := (own_ints o3 (pckM_small M1.hc M1.xp)).ext x4
  have i4 := own_ints o4 (wvrM_small M1.hc M1.xp)
  have hu2 := o2.one
  have hu3 := o3.one
  have hu4 := o4.one
  have cT4 : lenOpA prog H4 27 tv = some (.int .i64 (t.length : Int)) := M4.hT.len Fc.el27
  have c24 : lenOpA prog H4 27 u2 = some (.int .i64 ((fewM L).1.length : Int)) := own_len o24 Fc.el27 (by omega)
  have t1 : (((fewM L).1.length : Int) > (t.length : Int)) = False := eq_false fun q => by have := hf.2.2 t M1.xp; omega
  have t2 : (((pckM L).1.length : Int) > ((fewM L).1.length : Int)) = False := eq_false fun q => by have := pckM_few M1.hc M1.xp; omega
  unfold lmB' at e2 gl1 gl2 gl3 gl4
  have hl4 := y4.len
  refine callL_run func8 rfl rfl ?_
  have hsp := @Nat.succ_ne_zero; repeat' (first | simp (disch := first | exact dschE43 | fail) only [go_sem, ↓reduceIte, hsp, hw0, e1, e2, e3, e4, hw, gl2, gl3, gl4, hck, hxe4, cT4, c24, t1, t2, eq_self, Bool.not_true, Bool.false_eq_true] | refine WP_drw ?_ | refine cnd_intro (fun hsp => ?_) fun hsp => ?_)
  refine WP_count [(4, 4), (14, 176)] 0 10 (Nat.zero_le _) (fun _ i fr h' => fr 90 = .int .i64 (i : Int) ∧ ∃ k2, k2 ≤ 18 * i ∧ SpE (H4 ++ [spB v1 s1 0]) H4.length v1 s1 k2 h') ?_ ?_ ?_
  · exact ⟨by (simp (disch := first | exact dschE43 | fail) only [go_sem, ↓reduceIte, Int.natCast_zero]; first | done | rfl), 0, by omega, SpE.refl hSp4⟩
  · rintro i fr H hi0 hi hA ⟨r90, kk, hk2, xH⟩
    have p5 := hA 5 rfl
    have p6 := hA 6 rfl
    have p7 := hA 7 rfl
    have p9 := hA 9 rfl
    have p11 := hA 11 rfl
    have p13 := hA 13 rfl
    try simp (disch := first | exact dschE43 | fail) only [go_sem, ↓reduceIte] at p5 p6 p7 p9 p11 p13
    have hlt : ((i : Int) < 10) = True := eq_true (by omega)
    have hSp := xH.at hSp4
    have xO := xH.old
    have MH := M4.ext xO
    have gl : H[H1.length]? = some ⟨.cells [.int .i64 L.R, .int .i64 L.T, pv, sv] 26 false false, 0⟩ := xO.get gl4
    obtain ⟨R5, eR5, hA5⟩ := hA.name
    rw [← eR5]
    have z90 := r90
    have z5 := p5
    have z6 := p6
    have z7 := p7
    have z9 := p9
    have z11 := p11
    have z13 := p13
    have hsp := @Nat.succ_ne_zero; repeat' (first | simp (disch := first | exact dschE43 | fail) only [go_sem, ↓reduceIte, hsp, r90, p5, p6, p7, p9, p11, p13, hlt] | refine WP_drw ?_ | refine cnd_intro (fun hsp => ?_) fun hsp => ?_)
    
    refine WPS_restF fun Z eZ => ?_
    rw [← WP_seq]
    have kZ5 := congrFun eZ 5
    have kZ6 := congrFun eZ 6
    have kZ7 := congrFun eZ 7
    have kZ9 := congrFun eZ 9
    have kZ11 := congrFun eZ 11
    have kZ13 := congrFun eZ 13
    have kZ14 := congrFun eZ 14
    have kZ15 := congrFun eZ 15
    have kZ90 := congrFun eZ 90
    try simp (disch := first | exact dschE43 | fail) only [go_sem, ↓reduceIte, z5, z6, z7, z9, z11, z13, z90] at kZ5 kZ6 kZ7 kZ9 kZ11 kZ13 kZ14 kZ15 kZ90
    have aZ : Agree [(4, 4), (14, 176)] Z R5 := by rw [eZ]; (repeat first | exact Agree.refl | assumption | refine Agree.put rfl ?_ | refine Agree.put0 ?_ | refine Agree.sub rfl (by assumption) ?_)
    clear eZ
    refine WP_meet (fun fr h' => Agree [(15, 15), (94, 98)] fr Z ∧ ∃ tw tt k', k' ≤ 18 * (i + 1) ∧ SpE (H4 ++ [spB v1 s1 0]) H4.length v1 s1 k' h' ∧ fr 15 = tw ∧ Own encB 61 0 h' tw tt ∧ truOk L tt) ?_ ?_
    · rw [WP_seq, WP_region]
      by_cases ci : i = 0
      · have tg : ((i : Int) > 0) = False := eq_false (by omega)
        have hsp := @Nat.succ_ne_zero; repeat' (first | simp (disch := first | exact dschE43 | fail) only [go_sem, ↓reduceIte, hsp, kZ5, kZ6, kZ7, kZ9, kZ11, kZ13, kZ14, kZ15, kZ90, tg] | refine WP_drw ?_ | refine cnd_intro (fun hsp => ?_) fun hsp => ?_)
        exact ⟨by (repeat first | exact Agree.refl | assumption | refine Agree.put rfl ?_ | refine Agree.put0 ?_ | refine Agree.sub rfl (by assumption) ?_), tv, t, kk, by omega, xH, rfl, MH.oT, MH.xp.1⟩
      · have tg : ((i : Int) > 0) = True := eq_true (by omega)
        have hb2 : h.length ≤ H.length := (y4.trans xO).len
        obtain ⟨w5, H5, e5, t5, k5', hk5, x5, o5, hT5⟩ := run_tried (base := h.length) (L := L) (sv := sv) hb2 hSp (by omega) MH.hP hs1 MH.hc
        have hsp := @Nat.succ_ne_zero; repeat' (first | simp (disch := first | exact dschE43 | fail) only [go_sem, ↓reduceIte, hsp, kZ5, kZ6, kZ7, kZ9, kZ11, kZ13, kZ14, kZ15, kZ90, tg, gl, e5] | refine WP_drw ?_ | refine cnd_intro (fun hsp => ?_) fun hsp => ?_)
        exact ⟨by (repeat first | exact Agree.refl | assumption | refine Agree.put rfl ?_ | refine Agree.put0 ?_ | refine Agree.sub rfl (by assumption) ?_), w5, t5, k5', by omega, (xH.step (k' := k5') (by simp)).ext x5, rfl, o5.low (Nat.zero_le _), hT5⟩
    · rintro fr6 K ⟨hA6, tw, tt, k', hk', xK, r15, oK, hTT⟩
      have xOK := xK.old
      have MK := M4.ext xOK
      have yK := y4.trans xOK
      have glK := xOK.get gl4
      have htt := truth_len hTT
      have hb2 : h.length ≤ K.length := yK.len
      have y5 := hA6 5 rfl
      have y6 := hA6 6 rfl
      have y7 := hA6 7 rfl
      have y9 := hA6 9 rfl
      have y11 := hA6 11 rfl
      have y13 := hA6 13 rfl
      have y14 := hA6 14 rfl
      have y90 := hA6 90 rfl
      try simp (disch := first | exact dschE43 | fail) only [go_sem, ↓reduceIte, kZ5, kZ6, kZ7, kZ9, kZ11, kZ13, kZ14, kZ90] at y5 y6 y7 y9 y11 y13 y14 y90
      have hxp := fun base => run_explains (base := base) (MK.lom) M1.ok (oK.rows (show tt.length < 2 ^ 60 by omega)) (by omega)
      obtain ⟨w6, H6, e6, x6, u6, rfl, o6⟩ := run_Left (base := h.length) (L := L) (t := tt) yK.len MK.lom M1.ok (oK.rows (by omega)) (by omega)
      obtain ⟨lf1, lf2, lf3⟩ := lftM_ok M1.hc hTT
      rw [lf1] at e6 hxp
      have i6 := own_ints o6 (lftM_small M1.hc hTT)
      have hu6 := o6.one
      have M6 := MK.ext x6
      have gl6 := x6.get glK
      have ht6 := oK.ext x6
      have hxe := fun base => run_explains4 (base := base) M6.hP M6.hS M6.hc (ht6.rows (show tt.length < 2 ^ 60 by omega)) (by omega)
      have cT6 : lenOpA prog H6 27 tw = some (.int .i64 (tt.length : Int)) := own_len ht6 Fc.el27 (by omega)
      have c26 : lenOpA prog H6 27 u2 = some (.int .i64 ((fewM L).1.length : Int)) := own_len (o2.ext ((((x3.trans x4).trans xOK)).trans x6)) Fc.el27 (by omega)
      have i46 := (i4.ext xOK).ext x6
      have hlS6 : lenOpA prog H6 24 sv = some (.int .i64 (L.ss.length : Int)) := M6.hS.len Fc.el24
      have htw1 := oK.one
      have hlen0 : (((lftM L tt).1.length : Int) = 0) = (xplM L tt = true) := propext ⟨fun q => lf2.2 (by omega), fun q => by have := lf2.1 q; omega⟩
      have hless : xplM L tt = true → (((tt.length : Int) < ((fewM L).1.length : Int)) = False) := fun q => eq_false fun q2 => by
        have := hf.2.2 tt ((xplM_iff M1.hc).1 q)
        omega
      have y6 := yK.trans x6
      have h6l := y6.len
      have hIS : ∀ {i : Nat}, i < L.ss.length → (((i : Int) ∈ (lftM L tt).1) = ((badB L tt (L.ss.getD i sgt0) ≠ (L.ss.getD i sgt0).bad))) := fun {i} hi => by
        rw [lf3, sgtI_nat, badI_nat, ← badB_iff hTT.2, ← Bool.eq_iff_iff]
        exact propext ⟨fun q => q.2, fun q => ⟨by omega, q⟩⟩
      rcases Bool.eq_false_or_eq_true (xplM L tt) with hxv | hxv
      · have t1 : (((tt.length : Int) < ((fewM L).1.length : Int)) = False) := hless hxv
        have t0 : (((lftM L tt).1.length : Int) = 0) = True := by rw [hlen0, hxv]; simp
        rw [hxv] at hxp hxe
        have hsp := @Nat.succ_ne_zero; repeat' (first | simp (disch := first | exact dschE43 | fail) only [go_sem, ↓reduceIte, hsp, r15, y5, y6, y7, y9, y11, y13, y14, y90, kZ5, kZ6, kZ7, kZ9, kZ11, kZ13, kZ14, kZ15, kZ90, glK, gl6, hxp, e6, hxe, cT6, c26, t1, t0, hlS6, neB, eq_self, decide_true, decide_false, Bool.not_true, Bool.not_false, Bool.false_eq_true] | refine WP_drw ?_ | refine cnd_intro (fun hsp => ?_) fun hsp => ?_)
        refine WP_count [(4, 4), (20, 21), (144, 175)] 0 L.ss.length (Nat.zero_le _) (fun H0 j fr h' => fr 144 = .int .i64 (j : Int) ∧ Ext H0 h') ?_ ?_ ?_
        · exact ⟨by (simp (disch := first | exact dschE43 | fail) only [go_sem, ↓reduceIte, Int.natCast_zero]; first | done | rfl), .refl⟩
        · rintro j fr8 K1 hj0 hj hA8 ⟨r144, xK1⟩
          have d5 := hA8 5 rfl
          have d6 := hA8 6 rfl
          have d7 := hA8 7 rfl
          have d9 := hA8 9 rfl
          have d11 := hA8 11 rfl
          have d13 := hA8 13 rfl
          have d15 := hA8 15 rfl
          have d16 := hA8 16 rfl
          have d18 := hA8 18 rfl
          have d90 := hA8 90 rfl
          have d142 := hA8 142 rfl
          have d143 := hA8 143 rfl
          try simp (disch := first | exact dschE43 | fail) only [go_sem, ↓reduceIte, y5, y6, y7, y9, y11, y13, y90] at d5 d6 d7 d9 d11 d13 d15 d16 d18 d90 d142 d143
          have hltj : ((j : Int) < (L.ss.length : Int)) = True := eq_true (by omega)
          have MJ := M6.ext xK1
          have hgj := getD_some (d := sgt0) hj
          have hadj := MJ.hS.addr (P := prog) (i := (j : Int)) Fc.el24 Fc.ar24 (by omega) (by omega)
          rw [Int.toNat_natCast] at hadj
          obtain ⟨x, ex⟩ : ∃ x, x = L.ss.getD j sgt0 := ⟨_, rfl⟩
          have hldj : loadP prog K1 39 (elAdr sv encS.z j 0) = some (.agg [.int .i64 x.rib, .int .i64 x.lo, .int .i64 x.hi, .bool x.bad]) := by rw [ex]; exact MJ.hS.load (P := prog) Fc.ty39 hgj
          obtain ⟨K2, eK2⟩ : ∃ K2, K2 = K1 ++ [⟨.cells [.int .i64 x.rib, .int .i64 x.lo, .int .i64 x.hi, .bool x.bad] 39 false false, 0⟩] := ⟨_, rfl⟩
          have xK2 : Ext K1 K2 := by rw [eK2]; exact .app .refl
          have xK12 := xK1.trans xK2
          have MJ2 := M6.ext xK12
          have gl2J := xK12.get gl6
          have gxJ : K2[K1.length]? = some ⟨.cells [.int .i64 x.rib, .int .i64 x.lo, .int .i64 x.hi, .bool x.bad] 39 false false, 0⟩ := by rw [eK2]; exact get_eq rfl
          have hKl : h.length ≤ K1.length := by have := xK1.len; omega
          have j6 := i6.ext xK12
          have j4 := i46.ext xK12
          have hsx := sgOk_of M1.hc x (by rw [ex]; exact getD_mem' hj)
          have rb := fun base => run_bad (base := base) MJ2.hP hs1 M1.hc ((ht6.ext xK12).rows (by omega)) hTT.2 hsx
          have rw' := fun base => run_weaver (base := base) MJ2.hP hs1 M1.hc ((ht6.ext xK12).rows (by omega)) hTT.2 hsx
          simp only [encS] at rb rw'
          have e21 : (decide ((j : Int) ∈ (lftM L tt).1)) = decide (badB L tt x ≠ x.bad) := by rw [decide_eq_decide, ex]; exact Iff.of_eq (hIS hj)
          have e22 : decide (decide (badB L tt x ≠ x.bad) ≠ decide (badB L tt x ≠ x.bad)) = false := by simp
          have xx : Ext H6 K2 := xK12
          by_cases co : (j : Int) ∈ (wvrM L).1
          · have to : ((j : Int) ∈ (wvrM L).1) = True := eq_true co
            have hwt : wvB L tt x = true := by
              rw [wvB_iff hTT.2, ex, ← sgtI_nat]
              exact ((hwv.2 _).1 co).2 tt ((xplM_iff M1.hc).1 hxv)
            rw [hwt] at rw'
            have hsp := @Nat.succ_ne_zero; repeat' (first | simp (disch := first | exact dschE43 | fail) only [go_sem, ↓reduceIte, hsp, r144, r15, d5, d6, d7, d9, d11, d13, d15, d16, d18, d90, d142, d143, y5, y6, y7, y9, y11, y13, y14, y90, kZ5, kZ6, kZ7, kZ9, kZ11, kZ13, kZ14, kZ15, kZ90, hltj, hadj, hldj, ← eK2, gl2J, gxJ, rb, rw', run_contains, e21, e22, to, neB, eq_self, decide_true, decide_false, Bool.not_true, Bool.not_false, Bool.false_eq_true] | refine WP_drw ?_ | refine cnd_intro (fun hsp => ?_) fun hsp => ?_)
            exact ⟨by (repeat first | exact Agree.refl | assumption | refine Agree.put rfl ?_ | refine Agree.put0 ?_ | refine Agree.sub rfl (by assumption) ?_), by omega, xx⟩
          · have to : ((j : Int) ∈ (wvrM L).1) = False := eq_false co
            have hsp := @Nat.succ_ne_zero; repeat' (first | simp (disch := first | exact dschE43 | fail) only [go_sem, ↓reduceIte, hsp, r144, r15, d5, d6, d7, d9, d11, d13, d15, d16, d18, d90, d142, d143, y5, y6, y7, y9, y11, y13, y14, y90, kZ5, kZ6, kZ7, kZ9, kZ11, kZ13, kZ14, kZ15, kZ90, hltj, hadj, hldj, ← eK2, gl2J, gxJ, rb, run_contains, e21, e22, to, neB, eq_self, decide_true, decide_false, Bool.not_true, Bool.not_false, Bool.false_eq_true] | refine WP_drw ?_ | refine cnd_intro (fun hsp => ?_) fun hsp => ?_)
            exact ⟨by (repeat first | exact Agree.refl | assumption | refine Agree.put rfl ?_ | refine Agree.put0 ?_ | refine Agree.sub rfl (by assumption) ?_), by omega, xx⟩
        · rintro fr8 K1 hA8 ⟨r144, xK1⟩
          have d5 := hA8 5 rfl
          have d6 := hA8 6 rfl
          have d7 := hA8 7 rfl
          have d9 := hA8 9 rfl
          have d11 := hA8 11 rfl
          have d13 := hA8 13 rfl
          have d15 := hA8 15 rfl
          have d16 := hA8 16 rfl
          have d18 := hA8 18 rfl
          have d90 := hA8 90 rfl
          have d142 := hA8 142 rfl
          have d143 := hA8 143 rfl
          try simp (disch := first | exact dschE43 | fail) only [go_sem, ↓reduceIte, y5, y6, y7, y9, y11, y13, y90] at d5 d6 d7 d9 d11 d13 d15 d16 d18 d90 d142 d143
          have hltj : ((L.ss.length : Int) < (L.ss.length : Int)) = False := eq_false (by omega)
          have hsp := @Nat.succ_ne_zero; repeat' (first | simp (disch := first | exact dschE43 | fail) only [go_sem, ↓reduceIte, hsp, r144, d5, d6, d7, d9, d11, d13, d15, d16, d18, d90, d142, d143, y5, y6, y7, y9, y11, y13, y14, y90, kZ5, kZ6, kZ7, kZ9, kZ11, kZ13, kZ14, kZ15, kZ90, hltj] | refine WP_drw ?_ | refine cnd_intro (fun hsp => ?_) fun hsp => ?_)
          exact ⟨by (repeat first | exact Agree.refl | assumption | refine Agree.put rfl ?_ | refine Agree.put0 ?_ | refine Agree.sub rfl (by assumption) ?_), by omega, k', hk', (xK.ext x6).ext xK1⟩
      · have t0 : (((lftM L tt).1.length : Int) = 0) = False := by rw [hlen0, hxv]; simp
        rw [hxv] at hxp hxe
        have hsp := @Nat.succ_ne_zero; repeat' (first | simp (disch := first | exact dschE43 | fail) only [go_sem, ↓reduceIte, hsp, r15, y5, y6, y7, y9, y11, y13, y14, y90, kZ5, kZ6, kZ7, kZ9, kZ11, kZ13, kZ14, kZ15, kZ90, glK, gl6, hxp, e6, hxe, cT6, c26, t0, hlS6, neB, eq_self, decide_true, decide_false, Bool.not_true, Bool.not_false, Bool.false_eq_true] | refine WP_drw ?_ | refine cnd_intro (fun hsp => ?_) fun hsp => ?_)
        refine WP_count [(4, 4), (20, 21), (144, 175)] 0 L.ss.length (Nat.zero_le _) (fun H0 j fr h' => fr 144 = .int .i64 (j : Int) ∧ Ext H0 h') ?_ ?_ ?_
        · exact ⟨by (simp (disch := first | exact dschE43 | fail) only [go_sem, ↓reduceIte, Int.natCast_zero]; first | done | rfl), .refl⟩
        · rintro j fr8 K1 hj0 hj hA8 ⟨r144, xK1⟩
          have d5 := hA8 5 rfl
          have d6 := hA8 6 rfl
          have d7 := hA8 7 rfl
          have d9 := hA8 9 rfl
          have d11 := hA8 11 rfl
          have d13 := hA8 13 rfl
          have d15 := hA8 15 rfl
          have d16 := hA8 16 rfl
          have d18 := hA8 18 rfl
          have d90 := hA8 90 rfl
          have d142 := hA8 142 rfl
          have d143 := hA8 143 rfl
          try simp (disch := first | exact dschE43 | fail) only [go_sem, ↓reduceIte, y5, y6, y7, y9, y11, y13, y90] at d5 d6 d7 d9 d11 d13 d15 d16 d18 d90 d142 d143
          have hltj : ((j : Int) < (L.ss.length : Int)) = True := eq_true (by omega)
          have MJ := M6.ext xK1
          have hgj := getD_some (d := sgt0) hj
          have hadj := MJ.hS.addr (P := prog) (i := (j : Int)) Fc.el24 Fc.ar24 (by omega) (by omega)
          rw [Int.toNat_natCast] at hadj
          obtain ⟨x, ex⟩ : ∃ x, x = L.ss.getD j sgt0 := ⟨_, rfl⟩
          have hldj : loadP prog K1 39 (elAdr sv encS.z j 0) = some (.agg [.int .i64 x.rib, .int .i64 x.lo, .int .i64 x.hi, .bool x.bad]) := by rw [ex]; exact MJ.hS.load (P := prog) Fc.ty39 hgj
          obtain ⟨K2, eK2⟩ : ∃ K2, K2 = K1 ++ [⟨.cells [.int .i64 x.rib, .int .i64 x.lo, .int .i64 x.hi, .bool x.bad] 39 false false, 0⟩] := ⟨_, rfl⟩
          have xK2 : Ext K1 K2 := by rw [eK2]; exact .app .refl
          have xK12 := xK1.trans xK2
          have MJ2 := M6.ext xK12
          have gl2J := xK12.get gl6
          have gxJ : K2[K1.length]? = some ⟨.cells [.int .i64 x.rib, .int .i64 x.lo, .int .i64 x.hi, .bool x.bad] 39 false false, 0⟩ := by rw [eK2]; exact get_eq rfl
          have hKl : h.length ≤ K1.length := by have := xK1.len; omega
          have j6 := i6.ext xK12
          have j4 := i46.ext xK12
          have hsx := sgOk_of M1.hc x (by rw [ex]; exact getD_mem' hj)
          have rb := fun base => run_bad (base := base) MJ2.hP hs1 M1.hc ((ht6.ext xK12).rows (by omega)) hTT.2 hsx
          have rw' := fun base => run_weaver (base := base) MJ2.hP hs1 M1.hc ((ht6.ext xK12).rows (by omega)) hTT.2 hsx
          simp only [encS] at rb rw'
          have e21 : (decide ((j : Int) ∈ (lftM L tt).1)) = decide (badB L tt x ≠ x.bad) := by rw [decide_eq_decide, ex]; exact Iff.of_eq (hIS hj)
          have e22 : decide (decide (badB L tt x ≠ x.bad) ≠ decide (badB L tt x ≠ x.bad)) = false := by simp
          have xx : Ext H6 K2 := xK12
          have hsp := @Nat.succ_ne_zero; repeat' (first | simp (disch := first | exact dschE43 | fail) only [go_sem, ↓reduceIte, hsp, r144, r15, d5, d6, d7, d9, d11, d13, d15, d16, d18, d90, d142, d143, y5, y6, y7, y9, y11, y13, y14, y90, kZ5, kZ6, kZ7, kZ9, kZ11, kZ13, kZ14, kZ15, kZ90, hltj, hadj, hldj, ← eK2, gl2J, gxJ, rb, run_contains, e21, e22, neB, eq_self, decide_true, decide_false, Bool.not_true, Bool.not_false, Bool.false_eq_true] | refine WP_drw ?_ | refine cnd_intro (fun hsp => ?_) fun hsp => ?_)
          exact ⟨by (repeat first | exact Agree.refl | assumption | refine Agree.put rfl ?_ | refine Agree.put0 ?_ | refine Agree.sub rfl (by assumption) ?_), by omega, xx⟩
        · rintro fr8 K1 hA8 ⟨r144, xK1⟩
          have d5 := hA8 5 rfl
          have d6 := hA8 6 rfl
          have d7 := hA8 7 rfl
          have d9 := hA8 9 rfl
          have d11 := hA8 11 rfl
          have d13 := hA8 13 rfl
          have d15 := hA8 15 rfl
          have d16 := hA8 16 rfl
          have d18 := hA8 18 rfl
          have d90 := hA8 90 rfl
          have d142 := hA8 142 rfl
          have d143 := hA8 143 rfl
          try simp (disch := first | exact dschE43 | fail) only [go_sem, ↓reduceIte, y5, y6, y7, y9, y11, y13, y90] at d5 d6 d7 d9 d11 d13 d15 d16 d18 d90 d142 d143
          have hltj : ((L.ss.length : Int) < (L.ss.length : Int)) = False := eq_false (by omega)
          have hsp := @Nat.succ_ne_zero; repeat' (first | simp (disch := first | exact dschE43 | fail) only [go_sem, ↓reduceIte, hsp, r144, d5, d6, d7, d9, d11, d13, d15, d16, d18, d90, d142, d143, y5, y6, y7, y9, y11, y13, y14, y90, kZ5, kZ6, kZ7, kZ9, kZ11, kZ13, kZ14, kZ15, kZ90, hltj] | refine WP_drw ?_ | refine cnd_intro (fun hsp => ?_) fun hsp => ?_)
          exact ⟨by (repeat first | exact Agree.refl | assumption | refine Agree.put rfl ?_ | refine Agree.put0 ?_ | refine Agree.sub rfl (by assumption) ?_), by omega, k', hk', (xK.ext x6).ext xK1⟩
  · rintro fr H hA ⟨r90, kk, hk2, xH⟩
    have p5 := hA 5 rfl
    have p6 := hA 6 rfl
    have p7 := hA 7 rfl
    have p9 := hA 9 rfl
    have p11 := hA 11 rfl
    have p13 := hA 13 rfl
    try simp (disch := first | exact dschE43 | fail) only [go_sem, ↓reduceIte] at p5 p6 p7 p9 p11 p13
    have hlt : ((10 : Int) < 10) = False := eq_false (by omega)
    have xO := xH.old
    have MH := M4.ext xO
    have gl : H[H1.length]? = some ⟨.cells [.int .i64 L.R, .int .i64 L.T, pv, sv] 26 false false, 0⟩ := xO.get gl4
    have hlS : lenOpA prog H 24 sv = some (.int .i64 (L.ss.length : Int)) := MH.hS.len Fc.el24
    have hsp := @Nat.succ_ne_zero; repeat' (first | simp (disch := first | exact dschE43 | fail) only [go_sem, ↓reduceIte, hsp, r90, p5, p6, p7, p9, p11, p13, hlt, gl, hlS] | refine WP_drw ?_ | refine cnd_intro (fun hsp => ?_) fun hsp => ?_)
    have yH := y4.trans xO
    have j3H := i3.ext xO
    have j4H := i4.ext xO
    refine WP_count [(4, 4), (22, 25), (180, 228)] 0 L.ss.length (Nat.zero_le _) (fun _ j fr h' => fr 180 = .int .i64 (j : Int) ∧ Ext H h') ?_ ?_ ?_
    · exact ⟨by (simp (disch := first | exact dschE43 | fail) only [go_sem, ↓reduceIte, Int.natCast_zero]; first | done | rfl), .refl⟩
    · rintro j fr8 K1 hj0 hj hA8 ⟨r180, xK1⟩
      have d5 := hA8 5 rfl
      have d9 := hA8 9 rfl
      have d11 := hA8 11 rfl
      have d178 := hA8 178 rfl
      have d179 := hA8 179 rfl
      try simp (disch := first | exact dschE43 | fail) only [go_sem, ↓reduceIte, p5, p9, p11] at d5 d9 d11 d178 d179
      have hltj : ((j : Int) < (L.ss.length : Int)) = True := eq_true (by omega)
      have MJ := MH.ext xK1
      have hgj := getD_some (d := sgt0) hj
      have hadj := MJ.hS.addr (P := prog) (i := (j : Int)) Fc.el24 Fc.ar24 (by omega) (by omega)
      rw [Int.toNat_natCast] at hadj
      obtain ⟨x, ex⟩ : ∃ x, x = L.ss.getD j sgt0 := ⟨_, rfl⟩
      have hldj : loadP prog K1 39 (elAdr sv encS.z j 0) = some (.agg [.int .i64 x.rib, .int .i64 x.lo, .int .i64 x.hi, .bool x.bad]) := by rw [ex]; exact MJ.hS.load (P := prog) Fc.ty39 hgj
      obtain ⟨K2, eK2⟩ : ∃ K2, K2 = K1 ++ [⟨.cells [.int .i64 x.rib, .int .i64 x.lo, .int .i64 x.hi, .bool x.bad] 39 false false, 0⟩] := ⟨_, rfl⟩
      have xK2 : Ext K1 K2 := by rw [eK2]; exact .app .refl
      have xK12 := xK1.trans xK2
      have MJ2 := MH.ext xK12
      have yK2 := yH.trans xK12
      obtain ⟨w5, H5, e5, x5, u5, rfl, o5⟩ := run_Other (base := h.length) (i := (j : Int)) yK2.len MJ2.lom M1.ok
      have x125 := xK12.trans x5
      have M5 := MH.ext x125
      have gK2 := xK12.get gl
      have gK5 := x5.get gK2
      have gxJ : K2[K1.length]? = some ⟨.cells [.int .i64 x.rib, .int .i64 x.lo, .int .i64 x.hi, .bool x.bad] 39 false false, 0⟩ := by rw [eK2]; exact get_eq rfl
      have gxJ5 := x5.get gxJ
      have hKl : h.length ≤ K1.length := (yH.trans xK1).len
      have hu5 := o5.one
      have j35 := j3H.ext x125
      have j45 := j4H.ext x125
      have hsx := sgOk_of M1.hc x (by rw [ex]; exact getD_mem' hj)
      have hbj : badI L (j : Int) = x.bad := by rw [ex]; exact badI_nat
      have hsj : sgtI L (j : Int) = x := by rw [ex]; exact sgtI_nat
      have hjj : 0 ≤ (j : Int) ∧ (j : Int) < (L.ss.length : Int) := by omega
      rcases Bool.eq_false_or_eq_true x.bad with g1 | g1
      · rw [g1] at gxJ5 hbj
        rcases othM_truth M1.hc M1.xp hjj hbj with ⟨q1, q2⟩ | ⟨q1, q2, q3⟩
        · have to : ((j : Int) ∈ (wvrM L).1) = True := eq_true ((hwv.2 _).2 ⟨⟨hjj, hbj⟩, q1⟩)
          rw [q2] at e5
          have hsp := @Nat.succ_ne_zero; repeat' (first | simp (disch := first | exact dschE43 | fail) only [go_sem, ↓reduceIte, hsp, r180, d5, d9, d11, d178, d179, p5, p6, p7, p9, p11, p13, hltj, hadj, hldj, ← eK2, gK2, gK5, gxJ5, e5, run_contains, to, eq_self, decide_true, decide_false, Bool.not_true, Bool.not_false, Bool.false_eq_true] | refine WP_drw ?_ | refine cnd_intro (fun hsp => ?_) fun hsp => ?_)
          exact ⟨by (repeat first | exact Agree.refl | assumption | refine Agree.put rfl ?_ | refine Agree.put0 ?_ | refine Agree.sub rfl (by assumption) ?_), by omega, x125⟩
        · have to : ((j : Int) ∈ (wvrM L).1) = False := eq_false fun q => q3 (((hwv.2 _).1 q).2 _ q2)
          rw [q1] at e5
          have hul := truth_len q2.1
          have hxe := fun base => run_explains4 (base := base) M5.hP M5.hS M5.hc (o5.rows (by omega)) (by omega)
          rw [(xplM_iff M1.hc).2 q2] at hxe
          have rw' := fun base => run_weaver (base := base) M5.hP hs1 M1.hc (o5.rows (by omega)) q2.1.2 hsx
          have hwf : wvB L (othM L (j : Int)).1 x = false := Bool.eq_false_iff.2 fun q => q3 (by rw [hsj]; exact (wvB_iff q2.1.2).1 q)
          rw [hwf] at rw'
          simp only [encS, g1] at rw'
          have hsp := @Nat.succ_ne_zero; repeat' (first | simp (disch := first | exact dschE43 | fail) only [go_sem, ↓reduceIte, hsp, r180, d5, d9, d11, d178, d179, p5, p6, p7, p9, p11, p13, hltj, hadj, hldj, ← eK2, gK2, gK5, gxJ5, e5, hxe, rw', run_contains, to, eq_self, decide_true, decide_false, Bool.not_true, Bool.not_false, Bool.false_eq_true] | refine WP_drw ?_ | refine cnd_intro (fun hsp => ?_) fun hsp => ?_)
          exact ⟨by (repeat first | exact Agree.refl | assumption | refine Agree.put rfl ?_ | refine Agree.put0 ?_ | refine Agree.sub rfl (by assumption) ?_), by omega, x125⟩
      · rw [g1] at gxJ5 hbj
        have q2 : othM L (j : Int) = ([], 8) := by
          unfold othM
          rw [if_neg (by simp [M1.hc]), if_neg (by rw [sgtB_iff.2 hjj]; simp), if_pos hbj]
        rw [q2] at e5
        have to : ((j : Int) ∈ (wvrM L).1) = False := eq_false fun q => by
          have := ((hwv.2 _).1 q).1.2
          rw [hbj] at this; cases this
        have tp : ((j : Int) ∈ (pckM L).1) = False := eq_false fun q => by
          have := (deskA_mem.1 (hk.2.1.subset q)).2
          rw [hbj] at this; cases this
        have hsp := @Nat.succ_ne_zero; repeat' (first | simp (disch := first | exact dschE43 | fail) only [go_sem, ↓reduceIte, hsp, r180, d5, d9, d11, d178, d179, p5, p6, p7, p9, p11, p13, hltj, hadj, hldj, ← eK2, gK2, gK5, gxJ5, e5, run_contains, to, tp, eq_self, decide_true, decide_false, Bool.not_true, Bool.not_false, Bool.false_eq_true] | refine WP_drw ?_ | refine cnd_intro (fun hsp => ?_) fun hsp => ?_)
        exact ⟨by (repeat first | exact Agree.refl | assumption | refine Agree.put rfl ?_ | refine Agree.put0 ?_ | refine Agree.sub rfl (by assumption) ?_), by omega, x125⟩
    · rintro fr8 K1 hA8 ⟨r180, xK1⟩
      have d5 := hA8 5 rfl
      have d9 := hA8 9 rfl
      have d11 := hA8 11 rfl
      have d178 := hA8 178 rfl
      have d179 := hA8 179 rfl
      try simp (disch := first | exact dschE43 | fail) only [go_sem, ↓reduceIte, p5, p9, p11] at d5 d9 d11 d178 d179
      have hltj : ((L.ss.length : Int) < (L.ss.length : Int)) = False := eq_false (by omega)
      have j3K := j3H.ext xK1
      have hsp := @Nat.succ_ne_zero; repeat' (first | simp (disch := first | exact dschE43 | fail) only [go_sem, ↓reduceIte, hsp, r180, d5, d9, d11, d178, d179, p5, p6, p7, p9, p11, p13, hltj] | refine WP_drw ?_ | refine cnd_intro (fun hsp => ?_) fun hsp => ?_)
      have yK1 := yH.trans xK1
      have MK1 := MH.ext xK1
      have glK1 := xK1.get gl
      have hps := pckM_sorted M1.hc M1.xp
      have hkl : (pckM L).1.length ≤ 10 := by have := hk.2.1.length_le; have := (deskL_A M1.hc M1.ok).2.1; omega
      refine WP_count [(4, 4), (26, 31), (231, 263)] 0 (pckM L).1.length (Nat.zero_le _) (fun H0 i fr h' => fr 231 = .int .i64 (i : Int) ∧ h' = H0) ?_ ?_ ?_
      · exact ⟨by (simp (disch := first | exact dschE43 | fail) only [go_sem, ↓reduceIte, Int.natCast_zero]; first | done | rfl), rfl⟩
      · rintro i fr9 K3 hi0 hi hA9 ⟨r231, eK3⟩
        subst eK3
        have e5 := hA9 5 rfl
        have e9 := hA9 9 rfl
        have e229 := hA9 229 rfl
        have e230 := hA9 230 rfl
        try simp (disch := first | exact dschE43 | fail) only [go_sem, ↓reduceIte, d5, d9] at e5 e9 e229 e230
        have hlti : ((i : Int) < ((pckM L).1.length : Int)) = True := eq_true (by omega)
        obtain ⟨id3, ver3, eu3, _⟩ : ∃ id3 ver3, u3 = .slice (some ⟨id3, ver3, 0⟩) (pckM L).1.length (pckM L).1.length ∧ True := by
          rcases o3 with ⟨_, q⟩ | ⟨id3, ver3, q, _⟩
          · rw [q] at hi; simp at hi
          · exact ⟨id3, ver3, q, trivial⟩
        have hsl : sliceA prog 32 u3 none (some (.int .i64 (i : Int))) none = some (.slice (some ⟨id3, ver3, 0⟩) i (pckM L).1.length) := by
          rw [eu3]; exact sl_to (by omega) (by omega)
        have jT : Ints K3 (.slice (some ⟨id3, ver3, 0⟩) i (pckM L).1.length) ((pckM L).1.take i) := by
          rw [eu3] at j3K
          exact j3K.take (by omega)
        have hlT : ((pckM L).1.take i).length = i := by rw [List.length_take]; omega
        have e3' := e3
        obtain ⟨a, ea⟩ : ∃ a, a = (pckM L).1.getD i 0 := ⟨_, rfl⟩
        have hsp := @Nat.succ_ne_zero; repeat' (first | simp (disch := first | exact dschE43 | fail) only [go_sem, ↓reduceIte, hsp, r231, e5, e9, e229, e230, d5, d9, d11, d178, d179, p5, p6, p7, p9, p11, p13, hlti, hsl, hlT, ← ea] | refine WP_drw ?_ | refine cnd_intro (fun hsp => ?_) fun hsp => ?_)
        refine WP_count [(4, 4), (29, 31), (240, 262)] 0 i (Nat.zero_le _) (fun H0 q fr h' => fr 240 = .int .i64 (q : Int) ∧ h' = H0) ?_ ?_ ?_
        · exact ⟨by (simp (disch := first | exact dschE43 | fail) only [go_sem, ↓reduceIte, Int.natCast_zero]; first | done | rfl), rfl⟩
        · rintro q fr10 K4 hq0 hq hA10 ⟨r240, eK4⟩
          subst eK4
          have g5 := hA10 5 rfl
          have g9 := hA10 9 rfl
          have g27 := hA10 27 rfl
          have g229 := hA10 229 rfl
          have g230 := hA10 230 rfl
          have g231 := hA10 231 rfl
          have g238 := hA10 238 rfl
          have g239 := hA10 239 rfl
          try simp (disch := first | exact dschE43 | fail) only [go_sem, ↓reduceIte, e5, e9, e229, e230] at g5 g9 g27 g229 g230 g231 g238 g239
          have hltq : ((q : Int) < (i : Int)) = True := eq_true (by omega)
          obtain ⟨b, eb⟩ : ∃ b, b = ((pckM L).1.take i).getD q 0 := ⟨_, rfl⟩
          have eb2 : b = (pckM L).1[q] := by rw [eb, getD_at (by omega), List.getElem_take]
          have ea2 : a = (pckM L).1[i] := by rw [ea, getD_at hi]
          have hba : b < a := by rw [eb2, ea2]; exact List.pairwise_iff_getElem.1 hps q i (by omega) hi hq
          have hma : a ∈ (pckM L).1 := by rw [ea2]; exact List.getElem_mem hi
          have hmb : b ∈ (pckM L).1 := by rw [eb2]; exact List.getElem_mem (by omega)
          have hda := deskA_mem.1 (hk.2.1.subset hma)
          have hdb := deskA_mem.1 (hk.2.1.subset hmb)
          obtain ⟨A1, A2⟩ := aptM_iff M1.hc hda hdb (by omega)
          have hap : aprT L a b := by
            rcases hk.2.2.1 a hma b hmb with w | w
            · omega
            · exact w
          have ra := fun base => run_Apart (base := base) (a := a) (b := b) MK1.lom M1.ok
          rw [A1, A2.2 hap] at ra
          have tge : (b ≥ a) = False := eq_false (by omega)
          have h0 := loadI jT (i := q) (by omega)
          rw [← eb] at h0
          have h1 : elAddr (.slice (some ⟨id3, ver3, 0⟩) i (pckM L).1.length) q = .ptr (some ⟨id3, ver3, q⟩) := by simp [elAddr, ARef.add]
          rw [h1] at h0
          simp only [go_sem] at h0
          have hsp := @Nat.succ_ne_zero; repeat' (first | simp (disch := first | exact dschE43 | fail) only [go_sem, ↓reduceIte, hsp, r240, g5, g9, g27, g229, g230, g231, g238, g239, e5, e9, e229, e230, d5, d9, d11, d178, d179, p5, p6, p7, p9, p11, p13, hltq, ← eb, h0, glK1, ra, tge, hlT, eq_self, Bool.not_true, Bool.not_false, Bool.false_eq_true] | refine WP_drw ?_ | refine cnd_intro (fun hsp => ?_) fun hsp => ?_)
          exact ⟨by (repeat first | exact Agree.refl | assumption | refine Agree.put rfl ?_ | refine Agree.put0 ?_ | refine Agree.sub rfl (by assumption) ?_), by omega⟩
        · rintro fr10 K4 hA10 ⟨r240, eK4⟩
          subst eK4
          have g5 := hA10 5 rfl
          have g9 := hA10 9 rfl
          have g27 := hA10 27 rfl
          have g229 := hA10 229 rfl
          have g230 := hA10 230 rfl
          have g231 := hA10 231 rfl
          have g238 := hA10 238 rfl
          have g239 := hA10 239 rfl
          try simp (disch := first | exact dschE43 | fail) only [go_sem, ↓reduceIte, e5, e9, e229, e230] at g5 g9 g27 g229 g230 g231 g238 g239
          have hltq : ((i : Int) < (i : Int)) = False := eq_false (by omega)
          have hsp := @Nat.succ_ne_zero; repeat' (first | simp (disch := first | exact dschE43 | fail) only [go_sem, ↓reduceIte, hsp, r231, r240, g5, g9, g27, g229, g230, g231, g238, g239, e5, e9, e229, e230, d5, d9, d11, d178, d179, p5, p6, p7, p9, p11, p13, hltq] | refine WP_drw ?_ | refine cnd_intro (fun hsp => ?_) fun hsp => ?_)
          exact ⟨by (repeat first | exact Agree.refl | assumption | refine Agree.put rfl ?_ | refine Agree.put0 ?_ | refine Agree.sub rfl (by assumption) ?_), by omega⟩
      · rintro fr9 K3 hA9 ⟨r231, eK3⟩
        subst eK3
        have e5 := hA9 5 rfl
        have e9 := hA9 9 rfl
        have e229 := hA9 229 rfl
        have e230 := hA9 230 rfl
        try simp (disch := first | exact dschE43 | fail) only [go_sem, ↓reduceIte, d5, d9] at e5 e9 e229 e230
        have hlti : (((pckM L).1.length : Int) < ((pckM L).1.length : Int)) = False := eq_false (by omega)
        have hsp := @Nat.succ_ne_zero; repeat' (first | simp (disch := first | exact dschE43 | fail) only [go_sem, ↓reduceIte, hsp, r231, e5, e9, e229, e230, d5, d9, d11, d178, d179, p5, p6, p7, p9, p11, p13, hlti, run_awake] | refine WP_drw ?_ | refine cnd_intro (fun hsp => ?_) fun hsp => ?_)
        exact fB rfl yK1
end Go.AM
