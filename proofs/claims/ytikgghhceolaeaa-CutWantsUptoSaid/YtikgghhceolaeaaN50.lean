/-
  CutWants, walked.
-/
import Derived.Test.YtikgghhceolaeaaU22
import Derived.Test.YtikgghhceolaeaaU19
set_option linter.unusedSimpArgs false
set_option linter.unusedVariables false
namespace Go.AM
open Go.Proofs.Try
theorem dschN50 {p : Prop} (h : p := by first | exact Nat.ne_of_beq_eq_false rfl | assumption | (apply asOne; (first | exact One.int | exact One.bool | assumption | exact Ints.one (by assumption) | exact Rows.one (by assumption) | exact Own.one (by assumption) | exact One.lit ⟨rfl, rfl, rfl⟩)) | (apply asInts; (repeat first | assumption | exact ints_nil | apply Ints.app); done) | (apply asRows; (repeat first | assumption | exact Rows.nil | apply Rows.app); done) | (apply asScal; (first | apply allS1 | apply allS2 | apply allS3 | apply allS4) <;> (first | exact One.int | exact One.bool | assumption | exact Ints.one (by assumption) | exact Rows.one (by assumption) | exact Own.one (by assumption) | exact One.lit ⟨rfl, rfl, rfl⟩)) | exact litT rfl | exact litF rfl | omega | (simp only [List.length_append, List.length_cons, List.length_nil, List.length_set, List.length_reverse]; first | done | omega) | fail) : p := h
attribute [-go_sem] put_ne put_same
attribute [local go_sem ↓] put_if
theorem app_two {b base : Nat} {H : Heap} {v w : AVal} {l m : List Int} {y : Int} (hO : Own encI 3 b H v l) (hO2 : Own encI 3 b H w m) (hA : Asun v w) (hb : base ≤ b) (hbh : b ≤ H.length) (hsz : l.length + 1 < 2147483648) :
    ∃ v' H', appendA prog base H 22 v (.vals [.int .i64 y]) = some (v', H') ∧ Own encI 3 b H' v' (l ++ [y]) ∧ Own encI 3 b H' w m ∧ H.length ≤ H'.length ∧ (∀ G, G.length ≤ b → Ext G H → Ext G H') ∧ One v' ∧ Asun v' w := by
  have ea := app_sn1 (P := prog) (y := y) (a := .int .i64 y) (base := base) (t := 22) hO rfl rfl Fc.el22 encI_sc hb hsz
  exact ⟨_, _, ea, hO.sn (m := [y]) hbh (by simp), hO2.sn_oth hA, snH_len, fun G hG g => hO.sn_ext hG g, snV_one, hO2.sn_asun hA⟩
def usP (R : Rib) (n : Nat) : List Int := (upto n).filter fun k => decide (k ∈ usN R R.L.toNat)
theorem usP_succ {R : Rib} {n : Nat} : usP R (n + 1) = usP R n ++ if (n : Int) ∈ usN R R.L.toNat then [(n : Int)] else [] := by
  unfold usP
  rw [upto_succ, List.filter_append, List.filter_cons, List.filter_nil]
  by_cases c : (n : Int) ∈ usN R R.L.toNat
  · rw [decide_eq_true c, if_pos rfl, if_pos c]
  · rw [decide_eq_false c, if_neg (by simp), if_neg c]
theorem usP_len {R : Rib} {n : Nat} : (usP R n).length ≤ n := by
  unfold usP
  exact Nat.le_trans (List.length_filter_le _ _) (by rw [upto_len]; exact Nat.le_refl _)
theorem filt_small {n : Nat} {p : Int → Bool} (h : n ≤ 1000) : Small ((upto n).filter p) :=
  ⟨Nat.lt_of_le_of_lt (Nat.le_trans (List.length_filter_le _ _) (by rw [upto_len]; exact Nat.le_refl n)) (by omega), fun y hy => by have := upto_mem.1 (List.mem_filter.1 hy).1; omega⟩
set_option maxRecDepth 100000 in
set_option maxHeartbeats 8000000 in
theorem run_CutWants {base : Nat} {h : Heap} {v0 v1 : AVal} (hA0 : RibN 1048576 h v0) (hi0 : IntV h v1) :
    callL prog raw base (.fn 9 [] []) [v0, v1] h = some (.bool true, h) := by
  obtain ⟨R, hA, -, -⟩ := hA0
  obtain ⟨want, rfl⟩ := hi0
  have hAA := hA
  obtain ⟨fv, wv, rfl, hF, hW⟩ := hAA
  have o1 := hF.one
  have o2 := hW.one
  obtain ⟨G0, eG0⟩ : ∃ G0, G0 = h ++ [ribB R.L fv wv] := ⟨_, rfl⟩
  have x0 : Ext h G0 := by rw [eG0]; exact .app .refl
  have g0 : G0[h.length]? = some (ribB R.L fv wv) := by rw [eG0]; exact get_eq rfl
  have lG0 : G0.length = h.length + 1 := by rw [eG0]; simp
  have hg := fun base => run_wide (base := base) (m := 14) (hA.ext x0)
  have haw := fun base => run_awake (base := base) (h := G0)
  unfold ribB at eG0
  have g0' := g0
  unfold ribB at g0'
  refine callL_run func9 rfl rfl ?_
  rcases Bool.eq_false_or_eq_true (decide (20 < R.F.length ∨ 12 < R.W.length) || (decide (14 < R.L) && decide (R.L ≤ 60))) with cg | cg
  · rw [cg] at hg
    have hsp := @Nat.succ_ne_zero; repeat' (first | simp (disch := first | exact dschN50 | fail) only [go_sem, ↓reduceIte, hsp, ← eG0, g0', hg, haw] | refine WP_drw ?_ | refine cnd_intro (fun hsp => ?_) fun hsp => ?_)
    exact fB rfl x0
  · rw [cg] at hg
    simp only [Bool.or_eq_false_iff, Bool.and_eq_false_iff, decide_eq_false_iff_not] at cg
    obtain ⟨_, G1, e1, x1, fw, ww, rfl, oF, oW⟩ := run_own (base := h.length) (h := G0) (by omega) (hA.ext x0) (by omega) (by omega)
    have l1 := x1.len
    obtain ⟨_, G2, e2, x2, aT, fw2, ww2, rfl, of2, ow2⟩ := run_theirs (base := h.length) (h := G1) (by omega) (hA.ext (x0.trans x1)) (by omega) (by omega)
    have l2 := x2.len
    have ofw := oF.one
    have oww := oW.one
    obtain ⟨G4, eG4⟩ : ∃ G4, G4 = G2 ++ [ribB R.L fw ww] ++ [rrbB R.L fw2 ww2] := ⟨_, rfl⟩
    have x4 : Ext G2 G4 := by rw [eG4]; exact .app (.app .refl)
    have l4 : G4.length = G2.length + 2 := by rw [eG4]; simp
    have gO4 : G4[G2.length]? = some (ribB R.L fw ww) := by rw [eG4]; exact get_app (get_eq rfl)
    have gT4 : G4[G2.length + 1]? = some (rrbB R.L fw2 ww2) := by rw [eG4]; exact get_eq (by simp)
    have x14 := x2.trans x4
    have xh4 : Ext h G4 := (x0.trans x1).trans x14
    have aO4 : RibAt G4 (.agg [.int .i64 R.L, fw, ww]) R := ⟨fw, ww, rfl, (ownE_ints oF ⟨by omega, hF.1.2⟩).ext x14, (oW.rows (by omega)).ext x14⟩
    have aT4 : RibAt G4 (.agg [.int .i64 R.L, fw2, ww2]) R := aT.ext x4
    have gc4 : G4[h.length]? = some (ribB R.L fv wv) := (x1.trans x14).get g0
    have hck := fun base => run_rcheck (base := base) aT4 (by omega) (by omega)
    have g01 := x1.get g0'
    unfold ribB rrbB at eG4
    unfold rrbB at gT4
    have gO4' := gO4
    unfold ribB at gO4'
    have gc4' := gc4
    unfold ribB at gc4'
    by_cases c : chkR R = 0
    · have hok := chkR_iff.1 c
      have hL := hok.L
      have hnW := hok.nW
      rw [c] at hck
      have hn4 := (hW.ext xh4).len (P := prog) Fc.el23
      have hsp := @Nat.succ_ne_zero; repeat' (first | simp (disch := first | exact dschN50 | fail) only [go_sem, ↓reduceIte, hsp, ← eG0, g0', hg, e1, g01, e2, ← eG4, gT4, hck, eq_self, gc4', hn4] | refine WP_drw ?_ | refine cnd_intro (fun hsp => ?_) fun hsp => ?_)
      refine WP_count [(9, 10), (12, 12), (34, 51)] 0 R.W.length (Nat.zero_le _) (fun _ k fr K => fr 34 = .int .i64 (k : Int) ∧ Ext G4 K ∧ ∃ w1 w2, fr 9 = w1 ∧ fr 10 = w2 ∧ Own encI 3 G4.length K w1 (usP R k) ∧ Own encI 3 G4.length K w2 (nedN R k) ∧ Asun w1 w2) ?_ ?_ ?_
      · exact ⟨by (simp (disch := first | exact dschN50 | fail) only [go_sem, ↓reduceIte, Int.natCast_zero]; first | done | rfl), .refl, .slice none 0 0, .slice none 0 0, by (simp (disch := first | exact dschN50 | fail) only [go_sem, ↓reduceIte, Int.natCast_zero]; first | done | rfl), by (simp (disch := first | exact dschN50 | fail) only [go_sem, ↓reduceIte, Int.natCast_zero]; first | done | rfl), Own.nil, Own.nil, Asun.nil⟩
      · rintro k fr K hk0 hk hAg ⟨r34, xK, w1, w2, r9, r10, oW1, oW2, hAs⟩
        have q1 := hAg 1 rfl
        have q2 := hAg 2 rfl
        have q4 := hAg 4 rfl
        have q5 := hAg 5 rfl
        have q6 := hAg 6 rfl
        have q7 := hAg 7 rfl
        have q8 := hAg 8 rfl
        have q11 := hAg 11 rfl
        have q33 := hAg 33 rfl
        try simp (disch := first | exact dschN50 | fail) only [go_sem, ↓reduceIte] at q1 q2 q4 q5 q6 q7 q8 q11 q33
        have hlt : ((k : Int) < (R.W.length : Int)) = True := eq_true (by omega)
        have ow1 := oW1.one
        have ow2 := oW2.one
        have lK := xK.len
        have gTK := xK.get gT4
        have hu := fun base => run_ruses (base := base) (k := (k : Int)) (aT4.ext xK) hok
        have s1 := usP_succ (R := R) (n := k)
        have s2 := nedN_succ (R := R) (n := k)
        have n1 := usP_len (R := R) (n := k)
        have n2 := nedN_len (R := R) (n := k)
        by_cases d1 : (k : Int) ∈ usN R R.L.toNat
        · rw [decide_eq_true d1] at hu
          rw [if_pos d1] at s1
          obtain ⟨v1, K1, ea, pW1, pW2, k1, eW1, one1, hAs1⟩ := app_two (base := h.length) (y := (k : Int)) oW1 oW2 hAs (by omega) (by omega) (by omega)
          rw [← s1] at pW1
          have xK1 := eW1 G4 (Nat.le_refl _) xK
          have gTK1 := xK1.get gT4
          have hn := fun base => run_rneeds (base := base) (k := k) (aT4.ext xK1) hok
          by_cases d2 : valD (witR R k) 0 < valD R 0
          · rw [decide_eq_true d2] at hn
            rw [if_pos d2] at s2
            obtain ⟨v2, K2, eb, rW2, rW1, k2, eW2, one2, hAs2⟩ := app_two (base := h.length) (y := (k : Int)) pW2 pW1 hAs1.symm (by omega) (by omega) (by omega)
            rw [← s2] at rW2
            have hsp := @Nat.succ_ne_zero; repeat' (first | simp (disch := first | exact dschN50 | fail) only [go_sem, ↓reduceIte, hsp, r34, r9, r10, q1, q2, q4, q5, q6, q7, q8, q11, q33, hlt, gTK, hu, ea, gTK1, hn, eb] | refine WP_drw ?_ | refine cnd_intro (fun hsp => ?_) fun hsp => ?_)
            exact ⟨by (repeat first | exact Agree.refl | assumption | refine Agree.put rfl ?_ | refine Agree.put0 ?_ | refine Agree.sub rfl (by assumption) ?_), by omega, eW2 G4 (Nat.le_refl _) xK1, _, _, rfl, rfl, rW1, rW2, hAs2.symm⟩
          · rw [decide_eq_false d2] at hn
            rw [if_neg d2, List.append_nil] at s2
            have hsp := @Nat.succ_ne_zero; repeat' (first | simp (disch := first | exact dschN50 | fail) only [go_sem, ↓reduceIte, hsp, r34, r9, r10, q1, q2, q4, q5, q6, q7, q8, q11, q33, hlt, gTK, hu, ea, gTK1, hn] | refine WP_drw ?_ | refine cnd_intro (fun hsp => ?_) fun hsp => ?_)
            exact ⟨by (repeat first | exact Agree.refl | assumption | refine Agree.put rfl ?_ | refine Agree.put0 ?_ | refine Agree.sub rfl (by assumption) ?_), by omega, xK1, _, _, rfl, rfl, pW1, by rw [s2]; exact pW2, hAs1⟩
        · rw [decide_eq_false d1] at hu
          rw [if_neg d1, List.append_nil] at s1
          have hn := fun base => run_rneeds (base := base) (k := k) (aT4.ext xK) hok
          by_cases d2 : valD (witR R k) 0 < valD R 0
          · rw [decide_eq_true d2] at hn
            rw [if_pos d2] at s2
            obtain ⟨v2, K2, eb, rW2, rW1, k2, eW2, one2, hAs2⟩ := app_two (base := h.length) (y := (k : Int)) oW2 oW1 hAs.symm (by omega) (by omega) (by omega)
            rw [← s2] at rW2
            have hsp := @Nat.succ_ne_zero; repeat' (first | simp (disch := first | exact dschN50 | fail) only [go_sem, ↓reduceIte, hsp, r34, r9, r10, q1, q2, q4, q5, q6, q7, q8, q11, q33, hlt, gTK, hu, hn, eb] | refine WP_drw ?_ | refine cnd_intro (fun hsp => ?_) fun hsp => ?_)
            exact ⟨by (repeat first | exact Agree.refl | assumption | refine Agree.put rfl ?_ | refine Agree.put0 ?_ | refine Agree.sub rfl (by assumption) ?_), by omega, eW2 G4 (Nat.le_refl _) xK, _, _, rfl, rfl, by rw [s1]; exact rW1, rW2, hAs2.symm⟩
          · rw [decide_eq_false d2] at hn
            rw [if_neg d2, List.append_nil] at s2
            have hsp := @Nat.succ_ne_zero; repeat' (first | simp (disch := first | exact dschN50 | fail) only [go_sem, ↓reduceIte, hsp, r34, r9, r10, q1, q2, q4, q5, q6, q7, q8, q11, q33, hlt, gTK, hu, hn] | refine WP_drw ?_ | refine cnd_intro (fun hsp => ?_) fun hsp => ?_)
            exact ⟨by (repeat first | exact Agree.refl | assumption | refine Agree.put rfl ?_ | refine Agree.put0 ?_ | refine Agree.sub rfl (by assumption) ?_), by omega, xK, _, _, rfl, rfl, by rw [s1]; exact oW1, by rw [s2]; exact oW2, hAs⟩
      · rintro fr Z hAg ⟨r34, xZ, w1, w2, r9, r10, oW1, oW2, hAs⟩
        have q1 := hAg 1 rfl
        have q2 := hAg 2 rfl
        have q4 := hAg 4 rfl
        have q5 := hAg 5 rfl
        have q6 := hAg 6 rfl
        have q7 := hAg 7 rfl
        have q8 := hAg 8 rfl
        have q11 := hAg 11 rfl
        have q33 := hAg 33 rfl
        try simp (disch := first | exact dschN50 | fail) only [go_sem, ↓reduceIte] at q1 q2 q4 q5 q6 q7 q8 q11 q33
        have hlt : ((R.W.length : Int) < (R.W.length : Int)) = False := eq_false (by omega)
        have ow1 := oW1.one
        have ow2 := oW2.one
        have gTZ := xZ.get gT4
        have gcZ := xZ.get gc4'
        have hnZ := (hW.ext (xh4.trans xZ)).len (P := prog) Fc.el23
        have eu : usdE R = usP R R.W.length := by unfold usdE; rw [if_neg (fun q => q c)]; rfl
        have ev : nedE R = nedN R R.W.length := by unfold nedE; rw [if_neg (fun q => q c)]; rfl
        have su : Small (usP R R.W.length) := filt_small (by omega)
        have sv : Small (nedN R R.W.length) := filt_small (by omega)
        have hd1 := own_ints oW1 su
        have hd2 := own_ints oW2 sv
        by_cases ct : 0 ≤ want ∧ want ≤ (R.W.length : Int) - 1
        · have t2 : (want ≥ 0) = True := eq_true ct.1
          have t3 : (want < (R.W.length : Int)) = True := eq_true (by omega)
          obtain ⟨k, ek⟩ := Int.eq_ofNat_of_zero_le ct.1
          have hrr := fun base => run_rraise (base := base) (k := k) (aT4.ext xZ) hok (by omega)
          rw [← ek] at hrr
          have er0 : rseE R want = match rseL R k with | none => (0, 6) | some p => (p, 0) := by
            unfold rseE; rw [if_neg (fun q => q c), if_neg (fun q => q ct), ek, Int.toNat_natCast]; cases rseL R k <;> rfl
          cases qr : rseL R k with
          | none =>
            rw [qr] at hrr er0
            have er : rseE R want = (0, 6) := er0
            have lZ := xZ.len
            have aO := aO4.ext xZ
            have gO := xZ.get gO4
            have gc := xZ.get gc4
            obtain ⟨_, Z1, c1, z1, u1, rfl, oU⟩ := run_Used (base := h.length) (h := Z) (by omega) aO (by omega)
            have m1 := z1.len
            have ou1 := oU.one
            obtain ⟨_, Z2, c2, z2, u2, rfl, oN⟩ := run_Needed (base := h.length) (h := Z1) (by omega) (aO.ext z1) (by omega)
            have ou2 := oN.one
            have z12 := z1.trans z2
            have c3 := fun base => run_Raise (base := base) (want := want) (aO.ext z12) (by omega)
            rw [eu] at oU
            rw [ev] at oN
            rw [er] at c3
            have jq1 := fun base => run_eqI (base := base) ((own_ints oU su).ext z2) (hd1.ext z12)
            have jq2 := fun base => run_eqI (base := base) (own_ints oN sv) (hd2.ext z12)
            rw [decide_eq_true rfl] at jq1 jq2
            have jq3 := fun base => run_same (base := base) (aO.ext z12) (hA.ext (xh4.trans (xZ.trans z12))) (by omega)
            have jq5 := fun base => run_awake (base := base) (h := Z2)
            have gO1 := z1.get gO
            have gO2 := z2.get gO1
            have gc2 := z12.get gc
            unfold ribB at gO gO1 gO2 gc2
            have hsp := @Nat.succ_ne_zero; repeat' (first | simp (disch := first | exact dschN50 | fail) only [go_sem, ↓reduceIte, hsp, r34, r9, r10, q1, q2, q4, q5, q6, q7, q8, q11, q33, hlt, t2, gcZ, hnZ, t3, gTZ, hrr, gO, c1, gO1, c2, gO2, c3, decide_true, jq1, jq2, jq3, jq5, gc2, c] | refine WP_drw ?_ | refine cnd_intro (fun hsp => ?_) fun hsp => ?_)
            exact fB rfl (xh4.trans (xZ.trans z12))
          | some p =>
            rw [qr] at hrr er0
            have er : rseE R want = (p, 0) := er0
            have lZ := xZ.len
            have aO := aO4.ext xZ
            have gO := xZ.get gO4
            have gc := xZ.get gc4
            obtain ⟨_, Z1, c1, z1, u1, rfl, oU⟩ := run_Used (base := h.length) (h := Z) (by omega) aO (by omega)
            have m1 := z1.len
            have ou1 := oU.one
            obtain ⟨_, Z2, c2, z2, u2, rfl, oN⟩ := run_Needed (base := h.length) (h := Z1) (by omega) (aO.ext z1) (by omega)
            have ou2 := oN.one
            have z12 := z1.trans z2
            have c3 := fun base => run_Raise (base := base) (want := want) (aO.ext z12) (by omega)
            rw [eu] at oU
            rw [ev] at oN
            rw [er] at c3
            have jq1 := fun base => run_eqI (base := base) ((own_ints oU su).ext z2) (hd1.ext z12)
            have jq2 := fun base => run_eqI (base := base) (own_ints oN sv) (hd2.ext z12)
            rw [decide_eq_true rfl] at jq1 jq2
            have jq3 := fun base => run_same (base := base) (aO.ext z12) (hA.ext (xh4.trans (xZ.trans z12))) (by omega)
            have jq5 := fun base => run_awake (base := base) (h := Z2)
            have gO1 := z1.get gO
            have gO2 := z2.get gO1
            have gc2 := z12.get gc
            unfold ribB at gO gO1 gO2 gc2
            have hsp := @Nat.succ_ne_zero; repeat' (first | simp (disch := first | exact dschN50 | fail) only [go_sem, ↓reduceIte, hsp, r34, r9, r10, q1, q2, q4, q5, q6, q7, q8, q11, q33, hlt, t2, gcZ, hnZ, t3, gTZ, hrr, gO, c1, gO1, c2, gO2, c3, decide_true, jq1, jq2, jq3, jq5, gc2, c] | refine WP_drw ?_ | refine cnd_intro (fun hsp => ?_) fun hsp => ?_)
            exact fB rfl (xh4.trans (xZ.trans z12))
        · have er : rseE R want = (0, 1) := by unfold rseE; rw [if_neg (fun q => q c), if_pos ct]
          by_cases cn : want ≥ 0
          · have t2 : (want ≥ 0) = True := eq_true cn
            have t3 : (want < (R.W.length : Int)) = False := eq_false (by omega)
            have lZ := xZ.len
            have aO := aO4.ext xZ
            have gO := xZ.get gO4
            have gc := xZ.get gc4
            obtain ⟨_, Z1, c1, z1, u1, rfl, oU⟩ := run_Used (base := h.length) (h := Z) (by omega) aO (by omega)
            have m1 := z1.len
            have ou1 := oU.one
            obtain ⟨_, Z2, c2, z2, u2, rfl, oN⟩ := run_Needed (base := h.length) (h := Z1) (by omega) (aO.ext z1) (by omega)
            have ou2 := oN.one
            have z12 := z1.trans z2
            have c3 := fun base => run_Raise (base := base) (want := want) (aO.ext z12) (by omega)
            rw [eu] at oU
            rw [ev] at oN
            rw [er] at c3
            have jq1 := fun base => run_eqI (base := base) ((own_ints oU su).ext z2) (hd1.ext z12)
            have jq2 := fun base => run_eqI (base := base) (own_ints oN sv) (hd2.ext z12)
            rw [decide_eq_true rfl] at jq1 jq2
            have jq3 := fun base => run_same (base := base) (aO.ext z12) (hA.ext (xh4.trans (xZ.trans z12))) (by omega)
            have jq5 := fun base => run_awake (base := base) (h := Z2)
            have gO1 := z1.get gO
            have gO2 := z2.get gO1
            have gc2 := z12.get gc
            unfold ribB at gO gO1 gO2 gc2
            have hsp := @Nat.succ_ne_zero; repeat' (first | simp (disch := first | exact dschN50 | fail) only [go_sem, ↓reduceIte, hsp, r34, r9, r10, q1, q2, q4, q5, q6, q7, q8, q11, q33, hlt, t2, gcZ, hnZ, t3, gO, c1, gO1, c2, gO2, c3, decide_true, jq1, jq2, jq3, jq5, gc2, c] | refine WP_drw ?_ | refine cnd_intro (fun hsp => ?_) fun hsp => ?_)
            exact fB rfl (xh4.trans (xZ.trans z12))
          · have t2 : (want ≥ 0) = False := eq_false cn
            have lZ := xZ.len
            have aO := aO4.ext xZ
            have gO := xZ.get gO4
            have gc := xZ.get gc4
            obtain ⟨_, Z1, c1, z1, u1, rfl, oU⟩ := run_Used (base := h.length) (h := Z) (by omega) aO (by omega)
            have m1 := z1.len
            have ou1 := oU.one
            obtain ⟨_, Z2, c2, z2, u2, rfl, oN⟩ := run_Needed (base := h.length) (h := Z1) (by omega) (aO.ext z1) (by omega)
            have ou2 := oN.one
            have z12 := z1.trans z2
            have c3 := fun base => run_Raise (base := base) (want := want) (aO.ext z12) (by omega)
            rw [eu] at oU
            rw [ev] at oN
            rw [er] at c3
            have jq1 := fun base => run_eqI (base := base) ((own_ints oU su).ext z2) (hd1.ext z12)
            have jq2 := fun base => run_eqI (base := base) (own_ints oN sv) (hd2.ext z12)
            rw [decide_eq_true rfl] at jq1 jq2
            have jq3 := fun base => run_same (base := base) (aO.ext z12) (hA.ext (xh4.trans (xZ.trans z12))) (by omega)
            have jq5 := fun base => run_awake (base := base) (h := Z2)
            have gO1 := z1.get gO
            have gO2 := z2.get gO1
            have gc2 := z12.get gc
            unfold ribB at gO gO1 gO2 gc2
            have hsp := @Nat.succ_ne_zero; repeat' (first | simp (disch := first | exact dschN50 | fail) only [go_sem, ↓reduceIte, hsp, r34, r9, r10, q1, q2, q4, q5, q6, q7, q8, q11, q33, hlt, t2, gO, c1, gO1, c2, gO2, c3, decide_true, jq1, jq2, jq3, jq5, gc2, c] | refine WP_drw ?_ | refine cnd_intro (fun hsp => ?_) fun hsp => ?_)
            exact fB rfl (xh4.trans (xZ.trans z12))
    · have tu : (chkR R = 0) = False := eq_false c
      obtain ⟨Z, eZ⟩ : ∃ Z, Z = G4 := ⟨_, rfl⟩
      have xZ : Ext G4 Z := by rw [eZ]; exact .refl
      rw [← eZ] at eG4 gT4 hck
      have eu : usdE R = [] := by unfold usdE; rw [if_pos c]
      have ev : nedE R = [] := by unfold nedE; rw [if_pos c]
      have su : Small ([] : List Int) := ⟨by simp, by simp⟩
      have sv : Small ([] : List Int) := ⟨by simp, by simp⟩
      have hd1 : Ints Z (.slice none 0 0) [] := ints_nil
      have hd2 : Ints Z (.slice none 0 0) [] := ints_nil
      have er : rseE R want = (0, chkR R) := by unfold rseE; rw [if_pos c]
      have lZ := xZ.len
      have aO := aO4.ext xZ
      have gO := xZ.get gO4
      have gc := xZ.get gc4
      obtain ⟨_, Z1, c1, z1, u1, rfl, oU⟩ := run_Used (base := h.length) (h := Z) (by omega) aO (by omega)
      have m1 := z1.len
      have ou1 := oU.one
      obtain ⟨_, Z2, c2, z2, u2, rfl, oN⟩ := run_Needed (base := h.length) (h := Z1) (by omega) (aO.ext z1) (by omega)
      have ou2 := oN.one
      have z12 := z1.trans z2
      have c3 := fun base => run_Raise (base := base) (want := want) (aO.ext z12) (by omega)
      rw [eu] at oU
      rw [ev] at oN
      rw [er] at c3
      have jq1 := fun base => run_eqI (base := base) ((own_ints oU su).ext z2) (hd1.ext z12)
      have jq2 := fun base => run_eqI (base := base) (own_ints oN sv) (hd2.ext z12)
      rw [decide_eq_true rfl] at jq1 jq2
      have jq3 := fun base => run_same (base := base) (aO.ext z12) (hA.ext (xh4.trans (xZ.trans z12))) (by omega)
      have jq5 := fun base => run_awake (base := base) (h := Z2)
      have gO1 := z1.get gO
      have gO2 := z2.get gO1
      have gc2 := z12.get gc
      unfold ribB at gO gO1 gO2 gc2
      have hsp := @Nat.succ_ne_zero; repeat' (first | simp (disch := first | exact dschN50 | fail) only [go_sem, ↓reduceIte, hsp, ← eG0, g0', hg, e1, g01, e2, ← eG4, gT4, hck, eq_self, tu, gO, c1, gO1, c2, gO2, c3, decide_true, jq1, jq2, jq3, jq5, gc2] | refine WP_drw ?_ | refine cnd_intro (fun hsp => ?_) fun hsp => ?_)
      exact fB rfl (xh4.trans (xZ.trans z12))
end Go.AM
