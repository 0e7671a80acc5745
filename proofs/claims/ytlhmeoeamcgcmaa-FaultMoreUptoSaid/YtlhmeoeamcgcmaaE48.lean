/-
  FaultMore, walked.
-/
import Derived.Test.YtlhmeoeamcgcmaaE44
import Derived.Test.YtlhmeoeamcgcmaaE39
set_option linter.unusedSimpArgs false
set_option linter.unusedVariables false
namespace Go.AM
open Go.Proofs.Try
theorem dschE48 {p : Prop} (h : p := by first | exact Nat.ne_of_beq_eq_false rfl | assumption | (apply asOne; (first | exact One.int | exact One.bool | assumption | exact Ints.one (by assumption) | exact Rows.one (by assumption) | exact Own.one (by assumption) | exact One.lit ⟨rfl, rfl, rfl⟩)) | (apply asInts; (repeat first | assumption | exact ints_nil | apply Ints.app); done) | (apply asRows; (repeat first | assumption | exact Rows.nil | apply Rows.app); done) | (apply asScal; (first | apply allS1 | apply allS2 | apply allS3 | apply allS4) <;> (first | exact One.int | exact One.bool | assumption | exact Ints.one (by assumption) | exact Rows.one (by assumption) | exact Own.one (by assumption) | exact One.lit ⟨rfl, rfl, rfl⟩)) | exact litT rfl | exact litF rfl | omega | (simp only [List.length_append, List.length_cons, List.length_nil, List.length_set, List.length_reverse]; first | done | omega) | fail) : p := h
attribute [-go_sem] put_ne put_same
attribute [local go_sem ↓] put_if

theorem cvtN {x : Int} (hx : 0 ≤ x ∧ x ≤ 255) : convA prog 3 5 (.int .u8 x) = some (.int .i64 x) := by
  have h : convA prog 3 5 (.int .u8 x) = some (.int .i64 (IntKind.i64.wrap x)) := by kernel_rfl
  rw [h, wrap64 (by omega) (by omega)]
theorem sl_toS {id ver o n k : Nat} {hi : Int} (h0 : 0 ≤ hi) (h1 : hi ≤ k) : sliceA prog 24 (.slice (some ⟨id, ver, o⟩) n k) none (some (.int .i64 hi)) none = some (.slice (some ⟨id, ver, o⟩) hi.toNat k) := by
  have e1 : hi ≤ (k : Int) := h1
  simp [sliceA, Fc.ar24, Fc.el24, optB, boundA, ARef.add, h0, e1]
theorem run_mo1 {base i1 : Nat} {h : Heap} {v : AVal} {l : List Int} {x : Int} (g1 : h[i1]? = some ⟨.cells [v] 32 false false, 0⟩) (hI : Ints h v l) :
    callL prog raw base (.fn 42 [] [.ptr (some ⟨i1, 0, 0⟩)]) [.int .i64 x] h = some (.bool (!decide (x ∈ l)), h) := by
  refine callL_run func42 rfl rfl ?_
  have hsp := @Nat.succ_ne_zero; repeat' (first | simp (disch := first | exact dschE48 | fail) only [go_sem, ↓reduceIte, hsp, g1, run_contains] | refine WP_drw ?_ | refine cnd_intro (fun hsp => ?_) fun hsp => ?_)
  exact fB rfl
set_option maxRecDepth 100000 in
set_option maxHeartbeats 4000000 in
theorem run_FaultMore {base : Nat} {h : Heap} {v0 : AVal} {s0 : List Int} {n1 n2 n3 : Int} (hB0 : Bytes h v0 s0) (q1 : 0 ≤ n1 ∧ n1 ≤ 255) (q2 : 0 ≤ n2 ∧ n2 ≤ 255) (q3 : 0 ≤ n3 ∧ n3 ≤ 255) :
    callL prog raw base (.fn 6 [] []) [v0, .int .u8 n1, .int .u8 n2, .int .u8 n3] h = some (.bool true, h) := by
  obtain ⟨H1, L, t, pv, sv, tv, e1, x1, M1, b1, b2, b3, b4⟩ := run_start (base := h.length) (T0 := 10) (P0 := 5) (S0 := 7) (Nat.le_refl _) hB0 (by omega) (by omega) (by omega)
  obtain ⟨k1, k2, k3, k4, k5, k6⟩ := chkM_ok M1.hc
  have hp1 := M1.hP.one
  have hs1 := M1.hS.one
  have ht1 := M1.hT.one
  have hl1 := x1.len
  have hw0 := run_wound (base := h.length) hB0
  have m1 : binA prog .rem 3 (.int .i64 n1) (.int .i64 L.R) = some (.int .i64 (n1.tmod L.R)) := bin_rem (by omega)
  have m2 : binA prog .rem 3 (.int .i64 n2) (.int .i64 L.T) = some (.int .i64 (n2.tmod L.T)) := bin_rem (by omega)
  have m3 : binA prog .rem 3 (.int .i64 n3) (.int .i64 L.T) = some (.int .i64 (n3.tmod L.T)) := bin_rem (by omega)
  have r1 : 0 ≤ n1.tmod L.R ∧ n1.tmod L.R ≤ L.R - 1 := by rw [Int.tmod_eq_emod_of_nonneg q1.1]; have := Int.emod_nonneg n1 (show L.R ≠ 0 by omega); have := Int.emod_lt_of_pos n1 (show 0 < L.R by omega); omega
  have r2 : 0 ≤ n2.tmod L.T ∧ n2.tmod L.T ≤ L.T - 1 := by rw [Int.tmod_eq_emod_of_nonneg q2.1]; have := Int.emod_nonneg n2 (show L.T ≠ 0 by omega); have := Int.emod_lt_of_pos n2 (show 0 < L.T by omega); omega
  have r3 : 0 ≤ n3.tmod L.T ∧ n3.tmod L.T ≤ L.T - 1 := by rw [Int.tmod_eq_emod_of_nonneg q3.1]; have := Int.emod_nonneg n3 (show L.T ≠ 0 by omega); have := Int.emod_lt_of_pos n3 (show 0 < L.T by omega); omega
  obtain ⟨rb, erb⟩ : ∃ rb, rb = n1.tmod L.R := ⟨_, rfl⟩
  obtain ⟨lo, elo⟩ : ∃ lo, lo = min (n2.tmod L.T) (n3.tmod L.T) := ⟨_, rfl⟩
  obtain ⟨hi, ehi⟩ : ∃ hi, hi = max (n2.tmod L.T) (n3.tmod L.T) := ⟨_, rfl⟩
  obtain ⟨bb, ebb⟩ : ∃ bb, bb = badB L t ⟨rb, lo, hi, false⟩ := ⟨_, rfl⟩
  have hs : sgtOk L.R L.T ⟨rb, lo, hi, bb⟩ := ⟨by simp only; omega, by simp only; omega, by simp only; omega, by simp only; omega⟩
  have hxs : XpA (moreL L ⟨rb, lo, hi, bb⟩) t := xpA_more.2 ⟨M1.xp, by
    rw [← badB_iff M1.xp.1.2]
    show badB L t ⟨rb, lo, hi, false⟩ = true ↔ bb = true
    rw [ebb]⟩
  have hls : L.ss.length < 10 := by omega
  have hc1 := chkM_more M1.hc hls hs
  have hc2 := chkM_more M1.hc hls (s := notS ⟨rb, lo, hi, bb⟩) hs
  have hsee1 := seeM_ok M1.hc hls hs
  have hsee2 := seeM_ok M1.hc hls (s := notS ⟨rb, lo, hi, bb⟩) hs
  obtain ⟨G0, eG0⟩ : ∃ G0, G0 = H1 ++ [lmB L.R L.T pv sv] ++ [⟨.cells [.int .i64 rb, .int .i64 lo, .int .i64 hi, .bool false] 39 false false, 0⟩] := ⟨_, rfl⟩
  obtain ⟨G1, eG1⟩ : ∃ G1, G1 = H1 ++ [lmB L.R L.T pv sv] ++ [⟨.cells [.int .i64 rb, .int .i64 lo, .int .i64 hi, .bool bb] 39 false false, 0⟩] := ⟨_, rfl⟩
  have xl0 : Ext H1 G0 := by rw [eG0]; exact .app (.app .refl)
  have xl1 : Ext H1 G1 := by rw [eG1]; exact .app (.app .refl)
  have xm1 : Ext (H1 ++ [lmB L.R L.T pv sv]) G1 := by rw [eG1]; exact .app .refl
  have gl0 : G0[H1.length]? = some (lmB L.R L.T pv sv) := by rw [eG0]; exact get_app (get_eq rfl)
  have gl1 : G1[H1.length]? = some (lmB L.R L.T pv sv) := by rw [eG1]; exact get_app (get_eq rfl)
  have gs1 : G1[H1.length + 1]? = some ⟨.cells [.int .i64 rb, .int .i64 lo, .int .i64 hi, .bool bb] 39 false false, 0⟩ := by rw [eG1]; exact get_eq (by simp)
  have rbd := fun base => run_bad (base := base) (M1.ext xl0).hP hs1 M1.hc (M1.ext xl0).hT M1.xp.1.2 (s := ⟨rb, lo, hi, false⟩) (by unfold sgOk; simp only; omega)
  rw [← ebb] at rbd
  simp only [encS] at rbd
  obtain ⟨w2, H2, e2, x2, R2, T2, pw, sw, rfl, o2, _⟩ := run_see (base := h.length) (s := ⟨rb, lo, hi, bb⟩) (x1.trans xl1).len (M1.ext xl1).lom M1.ok
  obtain ⟨rfl, rfl, oP2, oS2⟩ := o2 hsee1
  rw [hsee1] at e2
  have ow2 := oP2.one
  have os2 := oS2.one
  obtain ⟨G2, eG2⟩ : ∃ G2, G2 = H2 ++ [lmB L.R L.T pw sw] := ⟨_, rfl⟩
  have xG2 : Ext H2 G2 := by rw [eG2]; exact .app .refl
  have x12 := x2.trans xG2
  have gs2 := x12.get gs1
  have hl12 : G1.length ≤ H2.length := x2.len
  have hlG1 : G1.length = H1.length + 2 := by rw [eG1]; simp
  have gw2 : G2[H2.length]? = some (lmB L.R L.T pw sw) := by rw [eG2]; exact get_eq rfl
  obtain ⟨G3, eG3⟩ : ∃ G3, G3 = G2.set (H1.length + 1) ⟨.cells [.int .i64 rb, .int .i64 lo, .int .i64 hi, .bool (!bb)] 39 false false, 0⟩ := ⟨_, rfl⟩
  have xm3 : Ext (H1 ++ [lmB L.R L.T pv sv]) G3 := by rw [eG3]; exact (xm1.trans x12).set (by simp)
  have xl3 : Ext H1 G3 := (Ext.app .refl).trans xm3
  have gl3 := xm3.get (get_eq (A := H1) (b := lmB L.R L.T pv sv) rfl)
  have gl2 := x12.get gl1
  have gs3 : G3[H1.length + 1]? = some ⟨.cells [.int .i64 rb, .int .i64 lo, .int .i64 hi, .bool (!bb)] 39 false false, 0⟩ := by rw [eG3, List.getElem?_set_self (lt_of_get gs2)]
  have gw3 : G3[H2.length]? = some (lmB L.R L.T pw sw) := by rw [eG3, List.getElem?_set_ne (by omega)]; exact gw2
  have oP3 : OwnQ G1.length G3 pw L.ps := by rw [eG3]; exact (oP2.ext xG2).setBox gs2
  have oS3 : Own encS 39 G1.length G3 sw (L.ss ++ [⟨rb, lo, hi, bb⟩]) := by rw [eG3]; exact (oS2.ext xG2).setBox gs2
  have y3 := x1.trans xl3
  obtain ⟨w4, H4, e4, x4, R4, T4, pz, sz, rfl, o4, _⟩ := run_see (base := h.length) (s := notS ⟨rb, lo, hi, bb⟩) y3.len (M1.ext xl3).lom M1.ok
  obtain ⟨rfl, rfl, oP4, oS4⟩ := o4 hsee2
  rw [hsee2] at e4
  simp only [notS] at e4
  have ow4 := oP4.one
  have os4 := oS4.one
  obtain ⟨G5, eG5⟩ : ∃ G5, G5 = H4 ++ [lmB L.R L.T pz sz] := ⟨_, rfl⟩
  have xG5 : Ext H4 G5 := by rw [eG5]; exact .app .refl
  have x35 := x4.trans xG5
  have M5 := M1.ext (xl3.trans x35)
  have gl5 := x35.get gl3
  have gw5 := x35.get gw3
  have gz5 : G5[H4.length]? = some (lmB L.R L.T pz sz) := by rw [eG5]; exact get_eq rfl
  have oP5 := oP3.ext x35
  have oS5 := oS3.ext x35
  have ok1 := lomOk_of hc1
  have ok2 := lomOk_of hc2
  have LW : LomAt G5 (lomV L.R L.T pw sw) (moreL L ⟨rb, lo, hi, bb⟩) := ⟨pw, sw, rfl, oP5.parts (by show L.ps.length < _; omega) M1.ok.1, oS5.rows (by simp; omega)⟩
  have LZ : LomAt G5 (lomV L.R L.T pz sz) (moreL L (notS ⟨rb, lo, hi, bb⟩)) := ⟨pz, sz, rfl, (oP4.ext xG5).parts (by show L.ps.length < _; omega) M1.ok.1, (oS4.ext xG5).rows (by simp; omega)⟩
  have cn0 := fun base => run_count (base := base) M5.lom M1.ok
  have cn1 := fun base => run_count (base := base) LW ok1
  have cn2 := fun base => run_count (base := base) LZ ok2
  have nn0 := cnt_nn M1.hc
  have nn1 := cnt_nn hc1
  have nn2 := cnt_nn hc2
  have csum := cnt_more M1.hc hls hs
  have cpos := cnt_pos hc1 hxs
  rw [nn0.2] at cn0
  rw [nn1.2] at cn1
  rw [nn2.2] at cn2
  have gs0 : G0[H1.length + 1]? = some ⟨.cells [.int .i64 rb, .int .i64 lo, .int .i64 hi, .bool false] 39 false false, 0⟩ := by rw [eG0]; exact get_eq (by simp)
  have eG01 : G0.set (H1.length + 1) ⟨.cells [.int .i64 rb, .int .i64 lo, .int .i64 hi, .bool bb] 39 false false, 0⟩ = G1 := by rw [eG0, eG1]; exact set_eq (by simp)
  have bd : ∀ {X : Lom}, chkM X = 0 → LomOk X → (cntM X).1 < 2 ^ 62 := fun {X} hc ok => by
    have := (expM_bd (ms := (deskA X).2) (f := allF) (deskL_A hc ok)).1
    unfold cntM
    rw [if_neg (by simp [hc])]
    show ((expM X (deskA X).1 (deskA X).2 allF).1 : Int) < _
    omega
  have bd0 := bd M1.hc M1.ok
  have bd1 := bd hc1 ok1
  have bd2 := bd hc2 ok2
  clear bd
  have hb1 : G0.length = H1.length + 2 := by rw [eG0]; simp
  have yG1 := (x1.trans xl1).len
  have yH2 := ((x1.trans xl1).trans x2).len
  have yG3 := y3.len
  have yH4 := (y3.trans x4).len
  have y5 := y3.trans x35
  have tA : ((cntM (moreL L ⟨rb, lo, hi, bb⟩)).1 < 1) = False := eq_false (by omega)
  have tB : ((cntM (moreL L (notS ⟨rb, lo, hi, bb⟩))).1 < 0) = False := eq_false (by omega)
  have hlW : lenOpA prog G5 24 sw = some (.int .i64 ((L.ss.length : Int) + 1)) := by
    have := own_len oS5 Fc.el24 (by simp; omega)
    rw [this]; simp
  have hlS5 : lenOpA prog G5 24 sv = some (.int .i64 (L.ss.length : Int)) := M5.hS.len Fc.el24
  have hlP5 : lenOpA prog G5 23 pv = some (.int .i64 (L.ps.length : Int)) := M5.hP.len
  obtain ⟨sid, sver, esw⟩ : ∃ id ver, sw = .slice (some ⟨id, ver, 0⟩) (L.ss.length + 1) (L.ss.length + 1) := by
    rcases oS5 with ⟨_, q⟩ | ⟨id, ver, q, _⟩
    · simp at q
    · exact ⟨id, ver, by rw [q]; simp⟩
  have hsl : sliceA prog 24 sw none (some (.int .i64 (L.ss.length : Int))) none = some (.slice (some ⟨sid, sver, 0⟩) L.ss.length (L.ss.length + 1)) := by rw [esw]; exact sl_toS (by omega) (by omega)
  have hRt : Rows encS G5 (.slice (some ⟨sid, sver, 0⟩) L.ss.length (L.ss.length + 1)) L.ss := by
    have h0 := oS5.rows (by simp; omega)
    rw [esw] at h0
    have h1 := h0.take (i := L.ss.length) (by omega)
    rwa [List.take_left'] at h1
    rfl
  have hsame := fun base => run_same (base := base) (h := G5) (L := L) ⟨pw, .slice (some ⟨sid, sver, 0⟩) L.ss.length (L.ss.length + 1), rfl, oP5.parts (by omega) M1.ok.1, hRt⟩ M5.lom (by omega) (by omega)
  refine callL_run func6 rfl rfl ?_
  have hsp := @Nat.succ_ne_zero; repeat' (first | simp (disch := first | exact dschE48 | fail) only [go_sem, ↓reduceIte, hsp, hw0, e1, cvtN, m1, m2, m3, run_sgt', ← erb, ← elo, ← ehi, ← eG0, gl0, gs0, rbd, eG01, gl1, gs1, e2, ← eG2, gs2, ← eG3, gl3, gs3, e4, ← eG5, gl5, gw5, gz5, cn0, cn1, cn2, tA, tB, csum, hlW, hlS5, hlP5, hsl, hsame, eq_self, not_true, decide_false, Bool.not_true, Bool.false_eq_true] | refine WP_drw ?_ | refine cnd_intro (fun hsp => ?_) fun hsp => ?_)
  have wv1 := wvrM_mem M1.hc M1.xp
  have wv2 := wvrM_mem hc1 hxs
  refine WP_count [(8, 8), (24, 33), (164, 231)] 0 L.ps.length (Nat.zero_le _) (fun _ k fr h' => fr 164 = .int .i64 (k : Int) ∧ Ext G5 h') ?_ ?_ ?_
  · exact ⟨by (simp (disch := first | exact dschE48 | fail) only [go_sem, ↓reduceIte, Int.natCast_zero]; first | done | rfl), .refl⟩
  · rintro k fr K hk0 hk hA ⟨r164, xK⟩
    have p9 := hA 9 rfl
    have p14 := hA 14 rfl
    have p163 := hA 163 rfl
    try simp (disch := first | exact dschE48 | fail) only [go_sem, ↓reduceIte] at p9 p14 p163
    have hlt : ((k : Int) < (L.ps.length : Int)) = True := eq_true (by omega)
    have hkk : 0 ≤ (k : Int) ∧ (k : Int) < (L.ps.length : Int) := by omega
    have yK := y5.trans xK
    obtain ⟨w6, K1, f1, z1, u1, rfl, c1⟩ := run_can (base := h.length) (k := (k : Int)) yK.len (M5.ext xK).lom M1.ok
    obtain ⟨w7, K2, f2, z2, u2, rfl, c2⟩ := run_can (base := h.length) (k := (k : Int)) (yK.trans z1).len (LW.ext (xK.trans z1)) ok1
    obtain ⟨w8, K3, f3, z3, u3, rfl, c3⟩ := run_surely (base := h.length) (k := (k : Int)) ((yK.trans z1).trans z2).len (M5.ext ((xK.trans z1).trans z2)).lom M1.ok
    obtain ⟨w9, K4, f4, z4, u4, rfl, c4⟩ := run_surely (base := h.length) (k := (k : Int)) (((yK.trans z1).trans z2).trans z3).len (LW.ext (((xK.trans z1).trans z2).trans z3)) ok1
    have d1 := canM_mem M1.hc M1.xp hkk
    have d2 := canM_mem hc1 hxs (k := (k : Int)) hkk
    have d3 := sryM_mem M1.hc M1.xp hkk
    have d4 := sryM_mem hc1 hxs (k := (k : Int)) hkk
    rw [d1.1] at f1
    rw [d2.1] at f2
    rw [d3.1] at f3
    rw [d4.1] at f4
    have j1 := ((own_ints c1 (canM_small M1.hc M1.xp hkk)).ext z2).ext (z3.trans z4)
    have j2 := (own_ints c2 (canM_small hc1 hxs (k := (k : Int)) hkk)).ext (z3.trans z4)
    have j3 := (own_ints c3 (sryM_small M1.hc M1.xp hkk)).ext z4
    have j4 := own_ints c4 (sryM_small hc1 hxs (k := (k : Int)) hkk)
    have o1 := c1.one
    have o2' := c2.one
    have o3 := c3.one
    have o4' := c4.one
    have a0 := xK.get gl5
    have a1 := z1.get (xK.get gw5)
    have a2 := (z1.trans z2).get a0
    have a3 := (z2.trans z3).get a1
    have a4 := (z3.trans z4).get a2
    have b0 := xK.get gw5
    have b1' := z1.get a0
    have b2' := z2.get a1
    have b3' := z3.get a2
    have xK4 := ((xK.trans z1).trans z2).trans (z3.trans z4)
    have hK4 := (y5.trans xK4).len
    have hsp := @Nat.succ_ne_zero; repeat' (first | simp (disch := first | exact dschE48 | fail) only [go_sem, ↓reduceIte, hsp, r164, p9, p14, p163, hlt, a0, a1, a2, a3, a4, b0, b1', b2', b3', f1, f2, f3, f4, eq_self, not_true, decide_false, Bool.not_true, Bool.false_eq_true] | refine WP_drw ?_ | refine cnd_intro (fun hsp => ?_) fun hsp => ?_)
    refine WP_count [(8, 8), (33, 33), (207, 230)] 0 L.T.toNat (Nat.zero_le _) (fun H0 x fr h' => fr 207 = .int .i64 (x : Int) ∧ h' = H0) ?_ ?_ ?_
    · exact ⟨by (simp (disch := first | exact dschE48 | fail) only [go_sem, ↓reduceIte, Int.natCast_zero]; first | done | rfl), rfl⟩
    · rintro x fr2 K5 hx0 hx hA2 ⟨r207, eK⟩
      subst eK
      have q9 := hA2 9 rfl
      have q14 := hA2 14 rfl
      have q25 := hA2 25 rfl
      have q27 := hA2 27 rfl
      have q29 := hA2 29 rfl
      have q31 := hA2 31 rfl
      have q163 := hA2 163 rfl
      have q164 := hA2 164 rfl
      have q206 := hA2 206 rfl
      try simp (disch := first | exact dschE48 | fail) only [go_sem, ↓reduceIte, p9, p14, p163] at q9 q14 q25 q27 q29 q31 q163 q164 q206
      have hltx : ((x : Int) < L.T) = True := eq_true (by omega)
      by_cases g1 : (x : Int) ∈ (canM (moreL L ⟨rb, lo, hi, bb⟩) (k : Int)).1
      · have t1 := eq_true g1
        have t2 := eq_true (can_more M1.hc hc1 hxs hkk g1)
        by_cases g2 : (x : Int) ∈ (sryM L (k : Int)).1
        · have t3 := eq_true g2
          have t4 := eq_true (sry_more M1.hc hc1 hxs hkk g2)
          have hsp := @Nat.succ_ne_zero; repeat' (first | simp (disch := first | exact dschE48 | fail) only [go_sem, ↓reduceIte, hsp, r207, q9, q14, q25, q27, q29, q31, q163, q164, q206, p9, p14, p163, hltx, run_contains, t1, t2, t3, t4, decide_true, decide_false, eq_self, Bool.not_true, Bool.not_false, Bool.false_eq_true] | refine WP_drw ?_ | refine cnd_intro (fun hsp => ?_) fun hsp => ?_)
          exact ⟨by (repeat first | exact Agree.refl | assumption | refine Agree.put rfl ?_ | refine Agree.put0 ?_ | refine Agree.sub rfl (by assumption) ?_), by omega⟩
        · have t3 := eq_false g2
          have hsp := @Nat.succ_ne_zero; repeat' (first | simp (disch := first | exact dschE48 | fail) only [go_sem, ↓reduceIte, hsp, r207, q9, q14, q25, q27, q29, q31, q163, q164, q206, p9, p14, p163, hltx, run_contains, t1, t2, t3, decide_true, decide_false, eq_self, Bool.not_true, Bool.not_false, Bool.false_eq_true] | refine WP_drw ?_ | refine cnd_intro (fun hsp => ?_) fun hsp => ?_)
          exact ⟨by (repeat first | exact Agree.refl | assumption | refine Agree.put rfl ?_ | refine Agree.put0 ?_ | refine Agree.sub rfl (by assumption) ?_), by omega⟩
      · have t1 := eq_false g1
        by_cases g2 : (x : Int) ∈ (sryM L (k : Int)).1
        · have t3 := eq_true g2
          have t4 := eq_true (sry_more M1.hc hc1 hxs hkk g2)
          have hsp := @Nat.succ_ne_zero; repeat' (first | simp (disch := first | exact dschE48 | fail) only [go_sem, ↓reduceIte, hsp, r207, q9, q14, q25, q27, q29, q31, q163, q164, q206, p9, p14, p163, hltx, run_contains, t1, t3, t4, decide_true, decide_false, eq_self, Bool.not_true, Bool.not_false, Bool.false_eq_true] | refine WP_drw ?_ | refine cnd_intro (fun hsp => ?_) fun hsp => ?_)
          exact ⟨by (repeat first | exact Agree.refl | assumption | refine Agree.put rfl ?_ | refine Agree.put0 ?_ | refine Agree.sub rfl (by assumption) ?_), by omega⟩
        · have t3 := eq_false g2
          have hsp := @Nat.succ_ne_zero; repeat' (first | simp (disch := first | exact dschE48 | fail) only [go_sem, ↓reduceIte, hsp, r207, q9, q14, q25, q27, q29, q31, q163, q164, q206, p9, p14, p163, hltx, run_contains, t1, t3, decide_true, decide_false, eq_self, Bool.not_true, Bool.not_false, Bool.false_eq_true] | refine WP_drw ?_ | refine cnd_intro (fun hsp => ?_) fun hsp => ?_)
          exact ⟨by (repeat first | exact Agree.refl | assumption | refine Agree.put rfl ?_ | refine Agree.put0 ?_ | refine Agree.sub rfl (by assumption) ?_), by omega⟩
    · rintro fr2 K5 hA2 ⟨r207, eK⟩
      subst eK
      have q9 := hA2 9 rfl
      have q14 := hA2 14 rfl
      have q25 := hA2 25 rfl
      have q27 := hA2 27 rfl
      have q29 := hA2 29 rfl
      have q31 := hA2 31 rfl
      have q163 := hA2 163 rfl
      have q164 := hA2 164 rfl
      have q206 := hA2 206 rfl
      try simp (disch := first | exact dschE48 | fail) only [go_sem, ↓reduceIte, p9, p14, p163] at q9 q14 q25 q27 q29 q31 q163 q164 q206
      have hltx : (((L.T.toNat : Nat) : Int) < L.T) = False := eq_false (by omega)
      have hsp := @Nat.succ_ne_zero; repeat' (first | simp (disch := first | exact dschE48 | fail) only [go_sem, ↓reduceIte, hsp, r164, r207, q9, q14, q25, q27, q29, q31, q163, q164, q206, p9, p14, p163, hltx] | refine WP_drw ?_ | refine cnd_intro (fun hsp => ?_) fun hsp => ?_)
      exact ⟨by (repeat first | exact Agree.refl | assumption | refine Agree.put rfl ?_ | refine Agree.put0 ?_ | refine Agree.sub rfl (by assumption) ?_), by omega, xK4⟩
  · rintro fr K hA ⟨r164, xK⟩
    have p9 := hA 9 rfl
    have p14 := hA 14 rfl
    have p163 := hA 163 rfl
    try simp (disch := first | exact dschE48 | fail) only [go_sem, ↓reduceIte] at p9 p14 p163
    have hlt : ((L.ps.length : Int) < (L.ps.length : Int)) = False := eq_false (by omega)
    have yK := y5.trans xK
    obtain ⟨w6, K1, f1, z1, u1, rfl, c1⟩ := run_weavers (base := h.length) yK.len (M5.ext xK).lom M1.ok
    obtain ⟨w7, K2, f2, z2, u2, rfl, c2⟩ := run_weavers (base := h.length) (yK.trans z1).len (LW.ext (xK.trans z1)) ok1
    rw [wv1.1] at f1
    rw [wv2.1] at f2
    have a0 := xK.get gl5
    have a1 := z1.get (xK.get gw5)
    obtain ⟨K3, eK3⟩ : ∃ K3, K3 = K2 ++ [⟨.cells [u2] 32 false false, 0⟩] := ⟨_, rfl⟩
    have z3 : Ext K2 K3 := by rw [eK3]; exact .app .refl
    have j1 := ((own_ints c1 (wvrM_small M1.hc M1.xp)).ext z2).ext z3
    have j2 := (own_ints c2 (wvrM_small hc1 hxs)).ext z3
    have o1 := c1.one
    have o2' := c2.one
    have gu : K3[K2.length]? = some ⟨.cells [u2] 32 false false, 0⟩ := by rw [eK3]; exact get_eq rfl
    have hany := fun base => anyF_I (base := base) (h := K3) (g := .fn 42 [] [.ptr (some ⟨K2.length, 0, 0⟩)]) (fun x => !decide (x ∈ (wvrM (moreL L ⟨rb, lo, hi, bb⟩)).1)) j1 (fun base x hx => run_mo1 gu j2)
    have hnone : ((wvrM L).1.any fun x => !decide (x ∈ (wvrM (moreL L ⟨rb, lo, hi, bb⟩)).1)) = false := by
      rw [List.any_eq_false]
      intro x hx q
      rw [decide_eq_true (wvr_more M1.hc hc1 hxs hx)] at q
      cases q
    rw [hnone] at hany
    have yK3 := ((yK.trans z1).trans z2).trans z3
    have hK2 := ((yK.trans z1).trans z2).len
    have hsp := @Nat.succ_ne_zero; repeat' (first | simp (disch := first | exact dschE48 | fail) only [go_sem, ↓reduceIte, hsp, r164, p9, p14, p163, hlt, a0, a1, f1, f2, ← eK3, gu, hany, run_awake, eq_self, not_true, decide_false, Bool.not_false, Bool.not_true, Bool.false_eq_true] | refine WP_drw ?_ | refine cnd_intro (fun hsp => ?_) fun hsp => ?_)
    exact fB rfl yK3
end Go.AM
