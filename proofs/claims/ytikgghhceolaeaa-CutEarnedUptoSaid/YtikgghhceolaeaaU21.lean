/-
  The law's own word on values (holds).
-/
import Derived.Test.YtikgghhceolaeaaU20
set_option linter.unusedSimpArgs false
set_option linter.unusedVariables false
namespace Go.AM
open Go.Proofs.Try
theorem dschN54 {p : Prop} (h : p := by first | exact Nat.ne_of_beq_eq_false rfl | assumption | (apply asOne; (first | exact One.int | exact One.bool | assumption | exact Ints.one (by assumption) | exact Rows.one (by assumption) | exact Own.one (by assumption) | exact One.lit ⟨rfl, rfl, rfl⟩)) | (apply asInts; (repeat first | assumption | exact ints_nil | apply Ints.app); done) | (apply asRows; (repeat first | assumption | exact Rows.nil | apply Rows.app); done) | (apply asScal; (first | apply allS1 | apply allS2 | apply allS3 | apply allS4) <;> (first | exact One.int | exact One.bool | assumption | exact Ints.one (by assumption) | exact Rows.one (by assumption) | exact Own.one (by assumption) | exact One.lit ⟨rfl, rfl, rfl⟩)) | exact litT rfl | exact litF rfl | omega | (simp only [List.length_append, List.length_cons, List.length_nil, List.length_set, List.length_reverse]; first | done | omega) | fail) : p := h
attribute [-go_sem] put_ne put_same
attribute [local go_sem ↓] put_if
theorem tknR_in {R : Rib} {w : Wnt} {k x : Nat} {j : Bool} (hw : R.W[k]? = some w) (hx : x < R.L.toNat) (hk : k < R.W.length) : tknR R ⟨(k : Int), (x : Int), j⟩ = tknW R w x j := by
  unfold tknR
  simp only
  rw [if_pos ⟨by omega, by omega⟩, Int.toNat_natCast, hw, Int.toNat_natCast]
set_option maxRecDepth 100000 in
set_option maxHeartbeats 8000000 in
theorem run_lholds {base : Nat} {h : Heap} {v lv : AVal} {R : Rib} {l : List Int} {b : Bool} (hA : RibAt h v R) (hR : RibOk R) (hI : Ints h lv l) (hl : (l.length : Int) = R.L + 1) (hlb : ∀ y ∈ l, -10000 ≤ y ∧ y ≤ 10000) (hb : b = true ↔ Hld R l) :
    callL prog raw base (.fn 75 [] []) [v, lv] h = some (.bool b, h) := by
  have hAe := fun H (e : Ext h H) => hA.ext e
  obtain ⟨fv, wv, rfl, hF, hW⟩ := hA
  have o1 := hF.one
  have o2 := hW.one
  have ol := hI.one
  have hL := hR.L
  have hnW := hR.nW
  obtain ⟨n, en⟩ := Int.eq_ofNat_of_zero_le (show 0 ≤ R.L by omega)
  have en' : R.L.toNat = n := by omega
  have hvb := getD_b hlb (by omega)
  obtain ⟨G, eG⟩ : ∃ G, G = h ++ [ribB R.L fv wv] := ⟨_, rfl⟩
  have x0 : Ext h G := by rw [eG]; exact .app .refl
  have g0 : G[h.length]? = some (ribB R.L fv wv) := by rw [eG]; exact get_eq rfl
  have lG : G.length = h.length + 1 := by rw [eG]; simp
  have iG := hI.ext x0
  have hn := lenI iG
  have aL := adrI (i := R.L) (by omega) iG (by omega)
  have lL := loadI iG (i := R.L.toNat) (by omega)
  have t0 : ((l.length : Int) = R.L + 1) = True := eq_true hl
  unfold ribB at eG g0
  refine callL_run func75 rfl rfl ?_
  by_cases c0 : l.getD R.L.toNat 0 < 0
  · have t1 : (l.getD R.L.toNat 0 < 0) = True := eq_true c0
    have hbf : b = false := by
      cases b with
      | false => rfl
      | true => have := (hb.1 rfl).fin; omega
    rw [hbf]
    have hsp := @Nat.succ_ne_zero; repeat' (first | simp (disch := first | exact dschN54 | fail) only [go_sem, ↓reduceIte, hsp, ← eG, hn, g0, t0, aL, lL, t1] | refine WP_drw ?_ | refine cnd_intro (fun hsp => ?_) fun hsp => ?_)
    exact fB rfl x0
  · have t1 : (l.getD R.L.toNat 0 < 0) = False := eq_false c0
    have hsp := @Nat.succ_ne_zero; repeat' (first | simp (disch := first | exact dschN54 | fail) only [go_sem, ↓reduceIte, hsp, ← eG, hn, g0, t0, aL, lL, t1] | refine WP_drw ?_ | refine cnd_intro (fun hsp => ?_) fun hsp => ?_)
    refine WP_count [(4, 11), (28, 79)] 0 n (Nat.zero_le _) (fun _ x fr K => fr 28 = .int .i64 (x : Int) ∧ Ext G K ∧ ∀ y, y < x → l.getD (y + 1) 0 ≤ l.getD y 0 ∧ ∀ c ∈ cutL R y, c.2.2 + l.getD c.2.1.toNat 0 ≤ l.getD y 0) ?_ ?_ ?_
    · exact ⟨by (simp (disch := first | exact dschN54 | fail) only [go_sem, ↓reduceIte, Int.natCast_zero]; first | done | rfl), .refl, fun y hy => by omega⟩
    · rintro x fr K hx0 hx' hAg ⟨r28, xK, hpre⟩
      have q1 := hAg 1 rfl
      have q2 := hAg 2 rfl
      have q27 := hAg 27 rfl
      try simp (disch := first | exact dschN54 | fail) only [go_sem, ↓reduceIte] at q1 q2 q27
      have hlt : ((x : Int) < R.L) = True := eq_true (by omega)
      have hx : x < R.L.toNat := by omega
      have g0K := xK.get g0
      have xh := x0.trans xK
      have lK := xK.len
      have iK := hI.ext xh
      have a1 := adrI (i := (x : Int)) (by omega) iK (by omega)
      have a2 := adrI (i := (x : Int) + 1) (by omega) iK (by omega)
      rw [Int.toNat_natCast] at a1
      rw [show ((x : Int) + 1).toNat = x + 1 by omega] at a2
      have m1 := loadI iK (i := x) (by omega)
      have m2 := loadI iK (i := x + 1) (by omega)
      have bx := hvb x
      obtain ⟨vx, evx⟩ : ∃ vx, vx = l.getD x 0 := ⟨_, rfl⟩
      obtain ⟨vy, evy⟩ : ∃ vy, vy = l.getD (x + 1) 0 := ⟨_, rfl⟩
      rw [← evx] at m1 bx
      rw [← evy] at m2
      have hnK := (hW.ext xh).len (P := prog) Fc.el23
      by_cases c1 : vx < vy
      · have t2 : (vx < vy) = True := eq_true c1
        have hbf : b = false := by
          cases b with
          | false => rfl
          | true => have := (hb.1 rfl).up x hx; rw [← evx, ← evy] at this; omega
        rw [hbf]
        have hsp := @Nat.succ_ne_zero; repeat' (first | simp (disch := first | exact dschN54 | fail) only [go_sem, ↓reduceIte, hsp, r28, q1, q2, q27, hlt, a1, a2, m1, m2, t2] | refine WP_drw ?_ | refine cnd_intro (fun hsp => ?_) fun hsp => ?_)
        exact fB rfl xh
      · have t2 : (vx < vy) = False := eq_false c1
        have hsp := @Nat.succ_ne_zero; repeat' (first | simp (disch := first | exact dschN54 | fail) only [go_sem, ↓reduceIte, hsp, r28, q1, q2, q27, hlt, a1, a2, m1, m2, t2, g0K, hnK] | refine WP_drw ?_ | refine cnd_intro (fun hsp => ?_) fun hsp => ?_)
        refine WP_count [(4, 4), (6, 11), (44, 78)] 0 R.W.length (Nat.zero_le _) (fun _ k fr X => fr 44 = .int .i64 (k : Int) ∧ Ext G X ∧ ∀ c ∈ cutM R x (2 * k), c.2.2 + l.getD c.2.1.toNat 0 ≤ vx) ?_ ?_ ?_
        · exact ⟨by (simp (disch := first | exact dschN54 | fail) only [go_sem, ↓reduceIte, Int.natCast_zero]; first | done | rfl), xK, by simp [cutM]⟩
        · rintro k fr2 K2 hk0 hkl hA2 ⟨r44, xX, hm0⟩
          have d1 := hA2 1 rfl
          have d2 := hA2 2 rfl
          have d5 := hA2 5 rfl
          have d27 := hA2 27 rfl
          have d28 := hA2 28 rfl
          have d43 := hA2 43 rfl
          try simp (disch := first | exact dschN54 | fail) only [go_sem, ↓reduceIte, q1, q2, q27] at d1 d2 d5 d27 d28 d43
          have d28 := hA2 28 rfl
          simp (disch := first | exact dschN54 | fail) only [go_sem, ↓reduceIte, r28] at d28
          have hltk : ((k : Int) < (R.W.length : Int)) = True := eq_true (by omega)
          have hw : R.W[k]? = some R.W[k] := List.getElem?_eq_getElem hkl
          generalize R.W[k] = w at hw
          have hwo := hR.W w (List.mem_of_getElem? hw)
          obtain ⟨K3, eK3⟩ : ∃ K3, K3 = K2 ++ [tfB] := ⟨_, rfl⟩
          have y3 : Ext K2 K3 := by rw [eK3]; exact .app .refl
          have g3 : K3[K2.length]? = some tfB := by rw [eK3]; exact get_eq rfl
          have bt := fun lit => bsTF0 (lit := lit) (H := K2)
          rw [← eK3] at bt
          have hsp := @Nat.succ_ne_zero; repeat' (first | simp (disch := first | exact dschN54 | fail) only [go_sem, ↓reduceIte, hsp, r44, d1, d2, d5, d27, d28, d43, q1, q2, q27, hltk, bt] | refine WP_drw ?_ | refine cnd_intro (fun hsp => ?_) fun hsp => ?_)
          refine WP_count [(4, 4), (8, 11), (49, 77)] 0 2 (by omega) (fun _ q fr Y => fr 49 = .int .i64 (q : Int) ∧ Ext G Y ∧ Y[K2.length]? = some tfB ∧ ∀ c ∈ cutM R x (2 * k + q), c.2.2 + l.getD c.2.1.toNat 0 ≤ vx) ?_ ?_ ?_
          · exact ⟨by (simp (disch := first | exact dschN54 | fail) only [go_sem, ↓reduceIte, Int.natCast_zero]; first | done | rfl), xX.trans y3, g3, hm0⟩
          · rintro q fr3 Y hq0 hq hA3 ⟨r49, xY, gY, hm⟩
            have c1 := hA3 1 rfl
            have c2 := hA3 2 rfl
            have c5 := hA3 5 rfl
            have c6 := hA3 6 rfl
            have c27 := hA3 27 rfl
            have c28 := hA3 28 rfl
            have c43 := hA3 43 rfl
            have c44 := hA3 44 rfl
            have c47 := hA3 47 rfl
            have c48 := hA3 48 rfl
            try simp (disch := first | exact dschN54 | fail) only [go_sem, ↓reduceIte, d1, d2, d5, d27, d28, d43] at c1 c2 c5 c6 c27 c28 c43 c44 c47 c48
            have g0Y := xY.get g0
            rcases (show q = 0 ∨ q = 1 by omega) with rfl | rfl
            · have ecut : cutO R x (2 * k + 0) = (takL R w x false).map fun e => (⟨(k : Int), (x : Int), false⟩, e) := cutO_ev hw
              have hcs := cutM_succ (R := R) (x := x) (i := 2 * k + 0)
              have ht := fun base => run_taken (base := base) (c := ⟨(k : Int), (x : Int), false⟩) (hAe Y (x0.trans xY)) hR
              rw [show tknR R ⟨(k : Int), (x : Int), false⟩ = tknW R w x false from tknR_in hw hx hkl] at ht
              have hti := tknW_is (R := R) (w := w) (x := x) (j := false) hwo hx
              obtain ⟨r, er⟩ : ∃ r, r = tknW R w x false := ⟨_, rfl⟩
              rw [← er] at ht hti
              obtain ⟨e, p, ok⟩ := r
              simp only at ht hti
              have ldq : ∀ z, ldB (some (false, z)) (Y[K2.length]?) 0 0 = some (.bool false) := fun z => by rw [gY]; rfl
              have hltq : ((0 : Int) < 2) = True := eq_true (by omega)
              cases ok with
              | false =>
                rw [if_neg (by simp)] at hti
                rw [hti] at ecut
                rw [ecut] at hcs
                simp only [Option.map_none, Option.toList, List.append_nil] at hcs
                have hsp := @Nat.succ_ne_zero; repeat' (first | simp (disch := first | exact dschN54 | fail) only [go_sem, ↓reduceIte, hsp, r49, c1, c2, c5, c6, c27, c28, c43, c44, c47, c48, d1, d2, d5, d27, d28, d43, q1, q2, q27, hltq, ldq, g0Y, ht] | refine WP_drw ?_ | refine cnd_intro (fun hsp => ?_) fun hsp => ?_)
                exact ⟨by (repeat first | exact Agree.refl | assumption | refine Agree.put rfl ?_ | refine Agree.put0 ?_ | refine Agree.sub rfl (by assumption) ?_), xY, gY, by rw [show 2 * k + (0 + 1) = 2 * k + 0 + 1 by omega, hcs]; exact hm⟩
              | true =>
                rw [if_pos rfl] at hti
                have htb := takL_b hR hwo hx hti
                rw [hti] at ecut
                obtain ⟨en, een⟩ := Int.eq_ofNat_of_zero_le (show 0 ≤ e by omega)
                have hmem : (⟨(k : Int), (x : Int), false⟩, (e, p)) ∈ cutL R x := List.mem_of_getElem? (cutL_at (by omega) ecut)
                rw [ecut] at hcs
                simp only [Option.map_some, Option.toList] at hcs
                have iY := hI.ext (x0.trans xY)
                have b1 := adrI (i := (x : Int)) (by omega) iY (by omega)
                rw [Int.toNat_natCast] at b1
                have f1 := loadI iY (i := x) (by omega)
                have b3 := adrI (i := e) (by omega) iY (by omega)
                have f3 := loadI iY (i := e.toNat) (by omega)
                have be := hvb e.toNat
                obtain ⟨ve, eve⟩ : ∃ ve, ve = l.getD e.toNat 0 := ⟨_, rfl⟩
                rw [← eve] at f3 be
                rw [← evx] at f1
                by_cases cc2 : vx < p + ve
                · have t2 : (vx < p + ve) = True := eq_true cc2
                  have hbf : b = false := by
                    cases b with
                    | false => rfl
                    | true => have := (hb.1 rfl).cut x hx _ hmem; simp only at this; rw [← evx, ← eve] at this; omega
                  rw [hbf]
                  have hsp := @Nat.succ_ne_zero; repeat' (first | simp (disch := first | exact dschN54 | fail) only [go_sem, ↓reduceIte, hsp, r49, c1, c2, c5, c6, c27, c28, c43, c44, c47, c48, d1, d2, d5, d27, d28, d43, q1, q2, q27, hltq, ldq, g0Y, ht, b1, f1, b3, f3, t2] | refine WP_drw ?_ | refine cnd_intro (fun hsp => ?_) fun hsp => ?_)
                  exact fB rfl (x0.trans xY)
                · have t2 : (vx < p + ve) = False := eq_false cc2
                  have hsp := @Nat.succ_ne_zero; repeat' (first | simp (disch := first | exact dschN54 | fail) only [go_sem, ↓reduceIte, hsp, r49, c1, c2, c5, c6, c27, c28, c43, c44, c47, c48, d1, d2, d5, d27, d28, d43, q1, q2, q27, hltq, ldq, g0Y, ht, b1, f1, b3, f3, t2] | refine WP_drw ?_ | refine cnd_intro (fun hsp => ?_) fun hsp => ?_)
                  refine ⟨by (repeat first | exact Agree.refl | assumption | refine Agree.put rfl ?_ | refine Agree.put0 ?_ | refine Agree.sub rfl (by assumption) ?_), xY, gY, fun z hz => ?_⟩
                  rw [show 2 * k + (0 + 1) = 2 * k + 0 + 1 by omega, hcs] at hz
                  rcases List.mem_append.1 hz with q | q
                  · exact hm z q
                  · rw [List.mem_singleton.1 q]; simp only; rw [← eve]; omega
            · have ecut : cutO R x (2 * k + 1) = (takL R w x true).map fun e => (⟨(k : Int), (x : Int), true⟩, e) := cutO_od hw
              have hcs := cutM_succ (R := R) (x := x) (i := 2 * k + 1)
              have ht := fun base => run_taken (base := base) (c := ⟨(k : Int), (x : Int), true⟩) (hAe Y (x0.trans xY)) hR
              rw [show tknR R ⟨(k : Int), (x : Int), true⟩ = tknW R w x true from tknR_in hw hx hkl] at ht
              have hti := tknW_is (R := R) (w := w) (x := x) (j := true) hwo hx
              obtain ⟨r, er⟩ : ∃ r, r = tknW R w x true := ⟨_, rfl⟩
              rw [← er] at ht hti
              obtain ⟨e, p, ok⟩ := r
              simp only at ht hti
              have ldq : ∀ z, ldB (some (false, z)) (Y[K2.length]?) 0 1 = some (.bool true) := fun z => by rw [gY]; rfl
              have hltq : ((1 : Int) < 2) = True := eq_true (by omega)
              cases ok with
              | false =>
                rw [if_neg (by simp)] at hti
                rw [hti] at ecut
                rw [ecut] at hcs
                simp only [Option.map_none, Option.toList, List.append_nil] at hcs
                have hsp := @Nat.succ_ne_zero; repeat' (first | simp (disch := first | exact dschN54 | fail) only [go_sem, ↓reduceIte, hsp, r49, c1, c2, c5, c6, c27, c28, c43, c44, c47, c48, d1, d2, d5, d27, d28, d43, q1, q2, q27, hltq, ldq, g0Y, ht] | refine WP_drw ?_ | refine cnd_intro (fun hsp => ?_) fun hsp => ?_)
                exact ⟨by (repeat first | exact Agree.refl | assumption | refine Agree.put rfl ?_ | refine Agree.put0 ?_ | refine Agree.sub rfl (by assumption) ?_), xY, gY, by rw [show 2 * k + (1 + 1) = 2 * k + 1 + 1 by omega, hcs]; exact hm⟩
              | true =>
                rw [if_pos rfl] at hti
                have htb := takL_b hR hwo hx hti
                rw [hti] at ecut
                obtain ⟨en, een⟩ := Int.eq_ofNat_of_zero_le (show 0 ≤ e by omega)
                have hmem : (⟨(k : Int), (x : Int), true⟩, (e, p)) ∈ cutL R x := List.mem_of_getElem? (cutL_at (by omega) ecut)
                rw [ecut] at hcs
                simp only [Option.map_some, Option.toList] at hcs
                have iY := hI.ext (x0.trans xY)
                have b1 := adrI (i := (x : Int)) (by omega) iY (by omega)
                rw [Int.toNat_natCast] at b1
                have f1 := loadI iY (i := x) (by omega)
                have b3 := adrI (i := e) (by omega) iY (by omega)
                have f3 := loadI iY (i := e.toNat) (by omega)
                have be := hvb e.toNat
                obtain ⟨ve, eve⟩ : ∃ ve, ve = l.getD e.toNat 0 := ⟨_, rfl⟩
                rw [← eve] at f3 be
                rw [← evx] at f1
                by_cases cc2 : vx < p + ve
                · have t2 : (vx < p + ve) = True := eq_true cc2
                  have hbf : b = false := by
                    cases b with
                    | false => rfl
                    | true => have := (hb.1 rfl).cut x hx _ hmem; simp only at this; rw [← evx, ← eve] at this; omega
                  rw [hbf]
                  have hsp := @Nat.succ_ne_zero; repeat' (first | simp (disch := first | exact dschN54 | fail) only [go_sem, ↓reduceIte, hsp, r49, c1, c2, c5, c6, c27, c28, c43, c44, c47, c48, d1, d2, d5, d27, d28, d43, q1, q2, q27, hltq, ldq, g0Y, ht, b1, f1, b3, f3, t2] | refine WP_drw ?_ | refine cnd_intro (fun hsp => ?_) fun hsp => ?_)
                  exact fB rfl (x0.trans xY)
                · have t2 : (vx < p + ve) = False := eq_false cc2
                  have hsp := @Nat.succ_ne_zero; repeat' (first | simp (disch := first | exact dschN54 | fail) only [go_sem, ↓reduceIte, hsp, r49, c1, c2, c5, c6, c27, c28, c43, c44, c47, c48, d1, d2, d5, d27, d28, d43, q1, q2, q27, hltq, ldq, g0Y, ht, b1, f1, b3, f3, t2] | refine WP_drw ?_ | refine cnd_intro (fun hsp => ?_) fun hsp => ?_)
                  refine ⟨by (repeat first | exact Agree.refl | assumption | refine Agree.put rfl ?_ | refine Agree.put0 ?_ | refine Agree.sub rfl (by assumption) ?_), xY, gY, fun z hz => ?_⟩
                  rw [show 2 * k + (1 + 1) = 2 * k + 1 + 1 by omega, hcs] at hz
                  rcases List.mem_append.1 hz with q | q
                  · exact hm z q
                  · rw [List.mem_singleton.1 q]; simp only; rw [← eve]; omega
          · rintro fr3 Y hA3 ⟨r49, xY, gY, hm⟩
            have c1 := hA3 1 rfl
            have c2 := hA3 2 rfl
            have c5 := hA3 5 rfl
            have c6 := hA3 6 rfl
            have c27 := hA3 27 rfl
            have c28 := hA3 28 rfl
            have c43 := hA3 43 rfl
            have c44 := hA3 44 rfl
            have c47 := hA3 47 rfl
            have c48 := hA3 48 rfl
            try simp (disch := first | exact dschN54 | fail) only [go_sem, ↓reduceIte, d1, d2, d5, d27, d28, d43] at c1 c2 c5 c6 c27 c28 c43 c44 c47 c48
            have hltq : ((2 : Int) < 2) = False := eq_false (by omega)
            have c44 := hA3 44 rfl
            have c28 := hA3 28 rfl
            simp (disch := first | exact dschN54 | fail) only [go_sem, ↓reduceIte, r44] at c44
            simp (disch := first | exact dschN54 | fail) only [go_sem, ↓reduceIte, d28] at c28
            have hsp := @Nat.succ_ne_zero; repeat' (first | simp (disch := first | exact dschN54 | fail) only [go_sem, ↓reduceIte, hsp, r49, c44, c28, c1, c2, c5, c6, c27, c28, c43, c44, c47, c48, d1, d2, d5, d27, d28, d43, q1, q2, q27, hltq] | refine WP_drw ?_ | refine cnd_intro (fun hsp => ?_) fun hsp => ?_)
            exact ⟨by (repeat first | exact Agree.refl | assumption | refine Agree.put rfl ?_ | refine Agree.put0 ?_ | refine Agree.sub rfl (by assumption) ?_), by omega, xY, by rw [show 2 * (k + 1) = 2 * k + 2 by omega]; exact hm⟩
        · rintro fr2 X hA2 ⟨r44, xX, hm0⟩
          have d1 := hA2 1 rfl
          have d2 := hA2 2 rfl
          have d5 := hA2 5 rfl
          have d27 := hA2 27 rfl
          have d28 := hA2 28 rfl
          have d43 := hA2 43 rfl
          try simp (disch := first | exact dschN54 | fail) only [go_sem, ↓reduceIte, q1, q2, q27] at d1 d2 d5 d27 d28 d43
          have hltk : ((R.W.length : Int) < (R.W.length : Int)) = False := eq_false (by omega)
          have d28 := hA2 28 rfl
          simp (disch := first | exact dschN54 | fail) only [go_sem, ↓reduceIte, r28] at d28
          have hsp := @Nat.succ_ne_zero; repeat' (first | simp (disch := first | exact dschN54 | fail) only [go_sem, ↓reduceIte, hsp, r44, d28, d1, d2, d5, d27, d28, d43, q1, q2, q27, hltk] | refine WP_drw ?_ | refine cnd_intro (fun hsp => ?_) fun hsp => ?_)
          refine ⟨by (repeat first | exact Agree.refl | assumption | refine Agree.put rfl ?_ | refine Agree.put0 ?_ | refine Agree.sub rfl (by assumption) ?_), by omega, xX, fun y hy => ?_⟩
          by_cases e : y = x
          · subst e
            exact ⟨by rw [← evx, ← evy]; omega, fun c hc => by rw [← evx]; exact hm0 c hc⟩
          · exact hpre y (by omega)
    · rintro fr K hAg ⟨r28, xK, hpre⟩
      have q1 := hAg 1 rfl
      have q2 := hAg 2 rfl
      have q27 := hAg 27 rfl
      try simp (disch := first | exact dschN54 | fail) only [go_sem, ↓reduceIte] at q1 q2 q27
      have hlt : ((n : Int) < R.L) = False := eq_false (by omega)
      have hbt : b = true := hb.2 ⟨fun y hy => (hpre y (by omega)).1, fun y hy => (hpre y (by omega)).2, by omega⟩
      rw [hbt]
      have hsp := @Nat.succ_ne_zero; repeat' (first | simp (disch := first | exact dschN54 | fail) only [go_sem, ↓reduceIte, hsp, r28, q1, q2, q27, hlt] | refine WP_drw ?_ | refine cnd_intro (fun hsp => ?_) fun hsp => ?_)
      exact fB rfl (x0.trans xK)
end Go.AM
/-
  A plan that is tried (tried).
-/
namespace Go.AM
open Go.Proofs.Try
theorem dschN55 {p : Prop} (h : p := by first | exact Nat.ne_of_beq_eq_false rfl | assumption | (apply asOne; (first | exact One.int | exact One.bool | assumption | exact Ints.one (by assumption) | exact Rows.one (by assumption) | exact Own.one (by assumption) | exact One.lit ⟨rfl, rfl, rfl⟩)) | (apply asSp; (repeat first | assumption | apply SpAt.set | (refine SpAt.new ?_ (by (first | rfl | (simp only [List.length_append, List.length_cons, List.length_nil, List.length_set]; done) | (simp only [List.length_append, List.length_cons, List.length_nil, List.length_set]; omega)))) | apply SpAt.app | apply Bytes.app); done) | (apply asBytes; (repeat first | assumption | apply Bytes.app); done) | (apply asInts; (repeat first | assumption | exact ints_nil | apply Ints.app); done) | (apply asRows; (repeat first | assumption | exact Rows.nil | apply Rows.app); done) | (apply asScal; (first | apply allS1 | apply allS2 | apply allS3 | apply allS4) <;> (first | exact One.int | exact One.bool | assumption | exact Ints.one (by assumption) | exact Rows.one (by assumption) | exact Own.one (by assumption) | exact One.lit ⟨rfl, rfl, rfl⟩)) | exact litT rfl | exact litF rfl | omega | (simp only [List.length_append, List.length_cons, List.length_nil, List.length_set, List.length_reverse]; first | done | omega) | fail) : p := h
attribute [-go_sem] put_ne put_same
attribute [local go_sem ↓] put_if
theorem snocC {b base : Nat} {A : Heap} {w : AVal} {l : List Ct} {r : Ct} (hO : Own encC 58 b A w l) (hb : base ≤ b) (hbh : b ≤ A.length) (hl : l.length ≤ 1000000) :
    ∃ w' H, appendA prog base (A ++ [rowE encC 58 [r] 0]) 43 w (.slice (some ⟨A.length, 0, 0⟩) 1 1) = some (w', H) ∧ Own encC 58 b H w' (l ++ [r]) ∧ A.length ≤ H.length ∧ (∀ G, G.length ≤ b → Ext G A → Ext G H) ∧ One w' ∧ KeepO encC 58 A H := by
  obtain ⟨B, eB⟩ : ∃ B, B = A ++ [rowE encC 58 [r] 0] := ⟨_, rfl⟩
  have xB : Ext A B := by rw [eB]; exact .app .refl
  have lB' : B.length = A.length + 1 := by rw [eB]; simp
  have hx : Rows encC B (.slice (some ⟨A.length, 0, 0⟩) 1 1) [r] := Rows.own (by rw [eB]; exact get_eq rfl) rfl (by simp)
  rw [← eB]
  obtain ⟨w', H, a1, a2, a3, a4, a5, a6⟩ := (hO.ext xB).appendRX (P := prog) (base := base) (t := 43) hx Fc.el43 encC_sc hb (by omega) (by simp) (by simp; omega)
  have a6 : KeepO encC 58 B H := a6
  exact ⟨w', H, a1, a2, by omega, fun G h1 h2 => a4 G h1 (h2.trans xB), a5, fun i y hi hy => a6 i y (xB.get hi) hy⟩
set_option maxRecDepth 100000 in
set_option maxHeartbeats 8000000 in
theorem run_tried {base id k0 : Nat} {h : Heap} {v rv : AVal} {silk : List Int} {R : Rib} (hb : base ≤ h.length) (hS : SpAt h id v silk k0) (hk : k0 ≤ 100000) (hR : RibOk R) (hA : ∀ k' H, SpE h id v silk k' H → RibAt H rv R) :
    Ret prog raw base (.fn 49 [] []) [.ptr (some ⟨id, 0, 0⟩), rv] h (fun w H => ∃ p k' s, (k0 ≤ k' ∧ k' ≤ k0 + 200) ∧ SpE h id v silk k' H ∧ Own encC 58 h.length H w p ∧ p.length ≤ 60 ∧ plnL R p 0 0 = (s, 0)) := by
  have hid := lt_of_get hS.1
  obtain ⟨fv, wv, rfl, hF, hW⟩ := hA k0 h (SpE.refl hS)
  have o1 := hF.one
  have o2 := hW.one
  have hL := hR.L
  have hnW := hR.nW
  obtain ⟨n, en⟩ := Int.eq_ofNat_of_zero_le (show 0 ≤ R.L by omega)
  obtain ⟨G, eG⟩ : ∃ G, G = h ++ [ribB R.L fv wv] := ⟨_, rfl⟩
  have g0 : G[h.length]? = some (ribB R.L fv wv) := by rw [eG]; exact get_eq rfl
  have lG : G.length = h.length + 1 := by rw [eG]; simp
  have q0 : SpE h id v silk k0 G := by rw [eG]; exact (SpE.refl hS).app
  unfold ribB at eG
  refine ret_raw func49 rfl (by kernel_rfl) ?_
  have hsp := @Nat.succ_ne_zero; repeat' (first | simp (disch := first | exact dschN55 | fail) only [go_sem, ↓reduceIte, hsp, ← eG] | refine WP_drw ?_ | refine cnd_intro (fun hsp => ?_) fun hsp => ?_)
  refine WP_iter [(5, 44)] (fun _ (a : Nat) fr K => fr 6 = .int .i64 (a : Int) ∧ a ≤ n ∧ ∃ p w k' s e, fr 5 = w ∧ (k0 ≤ k' ∧ k' ≤ k0 + 3 * a) ∧ SpE h id v silk k' K ∧ K[h.length]? = some (ribB R.L fv wv) ∧ Own encC 58 (h.length + 1) K w p ∧ p.length ≤ a ∧ e ≤ (a : Int) ∧ (∀ q, plnL R (p ++ q) 0 0 = plnL R q e s) ∧ h.length + 1 ≤ K.length) (fun a => n - a) 0 ?_ ?_
  · exact ⟨by (simp (disch := first | exact dschN55 | fail) only [go_sem, ↓reduceIte, Int.natCast_zero]; first | done | rfl), by omega, [], .slice none 0 0, k0, 0, 0, by (simp (disch := first | exact dschN55 | fail) only [go_sem, ↓reduceIte, Int.natCast_zero]; first | done | rfl), by omega, q0, g0, Own.nil, by simp, by omega, fun q => rfl, by omega⟩
  · rintro a fr K hAg ⟨r6, han, p, w, k', s, e, r5, hk', xK, gK, oW, hpl, hea, hq, lK⟩
    have q0 := hAg 0 rfl
    have q3 := hAg 3 rfl
    have q4 := hAg 4 rfl
    try simp (disch := first | exact dschN55 | fail) only [go_sem, ↓reduceIte] at q0 q3 q4
    have ow := oW.one
    by_cases c1 : a < n
    · have t1 : ((a : Int) < R.L) = True := eq_true (by omega)
      have aK := hA k' K xK
      obtain ⟨fv', wv', eqv, hF', hW'⟩ := aK
      simp only [AVal.agg.injEq, List.cons.injEq, and_true, true_and] at eqv
      obtain ⟨rfl, rfl⟩ := eqv
      have hn := hW'.len (P := prog) Fc.el23
      have e1 := fun base => run_upto (base := base) (n := (R.W.length : Int) - 1) (xK.at hS) (by omega) (by omega)
      obtain ⟨u, eu⟩ : ∃ u, u = up silk k' ((R.W.length : Int) - 1) := ⟨_, rfl⟩
      rw [← eu] at e1
      obtain ⟨K1, eK1⟩ : ∃ K1, K1 = K.set id (spB v silk (k' + 1)) := ⟨_, rfl⟩
      rw [← eK1] at e1
      have x1 : SpE h id v silk (k' + 1) K1 := by rw [eK1]; exact xK.step hid
      have g1 : K1[h.length]? = some (ribB R.L fv wv) := by rw [eK1, List.getElem?_set_ne (by omega)]; exact gK
      have w1 : Own encC 58 (h.length + 1) K1 w p := by rw [eK1]; exact oW.set (by omega)
      have l1 : K1.length = K.length := by rw [eK1, List.length_set]
      have e2 := fun base => run_once (base := base) (n := 2) (x1.at hS) (by omega) (by omega)
      obtain ⟨j, ej⟩ : ∃ j, j = decide (up silk (k' + 1) (2 - 1) = 0) := ⟨_, rfl⟩
      rw [← ej] at e2
      obtain ⟨K2, eK2⟩ : ∃ K2, K2 = K1.set id (spB v silk (k' + 1 + 1)) := ⟨_, rfl⟩
      rw [← eK2] at e2
      have x2 : SpE h id v silk (k' + 1 + 1) K2 := by rw [eK2]; exact x1.step hid
      have g2 : K2[h.length]? = some (ribB R.L fv wv) := by rw [eK2, List.getElem?_set_ne (by omega)]; exact g1
      have w2 : Own encC 58 (h.length + 1) K2 w p := by rw [eK2]; exact w1.set (by omega)
      have l2 : K2.length = K1.length := by rw [eK2, List.length_set]
      obtain ⟨K3, eK3⟩ : ∃ K3, K3 = K2 ++ [cutB ⟨u, (a : Int), j⟩] := ⟨_, rfl⟩
      have x3 : SpE h id v silk (k' + 1 + 1) K3 := by rw [eK3]; exact x2.app
      have g3 : K3[h.length]? = some (ribB R.L fv wv) := by rw [eK3]; exact get_app g2
      have gc3 : K3[K2.length]? = some (cutB ⟨u, (a : Int), j⟩) := by rw [eK3]; exact get_eq rfl
      have w3 : Own encC 58 (h.length + 1) K3 w p := by rw [eK3]; exact w2.app
      have l3 : K3.length = K2.length + 1 := by rw [eK3]; simp
      have ht := fun base => run_taken (base := base) (c := ⟨u, (a : Int), j⟩) (hA _ K3 x3) hR
      obtain ⟨s1, -⟩ := pln_step hR (c := ⟨u, (a : Int), j⟩) (l := []) (a := e) (s := s)
      have s1' := fun q => (pln_step hR (c := ⟨u, (a : Int), j⟩) (l := q) (a := e) (s := s)).1
      obtain ⟨r, er⟩ : ∃ r, r = tknR R ⟨u, (a : Int), j⟩ := ⟨_, rfl⟩
      rw [← er] at ht s1
      simp only [← er] at s1'
      obtain ⟨e', p', ok⟩ := r
      simp only at ht s1 s1'
      have gK' := gK
      have g3' := g3
      unfold ribB at gK' g3'
      unfold cutB at eK3 gc3
      cases ok with
      | false =>
        have hsp := @Nat.succ_ne_zero; repeat' (first | simp (disch := first | exact dschN55 | fail) only [go_sem, ↓reduceIte, hsp, r6, r5, q0, q3, q4, gK', t1, hn, e1, e2, ← eK3, g3', gc3, ht, Bool.not_false] | refine WP_drw ?_ | refine cnd_intro (fun hsp => ?_) fun hsp => ?_)
        exact ⟨by (repeat first | exact Agree.refl | assumption | refine Agree.put rfl ?_ | refine Agree.put0 ?_ | refine Agree.sub rfl (by assumption) ?_), a + 1, ⟨by simp, by omega, p, w, k' + 1 + 1, s, e, rfl, by omega, x3, w3, by omega, by omega, hq, by omega⟩, by omega⟩
      | true =>
        obtain ⟨-, z2, z3, z4, z5⟩ := s1 rfl (by omega)
        have e4 := fun base => run_once (base := base) (n := 4) (x3.at hS) (by omega) (by omega)
        obtain ⟨K4, eK4⟩ : ∃ K4, K4 = K3.set id (spB v silk (k' + 1 + 1 + 1)) := ⟨_, rfl⟩
        rw [← eK4] at e4
        have x4 : SpE h id v silk (k' + 1 + 1 + 1) K4 := by rw [eK4]; exact x3.step hid
        have g4 : K4[h.length]? = some (ribB R.L fv wv) := by rw [eK4, List.getElem?_set_ne (by omega)]; exact g3
        have gc4 : K4[K2.length]? = some ⟨.cells [.int .i64 u, .int .i64 (a : Int), .bool j] 58 false false, 0⟩ := by rw [eK4, List.getElem?_set_ne (by omega)]; exact gc3
        have w4 : Own encC 58 (h.length + 1) K4 w p := by rw [eK4]; exact w3.set (by omega)
        have l4 : K4.length = K3.length := by rw [eK4, List.length_set]
        rcases Bool.eq_false_or_eq_true (decide (up silk (k' + 1 + 1) (4 - 1) = 0)) with qb | qb
        · rw [qb] at e4
          have hsp := @Nat.succ_ne_zero; repeat' (first | simp (disch := first | exact dschN55 | fail) only [go_sem, ↓reduceIte, hsp, r6, r5, q0, q3, q4, gK', t1, hn, e1, e2, ← eK3, g3', gc3, ht, Bool.not_true, e4] | refine WP_drw ?_ | refine cnd_intro (fun hsp => ?_) fun hsp => ?_)
          exact ⟨by (repeat first | exact Agree.refl | assumption | refine Agree.put rfl ?_ | refine Agree.put0 ?_ | refine Agree.sub rfl (by assumption) ?_), a + 1, ⟨by simp, by omega, p, w, k' + 1 + 1 + 1, s, e, rfl, by omega, x4, g4, w4, by omega, by omega, hq, by omega⟩, by omega⟩
        · rw [qb] at e4
          obtain ⟨w', K5, ea, oW5, lW5, eW5, oneW, kW⟩ := snocC (base := base) (r := ⟨u, (a : Int), j⟩) w4 (by omega) (by omega) (by omega)
          have g5 := kW.box g4
          have x5 : SpE h id v silk (k' + 1 + 1 + 1) K5 := eW5 _ (by rw [List.length_set]; omega) x4
          have hq2 : ∀ q, plnL R (p ++ [⟨u, (a : Int), j⟩] ++ q) 0 0 = plnL R q e' (s + p') := fun q => by
            rw [List.append_assoc, hq, List.singleton_append]
            exact (s1' q rfl (by first | omega | (simp only; omega))).1
          have bc : ∀ {lit : Bool}, bsA prog lit K4 43 1 [(0, .agg [.int .i64 u, .int .i64 (a : Int), .bool j])] = some (.slice (some ⟨K4.length, 0, 0⟩) 1 1, K4 ++ [rowE encC 58 [⟨u, (a : Int), j⟩] 0]) := fun {lit} => bsC1 (c := ⟨u, (a : Int), j⟩)
          obtain ⟨m, em⟩ := Int.eq_ofNat_of_zero_le z3
          try simp only at z5
          have hsp := @Nat.succ_ne_zero; repeat' (first | simp (disch := first | exact dschN55 | fail) only [go_sem, ↓reduceIte, hsp, r6, r5, q0, q3, q4, gK', t1, hn, e1, e2, ← eK3, g3', gc3, ht, Bool.not_true, e4, gc4, bc, ea] | refine WP_drw ?_ | refine cnd_intro (fun hsp => ?_) fun hsp => ?_)
          exact ⟨by (repeat first | exact Agree.refl | assumption | refine Agree.put rfl ?_ | refine Agree.put0 ?_ | refine Agree.sub rfl (by assumption) ?_), m, ⟨by rw [em], by omega, _, w', k' + 1 + 1 + 1, s + p', e', rfl, by omega, x5, g5, oW5, by rw [List.length_append, List.length_singleton]; omega, by omega, hq2, by omega⟩, by omega⟩
    · have t1 : ((a : Int) < R.L) = False := eq_false (by omega)
      unfold ribB at gK
      have hsp := @Nat.succ_ne_zero; repeat' (first | simp (disch := first | exact dschN55 | fail) only [go_sem, ↓reduceIte, hsp, r6, r5, q0, q3, q4, gK, t1] | refine WP_drw ?_ | refine cnd_intro (fun hsp => ?_) fun hsp => ?_)
      have := hq []
      rw [List.append_nil, plnL] at this
      exact ⟨p, k', s, by omega, xK, oW.low (by omega), by omega, this⟩
end Go.AM
/-
  CutEarned, walked.
-/
namespace Go.AM
open Go.Proofs.Try
theorem dschN56 {p : Prop} (h : p := by first | exact Nat.ne_of_beq_eq_false rfl | assumption | (apply asOne; (first | exact One.int | exact One.bool | assumption | exact Ints.one (by assumption) | exact Rows.one (by assumption) | exact Own.one (by assumption) | exact One.lit ⟨rfl, rfl, rfl⟩)) | (apply asSp; (repeat first | assumption | apply SpAt.set | (refine SpAt.new ?_ (by (first | rfl | (simp only [List.length_append, List.length_cons, List.length_nil, List.length_set]; done) | (simp only [List.length_append, List.length_cons, List.length_nil, List.length_set]; omega)))) | apply SpAt.app | apply Bytes.app); done) | (apply asBytes; (repeat first | assumption | apply Bytes.app); done) | (apply asInts; (repeat first | assumption | exact ints_nil | apply Ints.app); done) | (apply asRows; (repeat first | assumption | exact Rows.nil | apply Rows.app); done) | (apply asScal; (first | apply allS1 | apply allS2 | apply allS3 | apply allS4) <;> (first | exact One.int | exact One.bool | assumption | exact Ints.one (by assumption) | exact Rows.one (by assumption) | exact Own.one (by assumption) | exact One.lit ⟨rfl, rfl, rfl⟩)) | exact litT rfl | exact litF rfl | omega | (simp only [List.length_append, List.length_cons, List.length_nil, List.length_set, List.length_reverse]; first | done | omega) | fail) : p := h
attribute [-go_sem] put_ne put_same
attribute [local go_sem ↓] put_if
theorem hld_val {R : Rib} (hR : RibOk R) : Hld R (lst (fun y => valD R y) (R.L.toNat + 1)) := by
  have hg : ∀ i, i ≤ R.L.toNat → (lst (fun y => valD R y) (R.L.toNat + 1)).getD i 0 = valD R i := fun i hi => lst_get (by omega)
  refine ⟨fun x hx => ?_, fun x hx c hc => ?_, ?_⟩
  · rw [hg _ (by omega), hg _ (by omega)]; exact valD_up hR hx
  · have hb := (cutL_b hR hx hc).1
    rw [hg _ (by omega), hg _ (by omega)]; exact valD_cut hR hx hc
  · rw [hg _ (Nat.le_refl _), valD_end (Nat.le_refl _)]; exact Int.le_refl _
theorem vld_val {R : Rib} (hR : RibOk R) : vldE R (lst (fun y => valD R y) (R.L.toNat + 1)) = 0 ∧ ∀ y ∈ lst (fun y => valD R y) (R.L.toNat + 1), -10000 ≤ y ∧ y ≤ 10000 := by
  have hL := hR.L
  have hb : ∀ y ∈ lst (fun y => valD R y) (R.L.toNat + 1), -10000 ≤ y ∧ y ≤ 10000 := fun y hy => by
    obtain ⟨i, hi⟩ := List.getElem?_of_mem hy
    have hl := (List.getElem?_eq_some_iff.1 hi).1
    rw [lst_len] at hl
    have h2 : (lst (fun y => valD R y) (R.L.toNat + 1)).getD i 0 = valD R i := lst_get hl
    rw [List.getD_eq_getElem?_getD, hi] at h2
    have h2 : y = valD R i := h2
    have := valD_bd hR (x := i)
    omega
  refine ⟨?_, hb⟩
  unfold vldE
  rw [if_neg (fun q => q (chkR_iff.2 hR)), if_neg (fun q => q (by rw [lst_len]; omega)), if_neg]
  exact fun q => q (List.all_eq_true.2 fun y hy => decide_eq_true (hb y hy))
set_option maxRecDepth 100000 in
set_option maxHeartbeats 8000000 in
theorem run_CutEarned {base : Nat} {h : Heap} {v0 v1 : AVal} {l0 l1 : List Int} (hB0 : Bytes h v0 l0) (hB1 : Bytes h v1 l1) :
    callL prog raw base (.fn 13 [] []) [v0, v1] h = some (.bool true, h) := by
  have o0 := hB0.one
  have o1 := hB1.one
  have hw0 := run_wound (base := h.length) hB0
  obtain ⟨H0, eH0⟩ : ∃ H0, H0 = h ++ [spB v0 l0 0] := ⟨_, rfl⟩
  rw [← eH0] at hw0
  have hS : SpAt H0 h.length v0 l0 0 := by rw [eH0]; exact SpAt.new hB0 rfl
  have l00 : H0.length = h.length + 1 := by rw [eH0]; simp
  have x00 : Ext h H0 := by rw [eH0]; exact .app .refl
  obtain ⟨_, H1, e1, L, F, W, fv, wv, k1, rfl, hk1, q1, oF, oW, hR, hLA⟩ := run_LMade (base := h.length) (A := 50) (B := 10) (D := 6) (by omega) hS (by omega) (by omega) (by omega) (by omega)
  have xh1 : Ext h H1 := Ext.trans (x00.set (Nat.le_refl _)) q1
  have lH1 := xh1.len
  have ofv := oF.one
  have owv := oW.one
  obtain ⟨R, eR⟩ : ∃ R : Rib, R = ⟨L, F, W⟩ := ⟨_, rfl⟩
  rw [← eR] at hR
  have hL := hR.L
  have hnF := hR.nF
  have hnW := hR.nW
  have eL : R.L = L := by rw [eR]
  have eF : R.F = F := by rw [eR]
  have eW : R.W = W := by rw [eR]
  obtain ⟨G, eG⟩ : ∃ G, G = H1 ++ [ribB L fv wv] := ⟨_, rfl⟩
  have xG : Ext H1 G := by rw [eG]; exact .app .refl
  have gG : G[H1.length]? = some (ribB L fv wv) := by rw [eG]; exact get_eq rfl
  have hrF := hR.F
  have aG : RibAt G (.agg [.int .i64 L, fv, wv]) R := by
    refine ⟨fv, wv, by rw [eL], ?_, ?_⟩
    · rw [eF]; exact (own_ints oF ⟨by rw [← eF]; omega, fun y hy => by have := hrF y (by rw [eF]; exact hy); omega⟩).ext xG
    · rw [eW]; exact (oW.rows (by rw [← eW]; omega)).ext xG
  have hc := chkR_iff.2 hR
  have lG := xG.len
  obtain ⟨_, Z1, c1, z1, u1, rfl, oB⟩ := run_Best (base := h.length) (h := G) (by omega) aG (by omega)
  have m1 := z1.len
  obtain ⟨_, Z2, c2, z2, u2, rfl, oN⟩ := run_Fewest (base := h.length) (h := Z1) (by omega) (aG.ext z1) (by omega)
  have m2 := z2.len
  obtain ⟨_, Z3, c3, z3, u3, rfl, oV⟩ := run_Made (base := h.length) (h := Z2) (by omega) (aG.ext (z1.trans z2)) (by omega)
  have m3 := z3.len
  have ou1 := oB.one
  have ou2 := oN.one
  have ou3 := oV.one
  have zz := (z1.trans z2).trans z3
  have aZ := aG.ext zz
  obtain ⟨p1, n1⟩ := pthL_ok (b := false) hR R.L.toNat 0 0 0 (by omega) (by omega) (by omega)
  obtain ⟨p2, n2⟩ := pthL_ok (b := true) hR R.L.toNat 0 0 0 (by omega) (by omega) (by omega)
  rw [folD_e hR (by omega), Int.zero_add] at p1 p2
  have fb1 := folD_bd (b := false) (x := 0) hR
  have fb2 := folD_bd (b := true) (x := 0) hR
  have ea : allE R = valD R 0 := by unfold allE; rw [if_neg (fun q => q hc)]
  have eb1 : bstE false R = pthL false R R.L.toNat 0 := by unfold bstE; rw [if_neg (fun q => q hc)]
  have eb2 : bstE true R = pthL true R R.L.toNat 0 := by unfold bstE; rw [if_neg (fun q => q hc)]
  have emv : madE R = lst (fun y => valD R y) (R.L.toNat + 1) := by unfold madE; rw [if_neg (fun q => q hc)]
  have hbest := (plan_best hR p1).2 rfl
  rw [ea, hc] at c1
  rw [hc] at c2 c3
  rw [eb1] at oB
  rw [eb2] at oN
  rw [emv] at oV
  obtain ⟨P1, eP1⟩ : ∃ P, P = pthL false R R.L.toNat 0 := ⟨_, rfl⟩
  obtain ⟨P2, eP2⟩ : ∃ P, P = pthL true R R.L.toNat 0 := ⟨_, rfl⟩
  obtain ⟨V, eV⟩ : ∃ V, V = lst (fun y => valD R y) (R.L.toNat + 1) := ⟨_, rfl⟩
  obtain ⟨vv1, vv2⟩ := vld_val hR
  have hV := hld_val hR
  have sV := val_small hR (n := R.L.toNat + 1) (by omega)
  have V0 : V.getD 0 0 = valD R 0 := by rw [eV]; exact lst_get (by omega)
  have Vl : V.length = R.L.toNat + 1 := by rw [eV, lst_len]
  rw [← eP1] at oB p1 n1 hbest
  rw [← eP2] at oN p2 n2
  rw [← eV] at oV vv1 vv2 hV sV
  have rB := (oB.rows (by omega)).ext (z2.trans z3)
  have rN := (oN.rows (by omega)).ext z3
  have iV := ownE_ints oV sV
  have d1 := fun base => run_learned (base := base) aZ hR rB
  have d2 := fun base => run_learned (base := base) aZ hR rN
  rw [p1] at d1
  rw [p2] at d2
  simp only [decide_true] at d1 d2
  have dc := fun base => run_Check (base := base) aZ (by omega)
  rw [hc] at dc
  have hl1 := rB.len (P := prog) Fc.el43
  have hl2 := rN.len (P := prog) Fc.el43
  have dh := fun base => run_lholds (base := base) (b := true) aZ hR iV (by omega) vv2 ⟨fun _ => hV, fun _ => rfl⟩
  have a0 := adrI (i := 0) (by omega) iV (by omega)
  have w0 := loadI iV (i := 0) (by omega)
  rw [show (0 : Int).toNat = 0 from rfl] at a0
  rw [V0] at w0
  have db := fun base => run_Bound (base := base) aZ (by omega) iV
  have ebn : bndE R V = (valD R 0, 0) := by unfold bndE; rw [if_neg (fun q => q vv1), if_pos (hldB_iff.2 hV), V0]
  rw [ebn] at db
  have tg : ((P2.length : Int) > (P1.length : Int)) = False := eq_false (by omega)
  have xh3 : Ext h Z3 := (xh1.trans xG).trans zz
  have hB13 : Bytes Z3 v1 l1 := hB1.ext xh3
  have hw1 := run_wound (base := h.length) hB13
  obtain ⟨Z4, eZ4⟩ : ∃ Z4, Z4 = Z3 ++ [spB v1 l1 0] := ⟨_, rfl⟩
  rw [← eZ4] at hw1
  have hS1 : SpAt Z4 Z3.length v1 l1 0 := by rw [eZ4]; exact SpAt.new hB13 rfl
  have x34 : Ext Z3 Z4 := by rw [eZ4]; exact .app .refl
  have g1 := z1.get gG
  have g2 := z2.get g1
  have g3 := z3.get g2
  have lZ3 := xh3.len
  obtain ⟨vD, evD⟩ : ∃ vD, vD = valD R 0 := ⟨_, rfl⟩
  have hbb := fun {p : List Ct} {n : Int} (hp : plnL R p 0 0 = (n, 0)) => plan_best hR hp
  rw [← evD] at c1 d1 d2 w0 db
  simp only [← evD] at hbb
  unfold ribB at eG gG g1 g2 g3
  refine callL_run func13 rfl rfl ?_
  have hsp := @Nat.succ_ne_zero; repeat' (first | simp (disch := first | exact dschN56 | fail) only [go_sem, ↓reduceIte, hsp, hw0, e1, ← eG, gG, c1, g1, c2, g2, c3, g3, d1, d2, dc, ne_eq, not_true, decide_false, eq_self, Bool.not_true, hl1, hl2, tg, dh, a0, w0, db, hw1] | refine WP_drw ?_ | refine cnd_intro (fun hsp => ?_) fun hsp => ?_)
  refine WP_count [(4, 4), (19, 168)] 0 12 (by omega) (fun _ i fr K => fr 123 = .int .i64 (i : Int) ∧ ∃ k', k' ≤ 200 * i ∧ SpAt K Z3.length v1 l1 k' ∧ Ext Z3 K) ?_ ?_ ?_
  · exact ⟨by (simp (disch := first | exact dschN56 | fail) only [go_sem, ↓reduceIte, Int.natCast_zero]; first | done | rfl), 0, by omega, hS1, x34⟩
  · rintro i fr K hi0 hi hAg ⟨r123, k', hk', hSK, xK⟩
    have q5 := hAg 5 rfl
    have q7 := hAg 7 rfl
    have q9 := hAg 9 rfl
    have q18 := hAg 18 rfl
    try simp (disch := first | exact dschN56 | fail) only [go_sem, ↓reduceIte] at q5 q7 q9 q18
    have hlt : ((i : Int) < 12) = True := eq_true (by omega)
    have lK := xK.len
    obtain ⟨tv, K1, f1, p, k2, s, hk2, qK, oP, hpl, hpp⟩ := run_tried (base := h.length) (id := Z3.length) (h := K) (rv := .agg [.int .i64 L, fv, wv]) (by omega) hSK (by omega) hR (fun k' H x => aZ.ext (Ext.trans (xK.set (Nat.le_refl _)) x))
    have xK1 : Ext Z3 K1 := Ext.trans (xK.set (Nat.le_refl _)) qK
    have otv := oP.one
    have rP := oP.rows (by omega)
    have gK := xK.get g3
    have gK1 := xK1.get g3
    have e2 := fun base => run_learned (base := base) (aZ.ext xK1) hR rP
    rw [hpp] at e2
    simp only [decide_true] at e2
    have e3 := fun base => run_Earns (base := base) (aZ.ext xK1) (by omega) rP
    have epl : plnE R p = (s, 0) := by unfold plnE; rw [if_neg (fun q => q hc), hpp]
    rw [epl] at e3
    have hln := rP.len (P := prog) Fc.el43
    have hlN := (rN.ext xK1).len (P := prog) Fc.el43
    obtain ⟨hb1, hb2⟩ := hbb hpp
    have tgs : (s > vD) = False := eq_false (by omega)
    by_cases cs : s = vD
    · have tse : (s = vD) = True := eq_true cs
      have hb3 := hb2 cs
      have tlt : ((p.length : Int) < (P2.length : Int)) = False := eq_false (by omega)
      have hsp := @Nat.succ_ne_zero; repeat' (first | simp (disch := first | exact dschN56 | fail) only [go_sem, ↓reduceIte, hsp, r123, q5, q7, q9, q18, hlt, gK, f1, gK1, e2, e3, Bool.not_true, ne_eq, eq_self, not_true, decide_false, tgs, tse, hln, hlN, tlt] | refine WP_drw ?_ | refine cnd_intro (fun hsp => ?_) fun hsp => ?_)
      exact ⟨by (repeat first | exact Agree.refl | assumption | refine Agree.put rfl ?_ | refine Agree.put0 ?_ | refine Agree.sub rfl (by assumption) ?_), by omega, k2, by omega, qK.at hSK, xK1⟩
    · have tse : (s = vD) = False := eq_false cs
      have hsp := @Nat.succ_ne_zero; repeat' (first | simp (disch := first | exact dschN56 | fail) only [go_sem, ↓reduceIte, hsp, r123, q5, q7, q9, q18, hlt, gK, f1, gK1, e2, e3, Bool.not_true, ne_eq, eq_self, not_true, decide_false, tgs, tse] | refine WP_drw ?_ | refine cnd_intro (fun hsp => ?_) fun hsp => ?_)
      exact ⟨by (repeat first | exact Agree.refl | assumption | refine Agree.put rfl ?_ | refine Agree.put0 ?_ | refine Agree.sub rfl (by assumption) ?_), by omega, k2, by omega, qK.at hSK, xK1⟩
  · rintro fr K hAg ⟨r123, k', hk', hSK, xK⟩
    have q5 := hAg 5 rfl
    have q7 := hAg 7 rfl
    have q9 := hAg 9 rfl
    have q18 := hAg 18 rfl
    try simp (disch := first | exact dschN56 | fail) only [go_sem, ↓reduceIte] at q5 q7 q9 q18
    have hlt : ((12 : Int) < 12) = False := eq_false (by omega)
    have haw := fun base => run_awake (base := base) (h := K)
    have hsp := @Nat.succ_ne_zero; repeat' (first | simp (disch := first | exact dschN56 | fail) only [go_sem, ↓reduceIte, hsp, r123, q5, q7, q9, q18, hlt, haw] | refine WP_drw ?_ | refine cnd_intro (fun hsp => ?_) fun hsp => ?_)
    exact fB rfl (xh3.trans xK)
end Go.AM
