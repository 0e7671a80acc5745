/-
  The law's own word on values (holds).
-/
import Derived.Test.YtikgghhceolaeaaU20
import Derived.Test.YtikgghhceolaeaaU19
set_option linter.unusedSimpArgs false
set_option linter.unusedVariables false
namespace Go.AM
open Go.Proofs.Try
theorem dschN54 {p : Prop} (h : p := by first | exact Nat.ne_of_beq_eq_false rfl | assumption | (apply asOne; (first | exact One.int | exact One.bool | assumption | exact Ints.one (by assumption) | exact Rows.one (by assumption) | exact Own.one (by assumption) | exact One.lit ⟨rfl, rfl, rfl⟩)) | (apply asInts; (repeat first | assumption | exact ints_nil | apply Ints.app); done) | (apply asRows; (repeat first | assumption | exact Rows.nil | apply Rows.app); done) | (apply asScal; (first | apply allS1 | apply allS2 | apply allS3 | apply allS4) <;> (first | exact One.int | exact One.bool | assumption | exact Ints.one (by assumption) | exact Rows.one (by assumption) | exact Own.one (by assumption) | exact One.lit ⟨rfl, rfl, rfl⟩)) | exact litT rfl | exact litF rfl | omega | (simp only [List.length_append, List.length_cons, List.length_nil, List.length_set, List.length_reverse]; first | done | omega) | fail) : p := h
attribute [-go_sem] put_ne put_same
attribute [local go_sem ↓] put_if
theorem tknR_in {R : Rib} {w : Wnt} {k x : Nat} {j : Bool} (hw : R.W[k]? = some w) (hx : x < R.L.toNat) (hk : k < R.W.length) : tknR R ⟨(k : Int), (x : Int), j⟩ = tknW R w x j := by
  unfold tknR
  simp only
  rw [if_pos ⟨by omega, by omega⟩, Int.toNat_natCast, hw, Int.toNat_natCast]
set_option maxRecDepth 100000 in
set_option maxHeartbeats 8000000 in
theorem run_lholds {base : Nat} {h : Heap} {v lv : AVal} {R : Rib} {l : List Int} {b : Bool} (hA : RibAt h v R) (hR : RibOk R) (hI : Ints h lv l) (hl : (l.length : Int) = R.L + 1) (hlb : ∀ y ∈ l, -10000 ≤ y ∧ y ≤ 10000) (hb : b = true ↔ Hld R l) :
    callL prog raw base (.fn 75 [] []) [v, lv] h = some (.bool b, h) := by
  have hAe := fun H (e : Ext h H) => hA.ext e
  obtain ⟨fv, wv, rfl, hF, hW⟩ := hA
  have o1 := hF.one
  have o2 := hW.one
  have ol := hI.one
  have hL := hR.L
  have hnW := hR.nW
  obtain ⟨n, en⟩ := Int.eq_ofNat_of_zero_le (show 0 ≤ R.L by omega)
  have en' : R.L.toNat = n := by omega
  have hvb := getD_b hlb (by omega)
  obtain ⟨G, eG⟩ : ∃ G, G = h ++ [ribB R.L fv wv] := ⟨_, rfl⟩
  have x0 : Ext h G := by rw [eG]; exact .app .refl
  have g0 : G[h.length]? = some (ribB R.L fv wv) := by rw [eG]; exact get_eq rfl
  have lG : G.length = h.length + 1 := by rw [eG]; simp
  have iG := hI.ext x0
  have hn := lenI iG
  have aL := adrI (i := R.L) (by omega) iG (by omega)
  have lL := loadI iG (i := R.L.toNat) (by omega)
  have t0 : ((l.length : Int) = R.L + 1) = True := eq_true hl
  unfold ribB at eG g0
  refine callL_run func75 rfl rfl ?_
  by_cases c0 : l.getD R.L.toNat 0 < 0
  · have t1 : (l.getD R.L.toNat 0 < 0) = True := eq_true c0
    have hbf : b = false := by
      cases b with
      | false => rfl
      | true => have := (hb.1 rfl).fin; omega
    rw [hbf]
    have hsp := @Nat.succ_ne_zero; repeat' (first | simp (disch := first | exact dschN54 | fail) only [go_sem, ↓reduceIte, hsp, ← eG, hn, g0, t0, aL, lL, t1] | refine WP_drw ?_ | refine cnd_intro (fun hsp => ?_) fun hsp => ?_)
    exact fB rfl x0
  · have t1 : (l.getD R.L.toNat 0 < 0) = False := eq_false c0
    have hsp := @Nat.succ_ne_zero; repeat' (first | simp (disch := first | exact dschN54 | fail) only [go_sem, ↓reduceIte, hsp, ← eG, hn, g0, t0, aL, lL, t1] | refine WP_drw ?_ | refine cnd_intro (fun hsp => ?_) fun hsp => ?_)
    refine WP_count [(4, 11), (28, 79)] 0 n (Nat.zero_le _) (fun _ x fr K => fr 28 = .int .i64 (x : Int) ∧ Ext G K ∧ ∀ y, y < x → l.getD (y + 1) 0 ≤ l.getD y 0 ∧ ∀ c ∈ cutL R y, c.2.2 + l.getD c.2.1.toNat 0 ≤ l.getD y 0) ?_ ?_ ?_
    · exact ⟨by (simp (disch := first | exact dschN54 | fail) only [go_sem, ↓reduceIte, Int.natCast_zero]; first | done | rfl), .refl, fun y hy => by omega⟩
    · rintro x fr K hx0 hx' hAg ⟨r28, xK, hpre⟩
      have q1 := hAg 1 rfl
      have q2 := hAg 2 rfl
      have q27 := hAg 27 rfl
      try simp (disch := first | exact dschN54 | fail) only [go_sem, ↓reduceIte] at q1 q2 q27
      have hlt : ((x : Int) < R.L) = True := eq_true (by omega)
      have hx : x < R.L.toNat := by omega
      have g0K := xK.get g0
      have xh := x0.trans xK
      have lK := xK.len
      have iK := hI.ext xh
      have a1 := adrI (i := (x : Int)) (by omega) iK (by omega)
      have a2 := adrI (i := (x : Int) + 1) (by omega) iK (by omega)
      rw [Int.toNat_natCast] at a1
      rw [show ((x : Int) + 1).toNat = x + 1 by omega] at a2
      have m1 := loadI iK (i := x) (by omega)
      have m2 := loadI iK (i := x + 1) (by omega)
      have bx := hvb x
      obtain ⟨vx, evx⟩ : ∃ vx, vx = l.getD x 0 := ⟨_, rfl⟩
      obtain ⟨vy, evy⟩ : ∃ vy, vy = l.getD (x + 1) 0 := ⟨_, rfl⟩
      rw [← evx] at m1 bx
      rw [← evy] at m2
      have hnK := (hW.ext xh).len (P := prog) Fc.el23
      by_cases c1 : vx < vy
      · have t2 : (vx < vy) = True := eq_true c1
        have hbf : b = false := by
          cases b with
          | false => rfl
          | true => have := (hb.1 rfl).up x hx; rw [← evx, ← evy] at this; omega
        rw [hbf]
        have hsp := @Nat.succ_ne_zero; repeat' (first | simp (disch := first | exact dschN54 | fail) only [go_sem, ↓reduceIte, hsp, r28, q1, q2, q27, hlt, a1, a2, m1, m2, t2] | refine WP_drw ?_ | refine cnd_intro (fun hsp => ?_) fun hsp => ?_)
        exact fB rfl xh
      · have t2 : (vx < vy) = False := eq_false c1
        have hsp := @Nat.succ_ne_zero; repeat' (first | simp (disch := first | exact dschN54 | fail) only [go_sem, ↓reduceIte, hsp, r28, q1, q2, q27, hlt, a1, a2, m1, m2, t2, g0K, hnK] | refine WP_drw ?_ | refine cnd_intro (fun hsp => ?_) fun hsp => ?_)
        refine WP_count [(4, 4), (6, 11), (44, 78)] 0 R.W.length (Nat.zero_le _) (fun _ k fr X => fr 44 = .int .i64 (k : Int) ∧ Ext G X ∧ ∀ c ∈ cutM R x (2 * k), c.2.2 + l.getD c.2.1.toNat 0 ≤ vx) ?_ ?_ ?_
        · exact ⟨by (simp (disch := first | exact dschN54 | fail) only [go_sem, ↓reduceIte, Int.natCast_zero]; first | done | rfl), xK, by simp [cutM]⟩
        · rintro k fr2 K2 hk0 hkl hA2 ⟨r44, xX, hm0⟩
          have d1 := hA2 1 rfl
          have d2 := hA2 2 rfl
          have d5 := hA2 5 rfl
          have d27 := hA2 27 rfl
          have d28 := hA2 28 rfl
          have d43 := hA2 43 rfl
          try simp (disch := first | exact dschN54 | fail) only [go_sem, ↓reduceIte, q1, q2, q27] at d1 d2 d5 d27 d28 d43
          have d28 := hA2 28 rfl
          simp (disch := first | exact dschN54 | fail) only [go_sem, ↓reduceIte, r28] at d28
          have hltk : ((k : Int) < (R.W.length : Int)) = True := eq_true (by omega)
          have hw : R.W[k]? = some R.W[k] := List.getElem?_eq_getElem hkl
          generalize R.W[k] = w at hw
          have hwo := hR.W w (List.mem_of_getElem? hw)
          obtain ⟨K3, eK3⟩ : ∃ K3, K3 = K2 ++ [tfB] := ⟨_, rfl⟩
          have y3 : Ext K2 K3 := by rw [eK3]; exact .app .refl
          have g3 : K3[K2.length]? = some tfB := by rw [eK3]; exact get_eq rfl
          have bt := fun lit => bsTF0 (lit := lit) (H := K2)
          rw [← eK3] at bt
          have hsp := @Nat.succ_ne_zero; repeat' (first | simp (disch := first | exact dschN54 | fail) only [go_sem, ↓reduceIte, hsp, r44, d1, d2, d5, d27, d28, d43, q1, q2, q27, hltk, bt] | refine WP_drw ?_ | refine cnd_intro (fun hsp => ?_) fun hsp => ?_)
          refine WP_count [(4, 4), (8, 11), (49, 77)] 0 2 (by omega) (fun _ q fr Y => fr 49 = .int .i64 (q : Int) ∧ Ext G Y ∧ Y[K2.length]? = some tfB ∧ ∀ c ∈ cutM R x (2 * k + q), c.2.2 + l.getD c.2.1.toNat 0 ≤ vx) ?_ ?_ ?_
          · exact ⟨by (simp (disch := first | exact dschN54 | fail) only [go_sem, ↓reduceIte, Int.natCast_zero]; first | done | rfl), xX.trans y3, g3, hm0⟩
          · rintro q fr3 Y hq0 hq hA3 ⟨r49, xY, gY, hm⟩
            have c1 := hA3 1 rfl
            have c2 := hA3 2 rfl
            have c5 := hA3 5 rfl
            have c6 := hA3 6 rfl
            have c27 := hA3 27 rfl
            have c28 := hA3 28 rfl
            have c43 := hA3 43 rfl
            have c44 := hA3 44 rfl
            have c47 := hA3 47 rfl
            have c48 := hA3 48 rfl
            try simp (disch := first | exact dschN54 | fail) only [go_sem, ↓reduceIte, d1, d2, d5, d27, d28, d43] at c1 c2 c5 c6 c27 c28 c43 c44 c47 c48
            have g0Y := xY.get g0
            rcases (show q = 0 ∨ q = 1 by omega) with rfl | rfl
            · have ecut : cutO R x (2 * k + 0) = (takL R w x false).map fun e => (⟨(k : Int), (x : Int), false⟩, e) := cutO_ev hw
              have hcs := cutM_succ (R := R) (x := x) (i := 2 * k + 0)
              have ht := fun base => run_taken (base := base) (c := ⟨(k : Int), (x : Int), false⟩) (hAe Y (x0.trans xY)) hR
              rw [show tknR R ⟨(k : Int), (x : Int), false⟩ = tknW R w x false from tknR_in hw hx hkl] at ht
              have hti := tknW_is (R := R) (w := w) (x := x) (j := false) hwo hx
              obtain ⟨r, er⟩ : ∃ r, r = tknW R w x false := ⟨_, rfl⟩
              rw [← er] at ht hti
              obtain ⟨e, p, ok⟩ := r
              simp only at ht hti
              have ldq : ∀ z, ldB (some (false, z)) (Y[K2.length]?) 0 0 = some (.bool false) := fun z => by rw [gY]; rfl
              have hltq : ((0 : Int) < 2) = True := eq_true (by omega)
              cases ok with
              | false =>
                rw [if_neg (by simp)] at hti
                rw [hti] at ecut
                rw [ecut] at hcs
                simp only [Option.map_none, Option.toList, List.append_nil] at hcs
                have hsp := @Nat.succ_ne_zero; repeat' (first | simp (disch := first | exact dschN54 | fail) only [go_sem, ↓reduceIte, hsp, r49, c1, c2, c5, c6, c27, c28, c43, c44, c47, c48, d1, d2, d5, d27, d28, d43, q1, q2, q27, hltq, ldq, g0Y, ht] | refine WP_drw ?_ | refine cnd_intro (fun hsp => ?_) fun hsp => ?_)
                exact ⟨by (repeat first | exact Agree.refl | assumption | refine Agree.put rfl ?_ | refine Agree.put0 ?_ | refine Agree.sub rfl (by assumption) ?_), xY, gY, by rw [show 2 * k + (0 + 1) = 2 * k + 0 + 1 by omega, hcs]; exact hm⟩
              | true =>
                rw [if_pos rfl] at hti
                have htb := takL_b hR hwo hx hti
                rw [hti] at ecut
                obtain ⟨en, een⟩ := Int.eq_ofNat_of_zero_le (show 0 ≤ e by omega)
                have hmem : (⟨(k : Int), (x : Int), false⟩, (e, p)) ∈ cutL R x := List.mem_of_getElem? (cutL_at (by omega) ecut)
                rw [ecut] at hcs
                simp only [Option.map_some, Option.toList] at hcs
                have iY := hI.ext (x0.trans xY)
                have b1 := adrI (i := (x : Int)) (by omega) iY (by omega)
                rw [Int.toNat_natCast] at b1
                have f1 := loadI iY (i := x) (by omega)
                have b3 := adrI (i := e) (by omega) iY (by omega)
                have f3 := loadI iY (i := e.toNat) (by omega)
                have be := hvb e.toNat
                obtain ⟨ve, eve⟩ : ∃ ve, ve = l.getD e.toNat 0 := ⟨_, rfl⟩
                rw [← eve] at f3 be
                rw [← evx] at f1
                by_cases cc2 : vx < p + ve
                · have t2 : (vx < p + ve) = True := eq_true cc2
                  have hbf : b = false := by
                    cases b with
                    | false => rfl
                    | true => have := (hb.1 rfl).cut x hx _ hmem; simp only at this; rw [← evx, ← eve] at this; omega
                  rw [hbf]
                  have hsp := @Nat.succ_ne_zero; repeat' (first | simp (disch := first | exact dschN54 | fail) only [go_sem, ↓reduceIte, hsp, r49, c1, c2, c5, c6, c27, c28, c43, c44, c47, c48, d1, d2, d5, d27, d28, d43, q1, q2, q27, hltq, ldq, g0Y, ht, b1, f1, b3, f3, t2] | refine WP_drw ?_ | refine cnd_intro (fun hsp => ?_) fun hsp => ?_)
                  exact fB rfl (x0.trans xY)
                · have t2 : (vx < p + ve) = False := eq_false cc2
                  have hsp := @Nat.succ_ne_zero; repeat' (first | simp (disch := first | exact dschN54 | fail) only [go_sem, ↓reduceIte, hsp, r49, c1, c2, c5, c6, c27, c28, c43, c44, c47, c48, d1, d2, d5, d27, d28, d43, q1, q2, q27, hltq, ldq, g0Y, ht, b1, f1, b3, f3, t2] | refine WP_drw ?_ | refine cnd_intro (fun hsp => ?_) fun hsp => ?_)
                  refine ⟨by (repeat first | exact Agree.refl | assumption | refine Agree.put rfl ?_ | refine Agree.put0 ?_ | refine Agree.sub rfl (by assumption) ?_), xY, gY, fun z hz => ?_⟩
                  rw [show 2 * k + (0 + 1) = 2 * k + 0 + 1 by omega, hcs] at hz
                  rcases List.mem_append.1 hz with q | q
                  · exact hm z q
                  · rw [List.mem_singleton.1 q]; simp only; rw [← eve]; omega
            · have ecut : cutO R x (2 * k + 1) = (takL R w x true).map fun e => (⟨(k : Int), (x : Int), true⟩, e) := cutO_od hw
              have hcs := cutM_succ (R := R) (x := x) (i := 2 * k + 1)
              have ht := fun base => run_taken (base := base) (c := ⟨(k : Int), (x : Int), true⟩) (hAe Y (x0.trans xY)) hR
              rw [show tknR R ⟨(k : Int), (x : Int), true⟩ = tknW R w x true from tknR_in hw hx hkl] at ht
              have hti := tknW_is (R := R) (w := w) (x := x) (j := true) hwo hx
              obtain ⟨r, er⟩ : ∃ r, r = tknW R w x true := ⟨_, rfl⟩
              rw [← er] at ht hti
              obtain ⟨e, p, ok⟩ := r
              simp only at ht hti
              have ldq : ∀ z, ldB (some (false, z)) (Y[K2.length]?) 0 1 = some (.bool true) := fun z => by rw [gY]; rfl
              have hltq : ((1 : Int) < 2) = True := eq_true (by omega)
              cases ok with
              | false =>
                rw [if_neg (by simp)] at hti
                rw [hti] at ecut
                rw [ecut] at hcs
                simp only [Option.map_none, Option.toList, List.append_nil] at hcs
                have hsp := @Nat.succ_ne_zero; repeat' (first | simp (disch := first | exact dschN54 | fail) only [go_sem, ↓reduceIte, hsp, r49, c1, c2, c5, c6, c27, c28, c43, c44, c47, c48, d1, d2, d5, d27, d28, d43, q1, q2, q27, hltq, ldq, g0Y, ht] | refine WP_drw ?_ | refine cnd_intro (fun hsp => ?_) fun hsp => ?_)
                exact ⟨by (repeat first | exact Agree.refl | assumption | refine Agree.put rfl ?_ | refine Agree.put0 ?_ | refine Agree.sub rfl (by assumption) ?_), xY, gY, by rw [show 2 * k + (1 + 1) = 2 * k + 1 + 1 by omega, hcs]; exact hm⟩
              | true =>
                rw [if_pos rfl] at hti
                have htb := takL_b hR hwo hx hti
                rw [hti] at ecut
                obtain ⟨en, een⟩ := Int.eq_ofNat_of_zero_le (show 0 ≤ e by omega)
                have hmem : (⟨(k : Int), (x : Int), true⟩, (e, p)) ∈ cutL R x := List.mem_of_getElem? (cutL_at (by omega) ecut)
                rw [ecut] at hcs
                simp only [Option.map_some, Option.toList] at hcs
                have iY := hI.ext (x0.trans xY)
                have b1 := adrI (i := (x : Int)) (by omega) iY (by omega)
                rw [Int.toNat_natCast] at b1
                have f1 := loadI iY (i := x) (by omega)
                have b3 := adrI (i := e) (by omega) iY (by omega)
                have f3 := loadI iY (i := e.toNat) (by omega)
                have be := hvb e.toNat
                obtain ⟨ve, eve⟩ : ∃ ve, ve = l.getD e.toNat 0 := ⟨_, rfl⟩
                rw [← eve] at f3 be
                rw [← evx] at f1
                by_cases cc2 : vx < p + ve
                · have t2 : (vx < p + ve) = True := eq_true cc2
                  have hbf : b = false := by
                    cases b with
                    | false => rfl
                    | true => have := (hb.1 rfl).cut x hx _ hmem; simp only at this; rw [← evx, ← eve] at this; omega
                  rw [hbf]
                  have hsp := @Nat.succ_ne_zero; repeat' (first | simp (disch := first | exact dschN54 | fail) only [go_sem, ↓reduceIte, hsp, r49, c1, c2, c5, c6, c27, c28, c43, c44, c47, c48, d1, d2, d5, d27, d28, d43, q1, q2, q27, hltq, ldq, g0Y, ht, b1, f1, b3, f3, t2] | refine WP_drw ?_ | refine cnd_intro (fun hsp => ?_) fun hsp => ?_)
                  exact fB rfl (x0.trans xY)
                · have t2 : (vx < p + ve) = False := eq_false cc2
                  have hsp := @Nat.succ_ne_zero; repeat' (first | simp (disch := first | exact dschN54 | fail) only [go_sem, ↓reduceIte, hsp, r49, c1, c2, c5, c6, c27, c28, c43, c44, c47, c48, d1, d2, d5, d27, d28, d43, q1, q2, q27, hltq, ldq, g0Y, ht, b1, f1, b3, f3, t2] | refine WP_drw ?_ | refine cnd_intro (fun hsp => ?_) fun hsp => ?_)
                  refine ⟨by (repeat first | exact Agree.refl | assumption | refine Agree.put rfl ?_ | refine Agree.put0 ?_ | refine Agree.sub rfl (by assumption) ?_), xY, gY, fun z hz => ?_⟩
                  rw [show 2 * k + (1 + 1) = 2 * k + 1 + 1 by omega, hcs] at hz
                  rcases List.mem_append.1 hz with q | q
                  · exact hm z q
                  · rw [List.mem_singleton.1 q]; simp only; rw [← eve]; omega
          · rintro fr3 Y hA3 ⟨r49, xY, gY, hm⟩
            have c1 := hA3 1 rfl
            have c2 := hA3 2 rfl
            have c5 := hA3 5 rfl
            have c6 := hA3 6 rfl
            have c27 := hA3 27 rfl
            have c28 := hA3 28 rfl
            have c43 := hA3 43 rfl
            have c44 := hA3 44 rfl
            have c47 := hA3 47 rfl
            have c48 := hA3 48 rfl
            try simp (disch := first | exact dschN54 | fail) only [go_sem, ↓reduceIte, d1, d2, d5, d27, d28, d43] at c1 c2 c5 c6 c27 c28 c43 c44 c47 c48
            have hltq : ((2 : Int) < 2) = False := eq_false (by omega)
            have c44 := hA3 44 rfl
            have c28 := hA3 28 rfl
            simp (disch := first | exact dschN54 | fail) only [go_sem, ↓reduceIte, r44] at c44
            simp (disch := first | exact dschN54 | fail) only [go_sem, ↓reduceIte, d28] at c28
            have hsp := @Nat.succ_ne_zero; repeat' (first | simp (disch := first | exact dschN54 | fail) only [go_sem, ↓reduceIte, hsp, r49, c44, c28, c1, c2, c5, c6, c27, c28, c43, c44, c47, c48, d1, d2, d5, d27, d28, d43, q1, q2, q27, hltq] | refine WP_drw ?_ | refine cnd_intro (fun hsp => ?_) fun hsp => ?_)
            exact ⟨by (repeat first | exact Agree.refl | assumption | refine Agree.put rfl ?_ | refine Agree.put0 ?_ | refine Agree.sub rfl (by assumption) ?_), by omega, xY, by rw [show 2 * (k + 1) = 2 * k + 2 by omega]; exact hm⟩
        · rintro fr2 X hA2 ⟨r44, xX, hm0⟩
          have d1 := hA2 1 rfl
          have d2 := hA2 2 rfl
          have d5 := hA2 5 rfl
          have d27 := hA2 27 rfl
          have d28 := hA2 28 rfl
          have d43 := hA2 43 rfl
          try simp (disch := first | exact dschN54 | fail) only [go_sem, ↓reduceIte, q1, q2, q27] at d1 d2 d5 d27 d28 d43
          have hltk : ((R.W.length : Int) < (R.W.length : Int)) = False := eq_false (by omega)
          have d28 := hA2 28 rfl
          simp (disch := first | exact dschN54 | fail) only [go_sem, ↓reduceIte, r28] at d28
          have hsp := @Nat.succ_ne_zero; repeat' (first | simp (disch := first | exact dschN54 | fail) only [go_sem, ↓reduceIte, hsp, r44, d28, d1, d2, d5, d27, d28, d43, q1, q2, q27, hltk] | refine WP_drw ?_ | refine cnd_intro (fun hsp => ?_) fun hsp => ?_)
          refine ⟨by (repeat first | exact Agree.refl | assumption | refine Agree.put rfl ?_ | refine Agree.put0 ?_ | refine Agree.sub rfl (by assumption) ?_), by omega, xX, fun y hy => ?_⟩
          by_cases e : y = x
          · subst e
            exact ⟨by rw [← evx, ← evy]; omega, fun c hc => by rw [← evx]; exact hm0 c hc⟩
          · exact hpre y (by omega)
    · rintro fr K hAg ⟨r28, xK, hpre⟩
      have q1 := hAg 1 rfl
      have q2 := hAg 2 rfl
      have q27 := hAg 27 rfl
      try simp (disch := first | exact dschN54 | fail) only [go_sem, ↓reduceIte] at q1 q2 q27
      have hlt : ((n : Int) < R.L) = False := eq_false (by omega)
      have hbt : b = true := hb.2 ⟨fun y hy => (hpre y (by omega)).1, fun y hy => (hpre y (by omega)).2, by omega⟩
      rw [hbt]
      have hsp := @Nat.succ_ne_zero; repeat' (first | simp (disch := first | exact dschN54 | fail) only [go_sem, ↓reduceIte, hsp, r28, q1, q2, q27, hlt] | refine WP_drw ?_ | refine cnd_intro (fun hsp => ?_) fun hsp => ?_)
      exact fB rfl (x0.trans xK)
end Go.AM
/-
  A plan that is tried (tried).
-/
namespace Go.AM
open Go.Proofs.Try
attribute [-go_sem] put_ne put_same
attribute [local go_sem ↓] put_if
end Go.AM
/-
  CutEarned, walked.
-/
namespace Go.AM
open Go.Proofs.Try
attribute [-go_sem] put_ne put_same
attribute [local go_sem ↓] put_if
theorem hld_val {R : Rib} (hR : RibOk R) : Hld R (lst (fun y => valD R y) (R.L.toNat + 1)) := by
  have hg : ∀ i, i ≤ R.L.toNat → (lst (fun y => valD R y) (R.L.toNat + 1)).getD i 0 = valD R i := fun i hi => lst_get (by omega)
  refine ⟨fun x hx => ?_, fun x hx c hc => ?_, ?_⟩
  · rw [hg _ (by omega), hg _ (by omega)]; exact valD_up hR hx
  · have hb := (cutL_b hR hx hc).1
    rw [hg _ (by omega), hg _ (by omega)]; exact valD_cut hR hx hc
  · rw [hg _ (Nat.le_refl _), valD_end (Nat.le_refl _)]; exact Int.le_refl _
theorem vld_val {R : Rib} (hR : RibOk R) : vldE R (lst (fun y => valD R y) (R.L.toNat + 1)) = 0 ∧ ∀ y ∈ lst (fun y => valD R y) (R.L.toNat + 1), -10000 ≤ y ∧ y ≤ 10000 := by
  have hL := hR.L
  have hb : ∀ y ∈ lst (fun y => valD R y) (R.L.toNat + 1), -10000 ≤ y ∧ y ≤ 10000 := fun y hy => by
    obtain ⟨i, hi⟩ := List.getElem?_of_mem hy
    have hl := (List.getElem?_eq_some_iff.1 hi).1
    rw [lst_len] at hl
    have h2 : (lst (fun y => valD R y) (R.L.toNat + 1)).getD i 0 = valD R i := lst_get hl
    rw [List.getD_eq_getElem?_getD, hi] at h2
    have h2 : y = valD R i := h2
    have := valD_bd hR (x := i)
    omega
  refine ⟨?_, hb⟩
  unfold vldE
  rw [if_neg (fun q => q (chkR_iff.2 hR)), if_neg (fun q => q (by rw [lst_len]; omega)), if_neg]
  exact fun q => q (List.all_eq_true.2 fun y hy => decide_eq_true (hb y hy))
end Go.AM
/-
  Plain: values that hold are no less; the ribbon from a unit on.
-/
namespace Go.AM
section
variable {bad bad' : Nat → Bool} {j : Bool} {lg : Int} {u : Nat}
theorem getD_mapI {l : List Int} {i : Nat} {d : Int} (hi : i < l.length) : (l.map (· + d)).getD i 0 = l.getD i 0 + d := by
  simp only [List.getD_eq_getElem?_getD, List.getElem?_map, List.getElem?_eq_getElem hi, Option.map_some, Option.getD_some]
theorem gap_shift {o : List Int} {y : Nat} : gapB (o.map (· + (u : Int))) (y + u) = gapB o y := by
  unfold gapB
  rw [List.length_map]
  by_cases c : 0 < o.length
  · rw [getD_mapI (by omega)]
    congr 1
    refine decide_eq_decide.2 ?_
    omega
  · rw [decide_eq_false c, Bool.false_and, Bool.false_and]
theorem unL_shift (hb : ∀ y, bad' y = bad (y + u)) : ∀ (n y : Nat) (o : List Int) (f : Int), unL bad j lg n (y + u) (o.map (· + (u : Int))) f = ((unL bad' j lg n y o f).1.map (· + (u : Int)), (unL bad' j lg n y o f).2)
  | 0, _, _, _ => rfl
  | n + 1, y, o, f => by
    unfold unL
    rw [List.length_map]
    by_cases c : (o.length : Int) < lg
    · rw [if_pos c, if_pos c]
      have e : unS bad j (y + u) (o.map (· + (u : Int))) f = ((unS bad' j y o f).1.map (· + (u : Int)), (unS bad' j y o f).2) := by
        unfold unS
        rw [← hb y, gap_shift]
        split
        · rfl
        · simp
      rw [e]
      simp only
      rw [show y + u + 1 = y + 1 + u by omega]
      exact unL_shift hb n (y + 1) _ _
    · rw [if_neg c, if_neg c]
end
/-- The ribbon from a unit on. -/
def tlR (R : Rib) (u : Nat) : Rib := ⟨R.L - u, (R.F.filter fun y => decide ((u : Int) ≤ y)).map (· - (u : Int)), R.W⟩
section
variable {R : Rib} {u x : Nat}
theorem tlR_mem {y : Int} : y ∈ (tlR R u).F ↔ 0 ≤ y ∧ y + u ∈ R.F := by
  unfold tlR
  simp only [List.mem_map, List.mem_filter, decide_eq_true_eq]
  constructor
  · rintro ⟨z, ⟨h1, h2⟩, rfl⟩
    exact ⟨by omega, by rw [show z - (u : Int) + u = z by omega]; exact h1⟩
  · rintro ⟨h1, h2⟩
    exact ⟨y + u, ⟨h2, by omega⟩, by omega⟩
theorem RibOk.tl (hR : RibOk R) (hu : u < R.L.toNat) : RibOk (tlR R u) := by
  have hL := hR.L
  refine ⟨by unfold tlR; simp only; omega, ?_, hR.nW, hR.W, fun y hy => ?_, ?_⟩
  · unfold tlR
    rw [List.length_map]
    exact Nat.le_trans (List.length_filter_le _ _) hR.nF
  · have := tlR_mem.1 hy
    have h2 := hR.F _ this.2
    unfold tlR
    simp only
    omega
  · unfold tlR
    simp only
    rw [List.pairwise_map]
    exact (hR.s.filter _).imp fun h => by omega
theorem tlR_len (hu : u < R.L.toNat) : (tlR R u).L.toNat = R.L.toNat - u := by unfold tlR; simp only; omega
theorem uniP_tl (hu : u < R.L.toNat) {w : Wnt} {j : Bool} : uniP R w (x + u) j = ((uniP (tlR R u) w x j).1.map (· + (u : Int)), (uniP (tlR R u) w x j).2) := by
  unfold uniP
  rw [tlR_len hu, show R.L.toNat - u - x = R.L.toNat - (x + u) by omega]
  exact unL_shift (bad := badF R) (bad' := badF (tlR R u)) (fun y => by
    unfold badF
    refine decide_eq_decide.2 ?_
    rw [tlR_mem, show ((y + u : Nat) : Int) = (y : Int) + u by omega]
    exact ⟨fun q => q.2, fun q => ⟨by omega, q⟩⟩) _ _ [] 0
theorem takL_tl (hu : u < R.L.toNat) {w : Wnt} (hw : WntOk w) {j : Bool} : takL (tlR R u) w x j = (takL R w (x + u) j).map fun e => (e.1 - (u : Int), e.2) := by
  have hlg := hw.lg
  have hb : badF (tlR R u) x = badF R (x + u) := by
    unfold badF
    refine decide_eq_decide.2 ?_
    rw [tlR_mem, show ((x + u : Nat) : Int) = (x : Int) + u by omega]
    exact ⟨fun q => q.2, fun q => ⟨by omega, q⟩⟩
  unfold takL okT
  rw [uniP_tl hu, hb]
  simp only [List.length_map]
  split
  · rename_i h
    simp only [Bool.and_eq_true, decide_eq_true_eq] at h
    have hl := h.1.2
    rw [getD_mapI (by omega)]
    simp only [Option.map_some]
    congr 2
    omega
  · rfl
theorem valD_tl (hR : RibOk R) (hu : u < R.L.toNat) {y : Nat} (hy : y + u ≤ R.L.toNat) : valD (tlR R u) y = valD R (y + u) := by
  have hT := hR.tl hu
  have hlen := tlR_len hu
  refine ((valD_back hT).eq hT (U := fun x => valD R (x + u)) ?_ (by rw [hlen]; omega))
  refine ⟨?_, fun x hx => ?_, fun x hx c hc => ?_, fun x hx => ?_⟩
  · show valD R ((tlR R u).L.toNat + u) = 0
    rw [hlen]; exact valD_end (by omega)
  · show valD R (x + 1 + u) ≤ valD R (x + u)
    rw [show x + 1 + u = x + u + 1 by omega]
    exact valD_up hR (by omega)
  · obtain ⟨k, w, j, hw, ht, he⟩ := cutL_mem.1 hc
    have hwo := hR.W w (List.mem_of_getElem? hw)
    rw [takL_tl hu hwo] at ht
    cases q : takL R w (x + u) j with
    | none => rw [q] at ht; simp at ht
    | some e =>
      rw [q] at ht
      simp only [Option.map_some, Option.some.injEq] at ht
      have hm : (⟨(k : Int), ((x + u : Nat) : Int), j⟩, e) ∈ cutL R (x + u) := cutL_mem.2 ⟨k, w, j, hw, q, rfl⟩
      have h1 := valD_cut hR (show x + u < R.L.toNat by omega) hm
      have hb := (cutL_b hR (show x + u < R.L.toNat by omega) hm).1
      simp only at h1 hb
      show id c.2.2 + valD R (c.2.1.toNat + u) ≤ valD R (x + u)
      rw [← ht]
      simp only [id]
      rw [show (e.1 - (u : Int)).toNat + u = e.1.toNat by omega]
      exact h1
  · rcases valD_is hR (show x + u < R.L.toNat by omega) with q | ⟨c, hc, q⟩
    · left
      show valD R (x + u) = valD R (x + 1 + u)
      rw [q, show x + 1 + u = x + u + 1 by omega]
    · right
      obtain ⟨k, w, j, hw, ht, he⟩ := cutL_mem.1 hc
      have hwo := hR.W w (List.mem_of_getElem? hw)
      have hb := (cutL_b hR (show x + u < R.L.toNat by omega) hc).1
      have ht2 : takL (tlR R u) w x j = some (c.2.1 - (u : Int), c.2.2) := by rw [takL_tl hu hwo, ht]; rfl
      refine ⟨(⟨(k : Int), (x : Int), j⟩, (c.2.1 - (u : Int), c.2.2)), cutL_mem.2 ⟨k, w, j, hw, ht2, rfl⟩, ?_⟩
      show valD R (x + u) = id c.2.2 + valD R ((c.2.1 - (u : Int)).toNat + u)
      rw [show (c.2.1 - (u : Int)).toNat + u = c.2.1.toNat by omega]
      exact q
end
end Go.AM
/-
  CutHeld, walked.
-/
namespace Go.AM
open Go.Proofs.Try
theorem dschN57 {p : Prop} (h : p := by first | exact Nat.ne_of_beq_eq_false rfl | assumption | (apply asOne; (first | exact One.int | exact One.bool | assumption | exact Ints.one (by assumption) | exact Rows.one (by assumption) | exact Own.one (by assumption) | exact One.lit ⟨rfl, rfl, rfl⟩)) | (apply asSp; (repeat first | assumption | apply SpAt.set | (refine SpAt.new ?_ (by (first | rfl | (simp only [List.length_append, List.length_cons, List.length_nil, List.length_set]; done) | (simp only [List.length_append, List.length_cons, List.length_nil, List.length_set]; omega)))) | apply SpAt.app | apply Bytes.app); done) | (apply asBytes; (repeat first | assumption | apply Bytes.app); done) | (apply asInts; (repeat first | assumption | exact ints_nil | apply Ints.app); done) | (apply asRows; (repeat first | assumption | exact Rows.nil | apply Rows.app); done) | (apply asScal; (first | apply allS1 | apply allS2 | apply allS3 | apply allS4) <;> (first | exact One.int | exact One.bool | assumption | exact Ints.one (by assumption) | exact Rows.one (by assumption) | exact Own.one (by assumption) | exact One.lit ⟨rfl, rfl, rfl⟩)) | exact litT rfl | exact litF rfl | omega | (simp only [List.length_append, List.length_cons, List.length_nil, List.length_set, List.length_reverse]; first | done | omega) | fail) : p := h
attribute [-go_sem] put_ne put_same
attribute [local go_sem ↓] put_if
theorem nqC : (binA prog BinOp.neq 4 (.bool true) (.bool true) = some (.bool false) ∧ binA prog BinOp.neq 4 (.bool true) (.bool false) = some (.bool true)) ∧ (binA prog BinOp.neq 4 (.bool false) (.bool true) = some (.bool true) ∧ binA prog BinOp.neq 4 (.bool false) (.bool false) = some (.bool false)) := ⟨⟨by kernel_rfl, by kernel_rfl⟩, by kernel_rfl, by kernel_rfl⟩
theorem Hld.le {R : Rib} (hR : RibOk R) {V : List Int} (a : Hld R V) : ∀ (n x : Nat), R.L.toNat = x + n → valD R x ≤ V.getD x 0 := by
  intro n
  induction n using Nat.strongRecOn with
  | _ n ih =>
    intro x h
    by_cases hn : n = 0
    · rw [show x = R.L.toNat by omega, valD_end (Nat.le_refl _)]; exact a.fin
    · have hx : x < R.L.toNat := by omega
      rcases valD_is hR hx with q | ⟨c, hc, q⟩
      · have := ih (n - 1) (by omega) (x + 1) (by omega)
        have := a.up x hx; omega
      · have hb := (cutL_b hR hx hc).1
        have := ih (R.L.toNat - c.2.1.toNat) (by omega) c.2.1.toNat (by omega)
        have := a.cut x hx c hc
        omega
theorem ints_rowV {H : Heap} {A ver n : Nat} {l : List Int} (hg : H[A]? = some (rowB l ver)) (hs : Small l) (hn : n = l.length) : Ints H (.slice (some ⟨A, ver, 0⟩) n n) l := by
  subst hn
  exact (Rows.own (E := encI) (e := 3) (by rw [rowE, flat_encI]; exact hg) rfl (by have := hs.1; omega)).ints hs.2
theorem stN57 {base : Nat} {l : List Oper} {s : St} {Q : AExit → St → Prop} : WP prog raw base (.region 13 l.toArray true) s Q = WPS prog raw base (.region 13 l.toArray true) s Q := WP_stop
attribute [local go_sem ↓ 3000] stN57
set_option maxRecDepth 100000 in
set_option maxHeartbeats 8000000 in
theorem run_CutHeld {base : Nat} {h : Heap} {v0 v1 : AVal} {l0 l1 : List Int} (hB0 : Bytes h v0 l0) (hB1 : Bytes h v1 l1) :
    callL prog raw base (.fn 12 [] []) [v0, v1] h = some (.bool true, h) := by
  have o0 := hB0.one
  have o1 := hB1.one
  have hw0 := run_wound (base := h.length) hB0
  obtain ⟨H0, eH0⟩ : ∃ H0, H0 = h ++ [spB v0 l0 0] := ⟨_, rfl⟩
  rw [← eH0] at hw0
  have hS : SpAt H0 h.length v0 l0 0 := by rw [eH0]; exact SpAt.new hB0 rfl
  have l00 : H0.length = h.length + 1 := by rw [eH0]; simp
  have x00 : Ext h H0 := by rw [eH0]; exact .app .refl
  obtain ⟨_, H1, e1, L, F, W, fv, wv, k1, rfl, hk1, q1, oF, oW, hR, hLA⟩ := run_LMade (base := h.length) (A := 30) (B := 8) (D := 6) (by omega) hS (by omega) (by omega) (by omega) (by omega)
  have xh1 : Ext h H1 := Ext.trans (x00.set (Nat.le_refl _)) q1
  have lH1 := xh1.len
  have ofv := oF.one
  have owv := oW.one
  obtain ⟨R, eR⟩ : ∃ R : Rib, R = ⟨L, F, W⟩ := ⟨_, rfl⟩
  rw [← eR] at hR
  have hL := hR.L
  have hnF := hR.nF
  have hnW := hR.nW
  have eL : R.L = L := by rw [eR]
  have eF : R.F = F := by rw [eR]
  have eW : R.W = W := by rw [eR]
  obtain ⟨G, eG⟩ : ∃ G, G = H1 ++ [ribB L fv wv] := ⟨_, rfl⟩
  have xG : Ext H1 G := by rw [eG]; exact .app .refl
  have gG : G[H1.length]? = some (ribB L fv wv) := by rw [eG]; exact get_eq rfl
  have hrF := hR.F
  have aG : RibAt G (.agg [.int .i64 L, fv, wv]) R := by
    refine ⟨fv, wv, by rw [eL], ?_, ?_⟩
    · rw [eF]; exact (own_ints oF ⟨by rw [← eF]; omega, fun y hy => by have := hrF y (by rw [eF]; exact hy); omega⟩).ext xG
    · rw [eW]; exact (oW.rows (by rw [← eW]; omega)).ext xG
  have hc := chkR_iff.2 hR
  have lG := xG.len
  obtain ⟨_, Z3, c3, zz, u3, rfl, oV⟩ := run_Made (base := h.length) (h := G) (by omega) aG (by omega)
  have m3 := zz.len
  have ou3 := oV.one
  have aZ := aG.ext zz
  have emv : madE R = lst (fun y => valD R y) (R.L.toNat + 1) := by unfold madE; rw [if_neg (fun q => q hc)]
  rw [hc] at c3
  rw [emv] at oV
  obtain ⟨V, eV⟩ : ∃ V, V = lst (fun y => valD R y) (R.L.toNat + 1) := ⟨_, rfl⟩
  obtain ⟨vv1, vv2⟩ := vld_val hR
  have hV := hld_val hR
  have sV := val_small hR (n := R.L.toNat + 1) (by omega)
  have Vi : ∀ i, i ≤ R.L.toNat → V.getD i 0 = valD R i := fun i hi => by rw [eV]; exact lst_get (by omega)
  have Vl : V.length = R.L.toNat + 1 := by rw [eV, lst_len]
  rw [← eV] at oV vv1 vv2 hV sV
  have iV := ownE_ints oV sV
  have dh := fun base => run_lholds (base := base) (b := true) aZ hR iV (by omega) vv2 ⟨fun _ => hV, fun _ => rfl⟩
  have xh3 : Ext h Z3 := (xh1.trans xG).trans zz
  have hB13 : Bytes Z3 v1 l1 := hB1.ext xh3
  have hw1 := run_wound (base := h.length) hB13
  obtain ⟨Z4, eZ4⟩ : ∃ Z4, Z4 = Z3 ++ [spB v1 l1 0] := ⟨_, rfl⟩
  rw [← eZ4] at hw1
  have hS1 : SpAt Z4 Z3.length v1 l1 0 := by rw [eZ4]; exact SpAt.new hB13 rfl
  have x34 : Ext Z3 Z4 := by rw [eZ4]; exact .app .refl
  have g3 := zz.get gG
  have lZ3 := xh3.len
  obtain ⟨n, en⟩ := Int.eq_ofNat_of_zero_le (show 0 ≤ L by omega)
  have en' : R.L.toNat = n := by omega
  have smL : ∀ {l : List Int}, l.length = n + 1 → (∀ y, -1 ≤ l.getD y 0 ∧ l.getD y 0 ≤ 6003) → Small l := fun {l} hl hb => ⟨by omega, fun y hy => by
    obtain ⟨m, hm⟩ := List.getElem?_of_mem hy
    have := hb m
    rw [List.getD_eq_getElem?_getD, hm] at this
    simp only [Option.getD_some] at this
    omega⟩
  unfold ribB at eG gG g3
  refine callL_run func12 rfl rfl ?_
  have hsp := @Nat.succ_ne_zero; repeat' (first | simp (disch := first | exact dschN57 | fail) only [go_sem, ↓reduceIte, hsp, hw0, e1, ← eG, gG, c3, g3, ne_eq, not_true, decide_false, eq_self, Bool.not_true, dh, hw1] | refine WP_drw ?_ | refine cnd_intro (fun hsp => ?_) fun hsp => ?_)
  refine WP_count [(4, 4), (9, 144)] 0 8 (by omega) (fun _ i fr K => fr 39 = .int .i64 (i : Int) ∧ ∃ k', k' ≤ 200 * i ∧ SpAt K Z3.length v1 l1 k' ∧ Ext Z3 K) ?_ ?_ ?_
  · exact ⟨by (simp (disch := first | exact dschN57 | fail) only [go_sem, ↓reduceIte, Int.natCast_zero]; first | done | rfl), 0, by omega, hS1, x34⟩
  · rintro i fr K hi0 hi hAg ⟨r39, k', hk', hSK, xK⟩
    have q5 := hAg 5 rfl
    have q6 := hAg 6 rfl
    have q8 := hAg 8 rfl
    try simp (disch := first | exact dschN57 | fail) only [go_sem, ↓reduceIte] at q5 q6 q8
    have hlt : ((i : Int) < 8) = True := eq_true (by omega)
    have lK := xK.len
    have lSK := lt_of_get hSK.1
    obtain ⟨dv, K1, f1, y1, oD⟩ := run_dupI (base := h.length) (h := K) (by omega) (iV.ext xK) (by omega)
    have odv := oD.one
    have k1 := y1.len
    have gK1 := y1.get (xK.get g3)
    have hrow : ∃ rid ver, dv = .slice (some ⟨rid, ver, 0⟩) (n + 1) (n + 1) ∧ K1[rid]? = some (rowB V ver) ∧ K.length ≤ rid := by
      rcases oD with (⟨_, q⟩ | ⟨rid, ver, q1, q2, q3, _⟩) | ⟨_, q⟩
      · rw [q] at Vl; simp at Vl
      · refine ⟨rid, ver, ?_, by rw [rowE, flat_encI] at q2; exact q2, q3⟩
        rw [q1, Vl, en']
      · rw [q] at Vl; simp at Vl
    obtain ⟨rid, ver, rfl, gr, hrid⟩ := hrow
    have hsp := @Nat.succ_ne_zero; repeat' (first | simp (disch := first | exact dschN57 | fail) only [go_sem, ↓reduceIte, hsp, r39, q5, q6, q8, hlt, f1, gK1] | refine WP_drw ?_ | refine cnd_intro (fun hsp => ?_) fun hsp => ?_)
    refine WP_count [(10, 10), (45, 79)] 0 (n + 1) (Nat.zero_le _) (fun _ t fr X => fr 10 = .int .i64 (L - (t : Int)) ∧ ∃ l k2, l.length = n + 1 ∧ (∀ y, -1 ≤ l.getD y 0 ∧ l.getD y 0 ≤ 6003) ∧ (∀ y, y + t < n + 1 → l.getD y 0 = V.getD y 0) ∧ k2 ≤ k' + 4 * t ∧ SpAt X Z3.length v1 l1 k2 ∧ Ext Z3 X ∧ X[rid]? = some (rowB l ver)) ?_ ?_ ?_
    · refine ⟨by simp (disch := first | exact dschN57 | fail) only [go_sem, ↓reduceIte]; simp, V, k', by omega, fun y => ?_, fun y _ => rfl, by omega, ⟨y1.get hSK.1, hSK.2.1.ext y1, hSK.2.2⟩, xK.trans y1, gr⟩
      by_cases c : y ≤ R.L.toNat
      · rw [Vi y c]
        have := valD_bd hR (x := y)
        omega
      · rw [List.getD_eq_getElem?_getD, List.getElem?_eq_none (by omega)]
        simp only [Option.getD_none]; omega
    · rintro t fr2 X ht0 ht hA2 ⟨r10, l, k2, hll, hlb, hle, hk2, hSX, xX, gX⟩
      have d4 := hA2 4 rfl
      have d5 := hA2 5 rfl
      have d6 := hA2 6 rfl
      have d8 := hA2 8 rfl
      have d9 := hA2 9 rfl
      have d39 := hA2 39 rfl
      try simp (disch := first | exact dschN57 | fail) only [go_sem, ↓reduceIte, q5, q6, q8] at d4 d5 d6 d8 d9 d39
      obtain ⟨u, eu⟩ : ∃ u, u = n - t := ⟨_, rfl⟩
      rw [show L - (t : Int) = (u : Int) by omega] at r10
      have hun : u ≤ n := by omega
      have hge : ((u : Int) ≥ 0) = True := eq_true (by omega)
      have lX := lt_of_get gX
      have lS := lt_of_get hSX.1
      have gbX := xX.get g3
      have ub1 := up_bd (silk := l1) (k := k2) (n := 4 - 1) (by omega)
      have e2 := fun base => run_once (base := base) (n := 4) hSX (by omega) (by omega)
      obtain ⟨X1, eX1⟩ : ∃ X1, X1 = X.set Z3.length (spB v1 l1 (k2 + 1)) := ⟨_, rfl⟩
      rw [← eX1] at e2
      have hS1' : SpAt X1 Z3.length v1 l1 (k2 + 1) := by rw [eX1]; exact hSX.set
      have x1 : Ext Z3 X1 := by rw [eX1]; exact xX.set (Nat.le_refl _)
      have g1 : X1[rid]? = some (rowB l ver) := by rw [eX1, List.getElem?_set_ne (by omega)]; exact gX
      have iX := ints_rowV gX (smL hll hlb) hll.symm
      have iX1 := ints_rowV g1 (smL hll hlb) hll.symm
      have hul := hlb u
      have ldu : ∀ z, ldB (some (false, z)) (some (rowB l ver)) ver u = some (.int .i64 (l.getD u 0)) := fun z => ldB_ints (by omega)
      rcases Bool.eq_false_or_eq_true (decide (up l1 k2 (4 - 1) = 0)) with qb | qb
      · rw [qb] at e2
        have ub2 := up_bd (silk := l1) (k := k2 + 1) (n := 3 - -1) (by omega)
        have e3 := fun base => run_from (base := base) (lo := -1) (hi := 3) hS1' (by omega) (by omega) (by omega)
        obtain ⟨g, eg⟩ : ∃ g, g = -1 + up l1 (k2 + 1) (3 - -1) := ⟨_, rfl⟩
        rw [← eg] at e3
        have hg : -1 ≤ g ∧ g ≤ 3 := by omega
        obtain ⟨X2, eX2⟩ : ∃ X2, X2 = X1.set Z3.length (spB v1 l1 (k2 + 1 + 1)) := ⟨_, rfl⟩
        rw [← eX2] at e3
        have hS2 : SpAt X2 Z3.length v1 l1 (k2 + 1 + 1) := by rw [eX2]; exact hS1'.set
        have x2 : Ext Z3 X2 := by rw [eX2]; exact x1.set (Nat.le_refl _)
        have g2 : X2[rid]? = some (rowB l ver) := by rw [eX2, List.getElem?_set_ne (by omega)]; exact g1
        have iX2 := ints_rowV g2 (smL hll hlb) hll.symm
        obtain ⟨l', el'⟩ : ∃ l', l' = l.set u (l.getD u 0 + g) := ⟨_, rfl⟩
        have st : ∀ (F : ABlk → Heap), stQ h.length rid (some (rowB l ver)) ver u [.int .i64 (l.getD u 0 + g)] F = some (F (rowB l' ver)) := fun F => by rw [stQ_row (by omega), el']
        obtain ⟨Y, eY⟩ : ∃ Y, Y = X2.set rid (rowB l' ver) := ⟨_, rfl⟩
        have hvu : l.getD u 0 = V.getD u 0 := hle u (by omega)
        rw [Vi u (by omega)] at hvu
        have hvb := valD_bd hR (x := u)
        have hl' : l'.length = n + 1 := by rw [el', List.length_set]; exact hll
        have hb' : ∀ y, -1 ≤ l'.getD y 0 ∧ l'.getD y 0 ≤ 6003 := fun y => by
          rw [el', getD_setD (by omega)]
          split
          · omega
          · exact hlb y
        have hn' : ∀ y, y + (t + 1) < n + 1 → l'.getD y 0 = V.getD y 0 := fun y hy => by
          rw [el', getD_setD (by omega), if_neg (by omega)]; exact hle y (by omega)
        have gY : Y[rid]? = some (rowB l' ver) := by rw [eY, List.getElem?_set_self (by rw [eX2, List.length_set, eX1, List.length_set]; exact lX)]
        have hSY : SpAt Y Z3.length v1 l1 (k2 + 1 + 1) := by
          rw [eY]
          refine hS2.set_ne (by omega) fun r n c e => ?_
          have := hB13.low r n c e
          omega
        have xY : Ext Z3 Y := by rw [eY]; exact x2.set (by omega)
        have kY : k2 + 1 + 1 ≤ k' + 4 * t + 2 := by omega
        obtain ⟨kk, ekk⟩ : ∃ kk, kk = k2 + 1 + 1 := ⟨_, rfl⟩
        rw [← ekk] at hSY kY
        have hsp := @Nat.succ_ne_zero; repeat' (first | simp (disch := first | exact dschN57 | fail) only [go_sem, ↓reduceIte, hsp, r10, d4, d5, d6, d8, d9, d39, q5, q6, q8, hge, e2] | refine WP_drw ?_ | refine cnd_intro (fun hsp => ?_) fun hsp => ?_)
        refine WPS_go ?_
        refine WP_wild [⟨3, 3, 53, ⟨rid, ver, u⟩, .int .i64 (l.getD u 0), 8⟩] (by kernel_rfl) (by kernel_rfl) (by kernel_rfl) ⟨refsLow_int, trivial⟩ fun KK hK => ?_
        iterate 9
          rw [TRS_cons]
          refine ⟨by first | (simp (disch := first | exact dschN57 | fail) only [go_sem, ↓reduceIte, r10, d4, d5, d6, d8, d9, d39, q5, q6, q8, g1, ldu, e3, g2, st, ← eY, ldsQ_cons, ldsQ_nil, grdQ_cons, grdQ_nil, if_true, Nat.reduceLeDiff]; done) | exact trivial, ?_⟩
          simp (disch := first | exact dschN57 | fail) only [go_sem, ↓reduceIte, r10, d4, d5, d6, d8, d9, d39, q5, q6, q8, g1, ldu, e3, g2, st, ← eY]
        rw [TRS_nil]
        refine ⟨by first | (simp (disch := first | exact dschN57 | fail) only [go_sem, ↓reduceIte, r10, d4, d5, d6, d8, d9, d39, q5, q6, q8, g1, ldu, e3, g2, st, ← eY, ldsQ_cons, ldsQ_nil, grdQ_cons, grdQ_nil, if_true, Nat.reduceLeDiff]; done) | exact trivial, ?_⟩
        subst hK
        have gbY := xY.get g3
        have lY := lt_of_get gY
        have iY := ints_rowV gY (smL hl' hb') hl'.symm
        by_cases cu : u < n
        · have t1 : ((u : Int) < L) = True := eq_true (by omega)
          have e4 := fun base => run_once (base := base) (n := 2) hSY (by omega) (by omega)
          obtain ⟨Y1, eY1⟩ : ∃ Y1, Y1 = Y.set Z3.length (spB v1 l1 (kk + 1)) := ⟨_, rfl⟩
          rw [← eY1] at e4
          have hS3 : SpAt Y1 Z3.length v1 l1 (kk + 1) := by rw [eY1]; exact hSY.set
          have x3 : Ext Z3 Y1 := by rw [eY1]; exact xY.set (Nat.le_refl _)
          have g4 : Y1[rid]? = some (rowB l' ver) := by rw [eY1, List.getElem?_set_ne (by omega)]; exact gY
          have iY1 := ints_rowV g4 (smL hl' hb') hl'.symm
          rcases Bool.eq_false_or_eq_true (decide (up l1 kk (2 - 1) = 0)) with qc | qc
          · rw [qc] at e4
            have la : ∀ z, ldB (some (false, z)) (some (rowB l' ver)) ver u = some (.int .i64 (l'.getD u 0)) := fun z => ldB_ints (by omega)
            have lb : ∀ z, ldB (some (false, z)) (some (rowB l' ver)) ver (u + 1) = some (.int .i64 (l'.getD (u + 1) 0)) := fun z => ldB_ints (by omega)
            have ex1 : ((u : Int) + 1).toNat = u + 1 := by omega
            obtain ⟨l2, el2⟩ : ∃ l2, l2 = l'.set u (max (l'.getD u 0) (l'.getD (u + 1) 0)) := ⟨_, rfl⟩
            have st2 : ∀ (F : ABlk → Heap), stQ h.length rid (some (rowB l' ver)) ver u [.int .i64 (max (l'.getD u 0) (l'.getD (u + 1) 0))] F = some (F (rowB l2 ver)) := fun F => by rw [stQ_row (by omega), el2]
            obtain ⟨Y2, eY2⟩ : ∃ Y2, Y2 = Y1.set rid (rowB l2 ver) := ⟨_, rfl⟩
            have p1 := hb' u
            have p2 := hb' (u + 1)
            have hsp := @Nat.succ_ne_zero; repeat' (first | simp (disch := first | exact dschN57 | fail) only [go_sem, ↓reduceIte, hsp, r10, d4, d5, d6, d8, d9, d39, q5, q6, q8, gbY, t1, e4, g4, la, lb, ex1, st2, ← eY2] | refine WP_drw ?_ | refine cnd_intro (fun hsp => ?_) fun hsp => ?_)
            refine ⟨by (repeat first | exact Agree.refl | assumption | refine Agree.put rfl ?_ | refine Agree.put0 ?_ | refine Agree.sub rfl (by assumption) ?_), by omega, l2, kk + 1, by rw [el2, List.length_set]; exact hl', fun y => ?_, fun y hy => ?_, by omega, ?_, by rw [eY2]; exact x3.set (by omega), by rw [eY2, List.getElem?_set_self (by rw [eY1, List.length_set]; exact lY)]⟩
            · rw [el2, getD_setD (by omega)]
              split
              · omega
              · exact hb' y
            · rw [el2, getD_setD (by omega), if_neg (by omega)]; exact hn' y hy
            · rw [eY2]
              refine hS3.set_ne (by omega) fun r n c e => ?_
              have := hB13.low r n c e
              omega
          · rw [qc] at e4
            have hsp := @Nat.succ_ne_zero; repeat' (first | simp (disch := first | exact dschN57 | fail) only [go_sem, ↓reduceIte, hsp, r10, d4, d5, d6, d8, d9, d39, q5, q6, q8, gbY, t1, e4] | refine WP_drw ?_ | refine cnd_intro (fun hsp => ?_) fun hsp => ?_)
            exact ⟨by (repeat first | exact Agree.refl | assumption | refine Agree.put rfl ?_ | refine Agree.put0 ?_ | refine Agree.sub rfl (by assumption) ?_), by omega, l', kk + 1, hl', hb', hn', by omega, hS3, x3, g4⟩
        · have t1 : ((u : Int) < L) = False := eq_false (by omega)
          have hsp := @Nat.succ_ne_zero; repeat' (first | simp (disch := first | exact dschN57 | fail) only [go_sem, ↓reduceIte, hsp, r10, d4, d5, d6, d8, d9, d39, q5, q6, q8, gbY, t1] | refine WP_drw ?_ | refine cnd_intro (fun hsp => ?_) fun hsp => ?_)
          exact ⟨by (repeat first | exact Agree.refl | assumption | refine Agree.put rfl ?_ | refine Agree.put0 ?_ | refine Agree.sub rfl (by assumption) ?_), by omega, l', kk, hl', hb', hn', by omega, hSY, xY, gY⟩
      · rw [qb] at e2
        obtain ⟨Y, eY⟩ : ∃ Y, Y = X1 := ⟨_, rfl⟩
        obtain ⟨l', el'⟩ : ∃ l', l' = l := ⟨_, rfl⟩
        obtain ⟨kk, ekk⟩ : ∃ kk, kk = k2 + 1 := ⟨_, rfl⟩
        have hl' : l'.length = n + 1 := by rw [el']; exact hll
        have hb' : ∀ y, -1 ≤ l'.getD y 0 ∧ l'.getD y 0 ≤ 6003 := by rw [el']; exact hlb
        have hn' : ∀ y, y + (t + 1) < n + 1 → l'.getD y 0 = V.getD y 0 := fun y hy => by rw [el']; exact hle y (by omega)
        have gY : Y[rid]? = some (rowB l' ver) := by rw [eY, el']; exact g1
        have hSY : SpAt Y Z3.length v1 l1 kk := by rw [eY, ekk]; exact hS1'
        have xY : Ext Z3 Y := by rw [eY]; exact x1
        have kY : kk ≤ k' + 4 * t + 2 := by omega
        rw [← eY] at e2
        have hsp := @Nat.succ_ne_zero; repeat' (first | simp (disch := first | exact dschN57 | fail) only [go_sem, ↓reduceIte, hsp, r10, d4, d5, d6, d8, d9, d39, q5, q6, q8, hge, e2] | refine WP_drw ?_ | refine cnd_intro (fun hsp => ?_) fun hsp => ?_)
        have gbY := xY.get g3
        have lY := lt_of_get gY
        have iY := ints_rowV gY (smL hl' hb') hl'.symm
        by_cases cu : u < n
        · have t1 : ((u : Int) < L) = True := eq_true (by omega)
          have e4 := fun base => run_once (base := base) (n := 2) hSY (by omega) (by omega)
          obtain ⟨Y1, eY1⟩ : ∃ Y1, Y1 = Y.set Z3.length (spB v1 l1 (kk + 1)) := ⟨_, rfl⟩
          rw [← eY1] at e4
          have hS3 : SpAt Y1 Z3.length v1 l1 (kk + 1) := by rw [eY1]; exact hSY.set
          have x3 : Ext Z3 Y1 := by rw [eY1]; exact xY.set (Nat.le_refl _)
          have g4 : Y1[rid]? = some (rowB l' ver) := by rw [eY1, List.getElem?_set_ne (by omega)]; exact gY
          have iY1 := ints_rowV g4 (smL hl' hb') hl'.symm
          rcases Bool.eq_false_or_eq_true (decide (up l1 kk (2 - 1) = 0)) with qc | qc
          · rw [qc] at e4
            have la : ∀ z, ldB (some (false, z)) (some (rowB l' ver)) ver u = some (.int .i64 (l'.getD u 0)) := fun z => ldB_ints (by omega)
            have lb : ∀ z, ldB (some (false, z)) (some (rowB l' ver)) ver (u + 1) = some (.int .i64 (l'.getD (u + 1) 0)) := fun z => ldB_ints (by omega)
            have ex1 : ((u : Int) + 1).toNat = u + 1 := by omega
            obtain ⟨l2, el2⟩ : ∃ l2, l2 = l'.set u (max (l'.getD u 0) (l'.getD (u + 1) 0)) := ⟨_, rfl⟩
            have st2 : ∀ (F : ABlk → Heap), stQ h.length rid (some (rowB l' ver)) ver u [.int .i64 (max (l'.getD u 0) (l'.getD (u + 1) 0))] F = some (F (rowB l2 ver)) := fun F => by rw [stQ_row (by omega), el2]
            obtain ⟨Y2, eY2⟩ : ∃ Y2, Y2 = Y1.set rid (rowB l2 ver) := ⟨_, rfl⟩
            have p1 := hb' u
            have p2 := hb' (u + 1)
            have hsp := @Nat.succ_ne_zero; repeat' (first | simp (disch := first | exact dschN57 | fail) only [go_sem, ↓reduceIte, hsp, r10, d4, d5, d6, d8, d9, d39, q5, q6, q8, gbY, t1, e4, g4, la, lb, ex1, st2, ← eY2] | refine WP_drw ?_ | refine cnd_intro (fun hsp => ?_) fun hsp => ?_)
            refine ⟨by (repeat first | exact Agree.refl | assumption | refine Agree.put rfl ?_ | refine Agree.put0 ?_ | refine Agree.sub rfl (by assumption) ?_), by omega, l2, kk + 1, by rw [el2, List.length_set]; exact hl', fun y => ?_, fun y hy => ?_, by omega, ?_, by rw [eY2]; exact x3.set (by omega), by rw [eY2, List.getElem?_set_self (by rw [eY1, List.length_set]; exact lY)]⟩
            · rw [el2, getD_setD (by omega)]
              split
              · omega
              · exact hb' y
            · rw [el2, getD_setD (by omega), if_neg (by omega)]; exact hn' y hy
            · rw [eY2]
              refine hS3.set_ne (by omega) fun r n c e => ?_
              have := hB13.low r n c e
              omega
          · rw [qc] at e4
            have hsp := @Nat.succ_ne_zero; repeat' (first | simp (disch := first | exact dschN57 | fail) only [go_sem, ↓reduceIte, hsp, r10, d4, d5, d6, d8, d9, d39, q5, q6, q8, gbY, t1, e4] | refine WP_drw ?_ | refine cnd_intro (fun hsp => ?_) fun hsp => ?_)
            exact ⟨by (repeat first | exact Agree.refl | assumption | refine Agree.put rfl ?_ | refine Agree.put0 ?_ | refine Agree.sub rfl (by assumption) ?_), by omega, l', kk + 1, hl', hb', hn', by omega, hS3, x3, g4⟩
        · have t1 : ((u : Int) < L) = False := eq_false (by omega)
          have hsp := @Nat.succ_ne_zero; repeat' (first | simp (disch := first | exact dschN57 | fail) only [go_sem, ↓reduceIte, hsp, r10, d4, d5, d6, d8, d9, d39, q5, q6, q8, gbY, t1] | refine WP_drw ?_ | refine cnd_intro (fun hsp => ?_) fun hsp => ?_)
          exact ⟨by (repeat first | exact Agree.refl | assumption | refine Agree.put rfl ?_ | refine Agree.put0 ?_ | refine Agree.sub rfl (by assumption) ?_), by omega, l', kk, hl', hb', hn', by omega, hSY, xY, gY⟩
    · rintro fr2 X hA2 ⟨r10, l, k2, hll, hlb, hle, hk2, hSX, xX, gX⟩
      have d4 := hA2 4 rfl
      have d5 := hA2 5 rfl
      have d6 := hA2 6 rfl
      have d8 := hA2 8 rfl
      have d9 := hA2 9 rfl
      have d39 := hA2 39 rfl
      try simp (disch := first | exact dschN57 | fail) only [go_sem, ↓reduceIte, q5, q6, q8] at d4 d5 d6 d8 d9 d39
      have hge : (L - ((n + 1 : Nat) : Int) ≥ 0) = False := eq_false (by omega)
      have d39 := hA2 39 rfl
      simp (disch := first | exact dschN57 | fail) only [go_sem, ↓reduceIte, r39] at d39
      have gbX := xX.get g3
      have iX : Ints X (.slice (some ⟨rid, ver, 0⟩) (n + 1) (n + 1)) l := ints_rowV gX (smL hll hlb) hll.symm
      have lB : ∀ y ∈ l, -10000 ≤ y ∧ y ≤ 10000 := fun y hy => by
        obtain ⟨m, hm⟩ := List.getElem?_of_mem hy
        have := hlb m
        rw [List.getD_eq_getElem?_getD, hm] at this
        simp only [Option.getD_some] at this
        omega
      have vl : vldE R l = 0 := by
        unfold vldE
        rw [if_neg (fun q => q hc), if_neg (fun q => q (by omega)), if_neg]
        exact fun q => q (List.all_eq_true.2 fun y hy => decide_eq_true (lB y hy))
      have ch := fun base => run_Holds (base := base) (aZ.ext xX) (by omega) iX
      have cb := fun base => run_Bound (base := base) (aZ.ext xX) (by omega) iX
      have dl := fun base => run_lholds (base := base) (b := hldB R l) (aZ.ext xX) hR iX (by omega) lB hldB_iff
      have hE : hldE R l = hldB R l := by unfold hldE; rw [decide_eq_true vl]; rfl
      rw [hE, vl] at ch
      have hnX := lenI iX
      have a0 := adrI (i := 0) (by omega) iX (by omega)
      have w0 := loadI iX (i := 0) (by omega)
      rw [show (0 : Int).toNat = 0 from rfl] at a0
      have ldX : ∀ z, ldB (some (false, z)) (X[rid]?) ver 0 = some (.int .i64 (l.getD 0 0)) := fun z => by rw [gX]; exact ldB_ints (by omega)
      have iVX := iV.ext xX
      rw [hll] at hnX
      rcases Bool.eq_false_or_eq_true (hldB R l) with qb | qb
      · rw [qb] at ch dl
        have eb : bndE R l = (l.getD 0 0, 0) := by unfold bndE; rw [if_neg (fun q => q vl), if_pos qb]
        rw [eb] at cb
        have hle2 : ∀ y, y ≤ n → V.getD y 0 ≤ l.getD y 0 := fun y hy => by
          rw [Vi y (by omega)]
          exact (hldB_iff.1 qb).le hR (R.L.toNat - y) y (by omega)
        have hsp := @Nat.succ_ne_zero; repeat' (first | simp (disch := first | exact dschN57 | fail) only [go_sem, ↓reduceIte, hsp, r10, d39, d4, d5, d6, d8, d9, d39, q5, q6, q8, hge, gbX, ch, cb, dl, ne_eq, not_true, not_false_eq_true, decide_false, decide_true, eq_self, nqC.1.1, nqC.1.2, nqC.2.1, nqC.2.2, a0, w0, hnX, ldX] | refine WP_drw ?_ | refine cnd_intro (fun hsp => ?_) fun hsp => ?_)
        refine WP_count [(4, 4), (15, 15), (128, 143)] 0 (n + 1) (Nat.zero_le _) (fun _ y fr Y => fr 128 = .int .i64 (y : Int) ∧ Y = X) ?_ ?_ ?_
        · exact ⟨by (simp (disch := first | exact dschN57 | fail) only [go_sem, ↓reduceIte, Int.natCast_zero]; first | done | rfl), rfl⟩
        · rintro y fr3 Y hy0 hy hA3 ⟨r128, rfl⟩
          have z5 := hA3 5 rfl
          have z6 := hA3 6 rfl
          have z8 := hA3 8 rfl
          have z9 := hA3 9 rfl
          have z11 := hA3 11 rfl
          have z39 := hA3 39 rfl
          have z127 := hA3 127 rfl
          try simp (disch := first | exact dschN57 | fail) only [go_sem, ↓reduceIte, d5, d6, d8, d9, d39] at z5 z6 z8 z9 z11 z39 z127
          have hlt4 : ((y : Int) < ((n + 1 : Nat) : Int)) = True := eq_true (by omega)
          have ay := adrI (i := (y : Int)) (by omega) iX (by omega)
          have av := adrI (i := (y : Int)) (by omega) iVX (by omega)
          rw [Int.toNat_natCast] at ay av
          have wy := loadI iX (i := y) (by omega)
          have wv' := loadI iVX (i := y) (by omega)
          have tl : (l.getD y 0 < V.getD y 0) = False := eq_false (by have := hle2 y (by omega); omega)
          have ldY : ∀ z, ldB (some (false, z)) (Y[rid]?) ver y = some (.int .i64 (l.getD y 0)) := fun z => by rw [gX]; exact ldB_ints (by omega)
          have hsp := @Nat.succ_ne_zero; repeat' (first | simp (disch := first | exact dschN57 | fail) only [go_sem, ↓reduceIte, hsp, r128, z5, z6, z8, z9, z11, z39, z127, d4, d5, d6, d8, d9, d39, q5, q6, q8, hlt4, ay, av, wy, ldY, wv', tl] | refine WP_drw ?_ | refine cnd_intro (fun hsp => ?_) fun hsp => ?_)
          exact ⟨by (repeat first | exact Agree.refl | assumption | refine Agree.put rfl ?_ | refine Agree.put0 ?_ | refine Agree.sub rfl (by assumption) ?_), by omega⟩
        · rintro fr3 Y hA3 ⟨r128, rfl⟩
          have z5 := hA3 5 rfl
          have z6 := hA3 6 rfl
          have z8 := hA3 8 rfl
          have z9 := hA3 9 rfl
          have z11 := hA3 11 rfl
          have z39 := hA3 39 rfl
          have z127 := hA3 127 rfl
          try simp (disch := first | exact dschN57 | fail) only [go_sem, ↓reduceIte, d5, d6, d8, d9, d39] at z5 z6 z8 z9 z11 z39 z127
          have hlt4 : (((n + 1 : Nat) : Int) < ((n + 1 : Nat) : Int)) = False := eq_false (by omega)
          have z39 := hA3 39 rfl
          simp (disch := first | exact dschN57 | fail) only [go_sem, ↓reduceIte, d39] at z39
          have hsp := @Nat.succ_ne_zero; repeat' (first | simp (disch := first | exact dschN57 | fail) only [go_sem, ↓reduceIte, hsp, r128, z39, z5, z6, z8, z9, z11, z39, z127, d4, d5, d6, d8, d9, d39, q5, q6, q8, hlt4] | refine WP_drw ?_ | refine cnd_intro (fun hsp => ?_) fun hsp => ?_)
          exact ⟨by (repeat first | exact Agree.refl | assumption | refine Agree.put rfl ?_ | refine Agree.put0 ?_ | refine Agree.sub rfl (by assumption) ?_), by omega, k2, by omega, hSX, xX⟩
      · rw [qb] at ch dl
        have eb : bndE R l = (0, 8) := by unfold bndE; rw [if_neg (fun q => q vl), if_neg (by rw [qb]; simp)]
        rw [eb] at cb
        have hsp := @Nat.succ_ne_zero; repeat' (first | simp (disch := first | exact dschN57 | fail) only [go_sem, ↓reduceIte, hsp, r10, d39, d4, d5, d6, d8, d9, d39, q5, q6, q8, hge, gbX, ch, cb, dl, ne_eq, not_true, not_false_eq_true, decide_false, decide_true, eq_self, nqC.1.1, nqC.1.2, nqC.2.1, nqC.2.2, hnX] | refine WP_drw ?_ | refine cnd_intro (fun hsp => ?_) fun hsp => ?_)
        refine WP_count [(4, 4), (15, 15), (128, 143)] 0 (n + 1) (Nat.zero_le _) (fun _ y fr Y => fr 128 = .int .i64 (y : Int) ∧ Y = X) ?_ ?_ ?_
        · exact ⟨by (simp (disch := first | exact dschN57 | fail) only [go_sem, ↓reduceIte, Int.natCast_zero]; first | done | rfl), rfl⟩
        · rintro y fr3 Y hy0 hy hA3 ⟨r128, rfl⟩
          have z5 := hA3 5 rfl
          have z6 := hA3 6 rfl
          have z8 := hA3 8 rfl
          have z9 := hA3 9 rfl
          have z11 := hA3 11 rfl
          have z39 := hA3 39 rfl
          have z127 := hA3 127 rfl
          try simp (disch := first | exact dschN57 | fail) only [go_sem, ↓reduceIte, d5, d6, d8, d9, d39] at z5 z6 z8 z9 z11 z39 z127
          have hlt4 : ((y : Int) < ((n + 1 : Nat) : Int)) = True := eq_true (by omega)
          have hsp := @Nat.succ_ne_zero; repeat' (first | simp (disch := first | exact dschN57 | fail) only [go_sem, ↓reduceIte, hsp, r128, z5, z6, z8, z9, z11, z39, z127, d4, d5, d6, d8, d9, d39, q5, q6, q8, hlt4] | refine WP_drw ?_ | refine cnd_intro (fun hsp => ?_) fun hsp => ?_)
          exact ⟨by (repeat first | exact Agree.refl | assumption | refine Agree.put rfl ?_ | refine Agree.put0 ?_ | refine Agree.sub rfl (by assumption) ?_), by omega⟩
        · rintro fr3 Y hA3 ⟨r128, rfl⟩
          have z5 := hA3 5 rfl
          have z6 := hA3 6 rfl
          have z8 := hA3 8 rfl
          have z9 := hA3 9 rfl
          have z11 := hA3 11 rfl
          have z39 := hA3 39 rfl
          have z127 := hA3 127 rfl
          try simp (disch := first | exact dschN57 | fail) only [go_sem, ↓reduceIte, d5, d6, d8, d9, d39] at z5 z6 z8 z9 z11 z39 z127
          have hlt4 : (((n + 1 : Nat) : Int) < ((n + 1 : Nat) : Int)) = False := eq_false (by omega)
          have z39 := hA3 39 rfl
          simp (disch := first | exact dschN57 | fail) only [go_sem, ↓reduceIte, d39] at z39
          have hsp := @Nat.succ_ne_zero; repeat' (first | simp (disch := first | exact dschN57 | fail) only [go_sem, ↓reduceIte, hsp, r128, z39, z5, z6, z8, z9, z11, z39, z127, d4, d5, d6, d8, d9, d39, q5, q6, q8, hlt4] | refine WP_drw ?_ | refine cnd_intro (fun hsp => ?_) fun hsp => ?_)
          exact ⟨by (repeat first | exact Agree.refl | assumption | refine Agree.put rfl ?_ | refine Agree.put0 ?_ | refine Agree.sub rfl (by assumption) ?_), by omega, k2, by omega, hSX, xX⟩
  · rintro fr K hAg ⟨r39, k', hk', hSK, xK⟩
    have q5 := hAg 5 rfl
    have q6 := hAg 6 rfl
    have q8 := hAg 8 rfl
    try simp (disch := first | exact dschN57 | fail) only [go_sem, ↓reduceIte] at q5 q6 q8
    have hlt : ((8 : Int) < 8) = False := eq_false (by omega)
    have gK := xK.get g3
    have e9 := fun base => run_upto (base := base) (n := L - 1) hSK (by omega) (by omega)
    have b9 := up_bd (silk := l1) (k := k') (n := L - 1) (by omega)
    obtain ⟨u, eu⟩ := Int.eq_ofNat_of_zero_le b9.1
    rw [eu] at e9 b9
    obtain ⟨K1, eK1⟩ : ∃ K1, K1 = K.set Z3.length (spB v1 l1 (k' + 1)) := ⟨_, rfl⟩
    rw [← eK1] at e9
    have xK1 : Ext Z3 K1 := by rw [eK1]; exact xK.set (Nat.le_refl _)
    have gK1 := xK1.get g3
    have lK1 := xK1.len
    obtain ⟨fv', wv', eqv, iF, iW⟩ := aG
    simp only [AVal.agg.injEq, List.cons.injEq, and_true] at eqv
    obtain ⟨-, rfl, rfl⟩ := eqv
    have hu : u < R.L.toNat := by omega
    have hT := hR.tl hu
    obtain ⟨T0, eT0⟩ : ∃ T0, T0 = K1 ++ [ribB (L - (u : Int)) (.slice none 0 0) wv] := ⟨_, rfl⟩
    have xT0 : Ext K1 T0 := by rw [eT0]; exact .app .refl
    have lT0 : T0.length = K1.length + 1 := by rw [eT0]; simp
    have gT0 : T0[K1.length]? = some (ribB (L - (u : Int)) (.slice none 0 0) wv) := by rw [eT0]; exact get_eq rfl
    have gR0 := xT0.get gK1
    have iF0 := iF.ext (zz.trans (xK1.trans xT0))
    have hnF0 := lenI iF0
    have obx := iW.one
    unfold ribB at eT0
    have hsp := @Nat.succ_ne_zero; repeat' (first | simp (disch := first | exact dschN57 | fail) only [go_sem, ↓reduceIte, hsp, r39, q5, q6, q8, hlt, gK, e9, gK1, ← eT0, gR0, hnF0] | refine WP_drw ?_ | refine cnd_intro (fun hsp => ?_) fun hsp => ?_)
    refine WP_count [(19, 19), (160, 175)] 0 R.F.length (Nat.zero_le _) (fun _ i fr X => fr 160 = .int .i64 (i : Int) ∧ Ext K1 X ∧ K1.length + 1 ≤ X.length ∧ ∃ w, X[K1.length]? = some (ribB (L - (u : Int)) w wv) ∧ Own encI 3 (K1.length + 1) X w (((R.F.take i).filter fun y => decide ((u : Int) ≤ y)).map (· - (u : Int)))) ?_ ?_ ?_
    · exact ⟨by (simp (disch := first | exact dschN57 | fail) only [go_sem, ↓reduceIte, Int.natCast_zero]; first | done | rfl), xT0, by omega, .slice none 0 0, gT0, Own.nil⟩
    · rintro i fr2 X hi0 hi hA2 ⟨r160, xX, lX, w, gX, oX⟩
      have d4 := hA2 4 rfl
      have d6 := hA2 6 rfl
      have d16 := hA2 16 rfl
      have d17 := hA2 17 rfl
      have d158 := hA2 158 rfl
      have d159 := hA2 159 rfl
      try simp (disch := first | exact dschN57 | fail) only [go_sem, ↓reduceIte, q6] at d4 d6 d16 d17 d158 d159
      have hlt6 : ((i : Int) < (R.F.length : Int)) = True := eq_true (by omega)
      have ow := oX.one
      have iFX := iF.ext (zz.trans (xK1.trans xX))
      have ai := adrI (i := (i : Int)) (by omega) iFX (by omega)
      rw [Int.toNat_natCast] at ai
      have li := loadI iFX hi
      have hfb := hrF _ (getD_mem' (l := R.F) (d := 0) hi)
      have hlen : (((R.F.take i).filter fun y => decide ((u : Int) ≤ y)).map (· - (u : Int))).length ≤ i := by
        rw [List.length_map]
        exact Nat.le_trans (List.length_filter_le _ _) (by rw [List.length_take]; omega)
      have htk : ((R.F.take (i + 1)).filter fun y => decide ((u : Int) ≤ y)).map (· - (u : Int)) = ((R.F.take i).filter fun y => decide ((u : Int) ≤ y)).map (· - (u : Int)) ++ if (u : Int) ≤ R.F.getD i 0 then [R.F.getD i 0 - (u : Int)] else [] := by
        rw [take_succD hi, List.filter_append, List.filter_cons, List.filter_nil, List.map_append]
        by_cases c : (u : Int) ≤ R.F.getD i 0
        · rw [decide_eq_true c, if_pos rfl, if_pos c]; rfl
        · rw [decide_eq_false c, if_neg (by simp), if_neg c]; rfl
      obtain ⟨y, ey⟩ : ∃ y, y = R.F.getD i 0 := ⟨_, rfl⟩
      rw [← ey] at li htk hfb
      have gX' := gX
      unfold ribB at gX'
      by_cases c : (u : Int) ≤ y
      · have t1 : (y ≥ (u : Int)) = True := eq_true c
        rw [if_pos c] at htk
        obtain ⟨w', X2, ea, oW', lW, eW2, oneW, kW⟩ := oX.append1X (P := prog) (y := y - (u : Int)) (a := .int .i64 (y - (u : Int))) (base := h.length) (t := 22) rfl rfl Fc.el22 encI_sc (by omega) (by omega) (by omega)
        have kW : KeepO encI 3 X X2 := kW
        have gX2 := kW.box gX'
        have hsp := @Nat.succ_ne_zero; repeat' (first | simp (disch := first | exact dschN57 | fail) only [go_sem, ↓reduceIte, hsp, r160, d4, d6, d16, d17, d158, d159, q5, q6, q8, hlt6, ai, li, t1, gX', ea, gX2] | refine WP_drw ?_ | refine cnd_intro (fun hsp => ?_) fun hsp => ?_)
        exact ⟨by (repeat first | exact Agree.refl | assumption | refine Agree.put rfl ?_ | refine Agree.put0 ?_ | refine Agree.sub rfl (by assumption) ?_), by omega, (eW2 K1 (by omega) xX).set (by omega), by omega, w', rfl, by rw [htk]; exact oW'.setBox gX2⟩
      · have t1 : (y ≥ (u : Int)) = False := eq_false c
        rw [if_neg c, List.append_nil] at htk
        have hsp := @Nat.succ_ne_zero; repeat' (first | simp (disch := first | exact dschN57 | fail) only [go_sem, ↓reduceIte, hsp, r160, d4, d6, d16, d17, d158, d159, q5, q6, q8, hlt6, ai, li, t1] | refine WP_drw ?_ | refine cnd_intro (fun hsp => ?_) fun hsp => ?_)
        exact ⟨by (repeat first | exact Agree.refl | assumption | refine Agree.put rfl ?_ | refine Agree.put0 ?_ | refine Agree.sub rfl (by assumption) ?_), by omega, xX, lX, w, gX, by rw [htk]; exact oX⟩
    · rintro fr2 X hA2 ⟨r160, xX, lX, w, gX, oX⟩
      have d4 := hA2 4 rfl
      have d6 := hA2 6 rfl
      have d16 := hA2 16 rfl
      have d17 := hA2 17 rfl
      have d158 := hA2 158 rfl
      have d159 := hA2 159 rfl
      try simp (disch := first | exact dschN57 | fail) only [go_sem, ↓reduceIte, q6] at d4 d6 d16 d17 d158 d159
      have hlt6 : ((R.F.length : Int) < (R.F.length : Int)) = False := eq_false (by omega)
      rw [List.take_length] at oX
      have ow := oX.one
      have xZX := xK1.trans xX
      have hTF := hT.F
      have aT : RibAt X (.agg [.int .i64 (L - (u : Int)), w, wv]) (tlR R u) := by
        refine ⟨w, wv, by rw [← eL]; rfl, ?_, iW.ext (zz.trans xZX)⟩
        show Ints X w (tlR R u).F
        exact own_ints oX ⟨by have := hT.nF; show (tlR R u).F.length < _; omega, fun y hy => by have := hTF y hy; have := hT.L; omega⟩
      obtain ⟨_, X2, m1', yy, ur, rfl, oT⟩ := run_Made (base := h.length) (h := X) (by omega) aT (by have := hT.nF; omega)
      rw [chkR_iff.2 hT] at m1'
      have our := oT.one
      have emT : madE (tlR R u) = V.drop u := by
        unfold madE
        rw [if_neg (fun q => q (chkR_iff.2 hT)), tlR_len hu]
        refine List.ext_getElem? fun i => ?_
        rw [List.getElem?_drop, eV]
        by_cases c : i < R.L.toNat - u + 1
        · have h1 := getD_some (l := lst (fun y => valD (tlR R u) y) (R.L.toNat - u + 1)) (d := 0) (i := i) (by rw [lst_len]; exact c)
          have h2 := getD_some (l := lst (fun y => valD R y) (R.L.toNat + 1)) (d := 0) (i := u + i) (by rw [lst_len]; omega)
          rw [h1, h2, lst_get c, lst_get (by omega), valD_tl hR hu (by omega), Nat.add_comm]
        · rw [List.getElem?_eq_none (by rw [lst_len]; omega), List.getElem?_eq_none (by rw [lst_len]; omega)]
      rw [emT] at oT
      have xf := xZX.trans yy
      have sD : Small (V.drop u) := ⟨by rw [List.length_drop]; have := sV.1; omega, fun y hy => sV.2 y (List.mem_of_mem_drop hy)⟩
      have iT := ownE_ints oT sD
      have gXs := xf.get g3
      have haw := fun base => run_awake (base := base) (h := X2)
      unfold ribB at gX
      have iVX := iV.ext xf
      have sl := sl_lo (P := prog) Fc.el22 Fc.ar22 (m := (u : Int)) (by omega) iVX (by omega)
      rw [Int.toNat_natCast] at sl
      have iS := iVX.slc (lo := u) (hi := V.length) (by omega) (Nat.le_refl _)
      rw [List.take_length] at iS
      have oS : One (slcV u3 u V.length) := iS.one
      have eqc := fun base => run_eqI (base := base) iT iS
      rw [decide_eq_true rfl] at eqc
      have hsp := @Nat.succ_ne_zero; repeat' (first | simp (disch := first | exact dschN57 | fail) only [go_sem, ↓reduceIte, hsp, r160, d4, d6, d16, d17, d158, d159, q5, q6, q8, hlt6, gX, m1', eq_self, decide_true, sl, eqc, haw] | refine WP_drw ?_ | refine cnd_intro (fun hsp => ?_) fun hsp => ?_)
      exact fB rfl (xh3.trans xf)
end Go.AM
