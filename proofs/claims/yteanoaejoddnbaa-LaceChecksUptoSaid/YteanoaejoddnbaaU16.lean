/-
  The reference: the error of a chain (Check).
-/
import Derived.Test.YteanoaejoddnbaaU15
import Derived.Test.YteanoaejoddnbaaU9
set_option linter.unusedSimpArgs false
set_option linter.unusedVariables false
namespace Go.AM
open Go.Proofs.Try
theorem dschL57 {p : Prop} (h : p := by first | exact Nat.ne_of_beq_eq_false rfl | assumption | (apply asOne; (first | exact One.int | exact One.bool | assumption | exact Ints.one (by assumption) | exact Rows.one (by assumption) | exact Own.one (by assumption) | exact One.lit ⟨rfl, rfl, rfl⟩)) | (apply asInts; (repeat first | assumption | exact ints_nil | apply Ints.app); done) | (apply asRows; (repeat first | assumption | exact Rows.nil | apply Rows.app); done) | (apply asScal; (first | apply allS1 | apply allS2 | apply allS3 | apply allS4) <;> (first | exact One.int | exact One.bool | assumption | exact Ints.one (by assumption) | exact Rows.one (by assumption) | exact Own.one (by assumption) | exact One.lit ⟨rfl, rfl, rfl⟩)) | exact litT rfl | exact litF rfl | omega | (simp only [List.length_append, List.length_cons, List.length_nil, List.length_set, List.length_reverse]; first | done | omega) | fail) : p := h
attribute [-go_sem] put_ne put_same
attribute [local go_sem ↓] put_if
abbrev rcB (T : Int) (cv rv : AVal) : ABlk := ⟨.cells [.int .i64 T, cv, rv] 49 false false, 0⟩
abbrev rrB (r : Rw3) : ABlk := ⟨.cells [.int .i64 r.1, .int .i64 r.2.1, .int .i64 r.2.2] 79 false false, 0⟩
section
variable {h : Heap} {rv : AVal} {R : List Rw3} {i : Nat} {r : Rw3}
theorem rrow_ad (hR : Rows encR h rv R) (hi : i < R.length) : indexAddrA prog 47 rv (.int .i64 (i : Int)) = some (elAdr rv encR.z i 0) := by
  have := hR.addr (P := prog) (i := (i : Int)) Fc.el47 Fc.ar47 (by omega) (by omega)
  rwa [Int.toNat_natCast] at this
theorem rrow_f0 (hR : Rows encR h rv R) (hi : i < R.length) : fieldAddrA prog 79 (elAdr rv encR.z i 0) 0 = some (elAdr rv encR.z i 0) := elAdr_field (P := prog) (i := i) (o := 0) (off := 0) (q := false) (n := 1) hR hi (by kernel_rfl) (by decide)
theorem rrow_f1 (hR : Rows encR h rv R) (hi : i < R.length) : fieldAddrA prog 79 (elAdr rv encR.z i 0) 1 = some (elAdr rv encR.z i 1) := elAdr_field (P := prog) (i := i) (o := 0) (off := 1) (q := false) (n := 1) hR hi (by kernel_rfl) (by decide)
theorem rrow_c0 (hR : Rows encR h rv R) (hx : R[i]? = some r) : loadP prog h 3 (elAdr rv encR.z i 0) = some (.int .i64 r.1) := hR.cell (P := prog) Fc.ty3 hx (o := 0) (a := .int .i64 r.1) rfl
theorem rrow_c1 (hR : Rows encR h rv R) (hx : R[i]? = some r) : loadP prog h 3 (elAdr rv encR.z i 1) = some (.int .i64 r.2.1) := hR.cell (P := prog) Fc.ty3 hx (o := 1) (a := .int .i64 r.2.1) rfl
theorem rrow_ld (hR : Rows encR h rv R) (hx : R[i]? = some r) : loadP prog h 79 (elAdr rv encR.z i 0) = some (.agg [.int .i64 r.1, .int .i64 r.2.1, .int .i64 r.2.2]) := hR.load (P := prog) Fc.ty79 hx
end
theorem setB_off {T x : Int} : (!decide (0 ≤ x ∧ x ≤ 2 ^ T.toNat - 1)) = !setB T x := rfl
set_option maxRecDepth 100000 in
set_option maxHeartbeats 4000000 in
theorem run_rcheck {base : Nat} {h : Heap} {v : AVal} {L : Lac} (hL : LacAt h v L) (hcl : L.C.length ≤ 1000) (hrl : L.R.length ≤ 1000) : callL prog raw base (.fn 33 [] []) [v] h = some (.int .i64 (chkL L), h) := by
  obtain ⟨cv, rv, rfl, hC, hR⟩ := hL
  have o1 := hC.one
  have o2 := hR.one
  obtain ⟨G, eG⟩ : ∃ G, G = h ++ [rcB L.T cv rv] := ⟨_, rfl⟩
  have xG : Ext h G := by rw [eG]; exact .app .refl
  have g0 : G[h.length]? = some (rcB L.T cv rv) := by rw [eG]; exact get_eq rfl
  have iC := hC.ext xG
  have iR := hR.ext xG
  have hn1 := lenI iC
  have hn2 := iR.len (P := prog) Fc.el47
  have of0 := fun base => run_off (base := base) (h := G) (n := L.T) (lo := 1) (hi := 8)
  unfold rcB at eG g0
  refine callL_run func33 rfl rfl ?_
  by_cases c0 : 1 ≤ L.T ∧ L.T ≤ 8
  · rw [decide_eq_true c0] at of0
    have of1 := fun base => run_off (base := base) (h := G) (n := (L.C.length : Int)) (lo := 1) (hi := 7)
    by_cases c1 : 1 ≤ (L.C.length : Int) ∧ (L.C.length : Int) ≤ 7
    · rw [decide_eq_true c1] at of1
      by_cases c2 : (L.R.length : Int) > 12
      · have t2 : ((L.R.length : Int) > 12) = True := eq_true c2
        have hsp := @Nat.succ_ne_zero; repeat' (first | simp (disch := first | exact dschL57 | fail) only [go_sem, ↓reduceIte, hsp, ← eG, g0, of0, Bool.not_true, hn1, of1, hn2, t2] | refine WP_drw ?_ | refine cnd_intro (fun hsp => ?_) fun hsp => ?_)
        refine fI ?_ xG
        unfold chkL
        rw [if_neg (by simpa using c0), if_pos (.inr c2)]
      · have t2 : ((L.R.length : Int) > 12) = False := eq_false c2
        have u2 : ¬ (¬ (1 ≤ (L.C.length : Int) ∧ (L.C.length : Int) ≤ 7) ∨ (L.R.length : Int) > 12) := by omega
        have u0 : ¬ ¬ (1 ≤ L.T ∧ L.T ≤ 8) := fun q => q c0
        obtain ⟨T, eT⟩ := Int.eq_ofNat_of_zero_le (show 0 ≤ L.T by omega)
        have hs := fun base => run_sets (base := base) (T := T) (h := G) (by omega)
        obtain ⟨W, eW⟩ : ∃ W : Int, W = 2 ^ L.T.toNat - 1 := ⟨_, rfl⟩
        have hW : ((2 ^ T : Nat) : Int) - 1 = W := by rw [eW, eT, Int.toNat_natCast]; simp
        have hp : 2 ^ T ≤ 2 ^ 8 := Nat.pow_le_pow_right (by decide) (by omega)
        have hp1 := Nat.one_le_two_pow (n := T)
        have hsb : ∀ x, setB L.T x = decide (0 ≤ x ∧ x ≤ W) := fun x => by rw [eW]; rfl
        obtain ⟨P2, eP2⟩ : ∃ P2, P2 = 2 ^ T := ⟨_, rfl⟩
        rw [← eP2] at hs hW hp hp1
        rw [← eT] at hs
        have hsp := @Nat.succ_ne_zero; repeat' (first | simp (disch := first | exact dschL57 | fail) only [go_sem, ↓reduceIte, hsp, ← eG, g0, of0, Bool.not_true, hn1, of1, hn2, t2, hs, hW] | refine WP_drw ?_ | refine cnd_intro (fun hsp => ?_) fun hsp => ?_)
        refine WP_count [(2, 2), (4, 41)] 0 L.C.length (Nat.zero_le _) (fun _ i fr H => fr 4 = .int .i64 (i : Int) ∧ H = G ∧ (L.C.take i).all (setB L.T) = true) ?_ ?_ ?_
        · exact ⟨by (simp (disch := first | exact dschL57 | fail) only [go_sem, ↓reduceIte, Int.natCast_zero]; first | done | rfl), rfl, by simp⟩
        · rintro i fr H hi0 hi hA ⟨r4, rfl, ha⟩
          have q1 := hA 1 rfl
          have q3 := hA 3 rfl
          try simp (disch := first | exact dschL57 | fail) only [go_sem, ↓reduceIte] at q1 q3
          have hlt : ((i : Int) < (L.C.length : Int)) = True := eq_true (by omega)
          have ai := adrI (i := (i : Int)) (by omega) iC (by omega)
          rw [Int.toNat_natCast] at ai
          have li := loadI iC hi
          have hx : L.C[i]? = some (L.C.getD i 0) := getD_some hi
          have ho := fun base => run_off (base := base) (h := H) (n := L.C.getD i 0) (lo := 0) (hi := W)
          rw [← hsb] at ho
          cases d : setB L.T (L.C.getD i 0) with
          | true =>
            rw [d] at ho
            have hsp := @Nat.succ_ne_zero; repeat' (first | simp (disch := first | exact dschL57 | fail) only [go_sem, ↓reduceIte, hsp, r4, q1, q3, g0, hn1, hlt, ai, li, ho, Bool.not_true] | refine WP_drw ?_ | refine cnd_intro (fun hsp => ?_) fun hsp => ?_)
            exact ⟨by (repeat first | exact Agree.refl | assumption | refine Agree.put rfl ?_ | refine Agree.put0 ?_ | refine Agree.sub rfl (by assumption) ?_), by omega, all_take hx ha d⟩
          | false =>
            rw [d] at ho
            have hsp := @Nat.succ_ne_zero; repeat' (first | simp (disch := first | exact dschL57 | fail) only [go_sem, ↓reduceIte, hsp, r4, q1, q3, g0, hn1, hlt, ai, li, ho, Bool.not_false] | refine WP_drw ?_ | refine cnd_intro (fun hsp => ?_) fun hsp => ?_)
            refine fI ?_ xG
            unfold chkL
            rw [if_neg u0, if_neg u2, if_pos (.inl (by rw [all_no hx d]; simp))]
        · rintro fr H hA ⟨r4, rfl, ha⟩
          have q1 := hA 1 rfl
          have q3 := hA 3 rfl
          try simp (disch := first | exact dschL57 | fail) only [go_sem, ↓reduceIte] at q1 q3
          have hlt : ((L.C.length : Int) < (L.C.length : Int)) = False := eq_false (by omega)
          rw [List.take_length] at ha
          have hsp := @Nat.succ_ne_zero; repeat' (first | simp (disch := first | exact dschL57 | fail) only [go_sem, ↓reduceIte, hsp, r4, q1, q3, g0, hn1, hlt] | refine WP_drw ?_ | refine cnd_intro (fun hsp => ?_) fun hsp => ?_)
          refine WP_count [(2, 2), (5, 65)] 0 L.R.length (Nat.zero_le _) (fun _ i fr K => fr 5 = .int .i64 (i : Int) ∧ K = H ∧ (L.R.take i).all (fun r => decide (0 ≤ r.1 ∧ r.1 ≤ 999) && setB L.T r.2.1) = true) ?_ ?_ ?_
          · exact ⟨by (simp (disch := first | exact dschL57 | fail) only [go_sem, ↓reduceIte, Int.natCast_zero]; first | done | rfl), rfl, by simp⟩
          · rintro i fr2 K hi0 hi hA2 ⟨r5, rfl, ha2⟩
            have d1 := hA2 1 rfl
            have d3 := hA2 3 rfl
            try simp (disch := first | exact dschL57 | fail) only [go_sem, ↓reduceIte, q1, q3] at d1 d3
            have hlt2 : ((i : Int) < (L.R.length : Int)) = True := eq_true (by omega)
            obtain ⟨r, er⟩ : ∃ r, r = L.R[i] := ⟨_, rfl⟩
            have hx : L.R[i]? = some r := by rw [er]; exact List.getElem?_eq_getElem hi
            have a1 := rrow_ad iR hi
            have a2 := rrow_f0 iR hi
            have a3 := rrow_f1 iR hi
            have b1 := rrow_c0 iR hx
            have b2 := rrow_c1 iR hx
            have h1 := fun base => run_off (base := base) (h := K) (n := r.1) (lo := 0) (hi := 999)
            have h2 := fun base => run_off (base := base) (h := K) (n := r.2.1) (lo := 0) (hi := W)
            rw [← hsb] at h2
            cases w1 : decide (0 ≤ r.1 ∧ r.1 ≤ 999) with
            | false =>
              rw [w1] at h1
              have hsp := @Nat.succ_ne_zero; repeat' (first | simp (disch := first | exact dschL57 | fail) only [go_sem, ↓reduceIte, hsp, r5, d1, d3, q1, q3, g0, hn2, hlt2, a1, a2, b1, h1, Bool.not_false] | refine WP_drw ?_ | refine cnd_intro (fun hsp => ?_) fun hsp => ?_)
              refine fI ?_ xG
              unfold chkL
              rw [if_neg u0, if_neg u2, if_pos (.inr (by rw [all_no hx (by rw [w1]; rfl)]; simp))]
            | true =>
              rw [w1] at h1
              cases w2 : setB L.T r.2.1 with
              | false =>
                rw [w2] at h2
                have hsp := @Nat.succ_ne_zero; repeat' (first | simp (disch := first | exact dschL57 | fail) only [go_sem, ↓reduceIte, hsp, r5, d1, d3, q1, q3, g0, hn2, hlt2, a1, a2, a3, b1, b2, h1, h2, Bool.not_true, Bool.not_false] | refine WP_drw ?_ | refine cnd_intro (fun hsp => ?_) fun hsp => ?_)
                refine fI ?_ xG
                unfold chkL
                rw [if_neg u0, if_neg u2, if_pos (.inr (by rw [all_no hx (by rw [w1, w2]; rfl)]; simp))]
              | true =>
                rw [w2] at h2
                have hsp := @Nat.succ_ne_zero; repeat' (first | simp (disch := first | exact dschL57 | fail) only [go_sem, ↓reduceIte, hsp, r5, d1, d3, q1, q3, g0, hn2, hlt2, a1, a2, a3, b1, b2, h1, h2, Bool.not_true] | refine WP_drw ?_ | refine cnd_intro (fun hsp => ?_) fun hsp => ?_)
                exact ⟨by (repeat first | exact Agree.refl | assumption | refine Agree.put rfl ?_ | refine Agree.put0 ?_ | refine Agree.sub rfl (by assumption) ?_), by omega, all_take hx ha2 (by rw [w1, w2]; rfl)⟩
          · rintro fr2 K hA2 ⟨r5, rfl, ha2⟩
            have d1 := hA2 1 rfl
            have d3 := hA2 3 rfl
            try simp (disch := first | exact dschL57 | fail) only [go_sem, ↓reduceIte, q1, q3] at d1 d3
            have hlt2 : ((L.R.length : Int) < (L.R.length : Int)) = False := eq_false (by omega)
            rw [List.take_length] at ha2
            have u3 : ¬ (¬ (L.C.all (setB L.T)) = true ∨ ¬ (L.R.all fun r => decide (0 ≤ r.1 ∧ r.1 ≤ 999) && setB L.T r.2.1) = true) := by rw [ha, ha2]; simp
            have hsp := @Nat.succ_ne_zero; repeat' (first | simp (disch := first | exact dschL57 | fail) only [go_sem, ↓reduceIte, hsp, r5, d1, d3, q1, q3, g0, hn2, hlt2] | refine WP_drw ?_ | refine cnd_intro (fun hsp => ?_) fun hsp => ?_)
            refine WP_count [(2, 2), (6, 98)] 0 L.R.length (Nat.zero_le _) (fun _ i fr K2 => fr 6 = .int .i64 (i : Int) ∧ Ext K K2 ∧ (L.R.take i).all (fun r => setB L.T r.2.2 && subB r.2.2 r.2.1) = true) ?_ ?_ ?_
            · exact ⟨by (simp (disch := first | exact dschL57 | fail) only [go_sem, ↓reduceIte, Int.natCast_zero]; first | done | rfl), .refl, by simp⟩
            · rintro i fr3 K2 hi0 hi hA3 ⟨r6, xK, ha3⟩
              have z1 := hA3 1 rfl
              have z3 := hA3 3 rfl
              try simp (disch := first | exact dschL57 | fail) only [go_sem, ↓reduceIte, d1, d3] at z1 z3
              have hlt3 : ((i : Int) < (L.R.length : Int)) = True := eq_true (by omega)
              obtain ⟨r, er⟩ : ∃ r, r = L.R[i] := ⟨_, rfl⟩
              have hx : L.R[i]? = some r := by rw [er]; exact List.getElem?_eq_getElem hi
              have hmk := List.all_eq_true.1 ha2 r (List.mem_of_getElem? hx)
              rw [Bool.and_eq_true, hsb, decide_eq_true_eq, decide_eq_true_eq] at hmk
              have iR2 := iR.ext xK
              have a1 := rrow_ad iR2 hi
              have b1 := rrow_ld iR2 hx
              have hn2' := iR2.len (P := prog) Fc.el47
              have g2 := xK.get g0
              obtain ⟨K3, eK3⟩ : ∃ K3, K3 = K2 ++ [rrB r] := ⟨_, rfl⟩
              have x3 : Ext K2 K3 := by rw [eK3]; exact .app .refl
              have g3 : K3[K2.length]? = some (rrB r) := by rw [eK3]; exact get_eq rfl
              have g03 := x3.get g2
              have h1 := fun base => run_off (base := base) (h := K3) (n := r.2.2) (lo := 0) (hi := W)
              rw [← hsb] at h1
              have xf := (xG.trans xK).trans x3
              have lK2 := (xG.trans xK).len
              unfold rrB at eK3 g3
              cases w1 : setB L.T r.2.2 with
              | false =>
                rw [w1] at h1
                have hsp := @Nat.succ_ne_zero; repeat' (first | simp (disch := first | exact dschL57 | fail) only [go_sem, ↓reduceIte, hsp, r6, z1, z3, d1, d3, q1, q3, g2, hn2', hlt3, a1, b1, ← eK3, g3, h1, Bool.not_false] | refine WP_drw ?_ | refine cnd_intro (fun hsp => ?_) fun hsp => ?_)
                refine fI ?_ xf
                unfold chkL
                rw [if_neg u0, if_neg u2, if_neg u3, if_pos (by rw [all_no hx (by rw [w1]; rfl)]; simp)]
              | true =>
                rw [w1] at h1
                have hsw := w1
                rw [hsb, decide_eq_true_eq] at hsw
                obtain ⟨mk, emk⟩ := Int.eq_ofNat_of_zero_le hmk.2.1
                obtain ⟨sw, esw⟩ := Int.eq_ofNat_of_zero_le hsw.1
                rw [esw] at hsw
                rw [emk] at hmk
                rw [esw] at h1
                rw [emk, esw] at g3
                have hsT : sw < 2 ^ T := by rw [← eP2]; omega
                have hsp := @Nat.succ_ne_zero; repeat' (first | simp (disch := first | exact dschL57 | fail) only [go_sem, ↓reduceIte, hsp, r6, z1, z3, d1, d3, q1, q3, g2, hn2', hlt3, a1, b1, ← eK3, g3, h1, Bool.not_true] | refine WP_drw ?_ | refine cnd_intro (fun hsp => ?_) fun hsp => ?_)
                refine WP_count [(2, 2), (8, 98)] 0 T (Nat.zero_le _) (fun _ k fr K4 => fr 8 = .int .i64 (k : Int) ∧ K4 = K3 ∧ ∀ m, m < k → sw.testBit m = true → mk.testBit m = true) ?_ ?_ ?_
                · exact ⟨by (simp (disch := first | exact dschL57 | fail) only [go_sem, ↓reduceIte, Int.natCast_zero]; first | done | rfl), rfl, fun m hm => by omega⟩
                · rintro k fr4 K4 hk0 hk hA4 ⟨r8, rfl, hm⟩
                  have y1 := hA4 1 rfl
                  have y3 := hA4 3 rfl
                  have y6 := hA4 6 rfl
                  have y7 := hA4 7 rfl
                  try simp (disch := first | exact dschL57 | fail) only [go_sem, ↓reduceIte, z1, z3] at y1 y3 y6 y7
                  have hlt4 : ((k : Int) < L.T) = True := eq_true (by omega)
                  have l1 := fun base => run_lifts (base := base) (h := K4) (x := sw) (k := k) (by omega) (by omega)
                  have l2 := fun base => run_lifts (base := base) (h := K4) (x := mk) (k := k) (by omega) (by omega)
                  cases e1 : sw.testBit k with
                  | false =>
                    rw [e1] at l1
                    have hsp := @Nat.succ_ne_zero; repeat' (first | simp (disch := first | exact dschL57 | fail) only [go_sem, ↓reduceIte, hsp, r8, y1, y3, y6, y7, z1, z3, d1, d3, q1, q3, g03, g3, hlt4, l1] | refine WP_drw ?_ | refine cnd_intro (fun hsp => ?_) fun hsp => ?_)
                    refine ⟨by (repeat first | exact Agree.refl | assumption | refine Agree.put rfl ?_ | refine Agree.put0 ?_ | refine Agree.sub rfl (by assumption) ?_), by omega, fun m hmk2 q => ?_⟩
                    by_cases em : m = k
                    · rw [em, e1] at q; cases q
                    · exact hm m (by omega) q
                  | true =>
                    rw [e1] at l1
                    cases e2 : mk.testBit k with
                    | true =>
                      rw [e2] at l2
                      have hsp := @Nat.succ_ne_zero; repeat' (first | simp (disch := first | exact dschL57 | fail) only [go_sem, ↓reduceIte, hsp, r8, y1, y3, y6, y7, z1, z3, d1, d3, q1, q3, g03, g3, hlt4, l1, l2] | refine WP_drw ?_ | refine cnd_intro (fun hsp => ?_) fun hsp => ?_)
                      refine ⟨by (repeat first | exact Agree.refl | assumption | refine Agree.put rfl ?_ | refine Agree.put0 ?_ | refine Agree.sub rfl (by assumption) ?_), by omega, fun m hmk2 q => ?_⟩
                      by_cases em : m = k
                      · rw [em]; exact e2
                      · exact hm m (by omega) q
                    | false =>
                      rw [e2] at l2
                      have hsp := @Nat.succ_ne_zero; repeat' (first | simp (disch := first | exact dschL57 | fail) only [go_sem, ↓reduceIte, hsp, r8, y1, y3, y6, y7, z1, z3, d1, d3, q1, q3, g03, g3, hlt4, l1, l2] | refine WP_drw ?_ | refine cnd_intro (fun hsp => ?_) fun hsp => ?_)
                      refine fI ?_ xf
                      have hsub : subB r.2.2 r.2.1 = false := by
                        unfold subB
                        rw [emk, esw, Int.toNat_natCast, Int.toNat_natCast]
                        refine decide_eq_false fun q => ?_
                        have := (sub_iff hsT).2 q k hk e1
                        rw [e2] at this; cases this
                      unfold chkL
                      rw [if_neg u0, if_neg u2, if_neg u3, if_pos (by rw [all_no hx (by rw [w1, hsub]; rfl)]; simp)]
                · rintro fr4 K4 hA4 ⟨r8, rfl, hm⟩
                  have y1 := hA4 1 rfl
                  have y3 := hA4 3 rfl
                  have y6 := hA4 6 rfl
                  have y7 := hA4 7 rfl
                  try simp (disch := first | exact dschL57 | fail) only [go_sem, ↓reduceIte, z1, z3] at y1 y3 y6 y7
                  have hlt4 : ((T : Int) < L.T) = False := eq_false (by omega)
                  have hsp := @Nat.succ_ne_zero; repeat' (first | simp (disch := first | exact dschL57 | fail) only [go_sem, ↓reduceIte, hsp, r8, y1, y3, y6, y7, z1, z3, d1, d3, q1, q3, g03, g3, hlt4, r6] | refine WP_drw ?_ | refine cnd_intro (fun hsp => ?_) fun hsp => ?_)
                  have hsub : subB r.2.2 r.2.1 = true := by
                    unfold subB
                    rw [emk, esw, Int.toNat_natCast, Int.toNat_natCast]
                    exact decide_eq_true ((sub_iff hsT).1 hm)
                  exact ⟨by (repeat first | exact Agree.refl | assumption | refine Agree.put rfl ?_ | refine Agree.put0 ?_ | refine Agree.sub rfl (by assumption) ?_), by omega, xK.trans x3, all_take hx ha3 (by rw [w1, hsub]; rfl)⟩
            · rintro fr3 K2 hA3 ⟨r6, xK, ha3⟩
              have z1 := hA3 1 rfl
              have z3 := hA3 3 rfl
              try simp (disch := first | exact dschL57 | fail) only [go_sem, ↓reduceIte, d1, d3] at z1 z3
              have hlt3 : ((L.R.length : Int) < (L.R.length : Int)) = False := eq_false (by omega)
              rw [List.take_length] at ha3
              have u4 : ¬ (¬ (L.R.all fun r => setB L.T r.2.2 && subB r.2.2 r.2.1) = true) := by rw [ha3]; simp
              have iR2 := iR.ext xK
              have hn2' := iR2.len (P := prog) Fc.el47
              have g2 := xK.get g0
              have iC2 := iC.ext xK
              have hn1' := lenI iC2
              have hsp := @Nat.succ_ne_zero; repeat' (first | simp (disch := first | exact dschL57 | fail) only [go_sem, ↓reduceIte, hsp, r6, z1, z3, d1, d3, q1, q3, g2, hn2', hlt3] | refine WP_drw ?_ | refine cnd_intro (fun hsp => ?_) fun hsp => ?_)
              refine WP_count [(2, 121)] 0 L.C.length (Nat.zero_le _) (fun _ i fr K => fr 9 = .int .i64 (i : Int) ∧ K = K2 ∧ (L.C.take i).Nodup) ?_ ?_ ?_
              · exact ⟨by (simp (disch := first | exact dschL57 | fail) only [go_sem, ↓reduceIte, Int.natCast_zero]; first | done | rfl), rfl, by simp⟩
              · rintro i fr4 K4 hi0 hi hA4 ⟨r9, rfl, hn⟩
                have y1 := hA4 1 rfl
                try simp (disch := first | exact dschL57 | fail) only [go_sem, ↓reduceIte, z1] at y1
                have hlt4 : ((i : Int) < (L.C.length : Int)) = True := eq_true (by omega)
                have ai := adrI (i := (i : Int)) (by omega) iC2 (by omega)
                rw [Int.toNat_natCast] at ai
                have li := loadI iC2 hi
                have hsp := @Nat.succ_ne_zero; repeat' (first | simp (disch := first | exact dschL57 | fail) only [go_sem, ↓reduceIte, hsp, r9, y1, z1, z3, d1, d3, q1, q3, g2, hn1', hlt4] | refine WP_drw ?_ | refine cnd_intro (fun hsp => ?_) fun hsp => ?_)
                refine WP_count [(2, 2), (10, 121)] 0 i (Nat.zero_le _) (fun _ j fr K => fr 10 = .int .i64 (j : Int) ∧ K = K4 ∧ ∀ m, m < j → L.C.getD i 0 ≠ L.C.getD m 0) ?_ ?_ ?_
                · exact ⟨by (simp (disch := first | exact dschL57 | fail) only [go_sem, ↓reduceIte, Int.natCast_zero]; first | done | rfl), rfl, fun m hm => by omega⟩
                · rintro j fr5 K5 hj0 hj hA5 ⟨r10, rfl, hd⟩
                  have x1 := hA5 1 rfl
                  have x9 := hA5 9 rfl
                  try simp (disch := first | exact dschL57 | fail) only [go_sem, ↓reduceIte, y1] at x1 x9
                  have hlt5 : ((j : Int) < (i : Int)) = True := eq_true (by omega)
                  have aj := adrI (i := (j : Int)) (by omega) iC2 (by omega)
                  rw [Int.toNat_natCast] at aj
                  have lj := loadI iC2 (i := j) (by omega)
                  by_cases c : L.C.getD i 0 = L.C.getD j 0
                  · have t1 : (L.C.getD i 0 = L.C.getD j 0) = True := eq_true c
                    have hsp := @Nat.succ_ne_zero; repeat' (first | simp (disch := first | exact dschL57 | fail) only [go_sem, ↓reduceIte, hsp, r10, r9, x1, x9, y1, z1, z3, d1, d3, q1, q3, hlt5, g2, ai, li, aj, lj, t1] | refine WP_drw ?_ | refine cnd_intro (fun hsp => ?_) fun hsp => ?_)
                    refine fI ?_ (xG.trans xK)
                    have htw : twB L.C = true := by
                      unfold twB
                      refine decide_eq_true ?_
                      intro hN
                      rw [getD_at hi, getD_at (show j < L.C.length by omega)] at c
                      have := nodup_inj hN _ _ c
                      omega
                    unfold chkL
                    rw [if_neg u0, if_neg u2, if_neg u3, if_neg u4, if_pos htw]
                  · have t1 : (L.C.getD i 0 = L.C.getD j 0) = False := eq_false c
                    have hsp := @Nat.succ_ne_zero; repeat' (first | simp (disch := first | exact dschL57 | fail) only [go_sem, ↓reduceIte, hsp, r10, r9, x1, x9, y1, z1, z3, d1, d3, q1, q3, hlt5, g2, ai, li, aj, lj, t1] | refine WP_drw ?_ | refine cnd_intro (fun hsp => ?_) fun hsp => ?_)
                    refine ⟨by (repeat first | exact Agree.refl | assumption | refine Agree.put rfl ?_ | refine Agree.put0 ?_ | refine Agree.sub rfl (by assumption) ?_), by omega, fun m hm => ?_⟩
                    by_cases e : m = j
                    · rw [e]; exact c
                    · exact hd m (by omega)
                · rintro fr5 K5 hA5 ⟨r10, rfl, hd⟩
                  have x1 := hA5 1 rfl
                  have x9 := hA5 9 rfl
                  try simp (disch := first | exact dschL57 | fail) only [go_sem, ↓reduceIte, y1] at x1 x9
                  have hlt5 : ((i : Int) < (i : Int)) = False := eq_false (by omega)
                  have hsp := @Nat.succ_ne_zero; repeat' (first | simp (disch := first | exact dschL57 | fail) only [go_sem, ↓reduceIte, hsp, r10, r9, x1, x9, y1, z1, z3, d1, d3, q1, q3, hlt5] | refine WP_drw ?_ | refine cnd_intro (fun hsp => ?_) fun hsp => ?_)
                  refine ⟨by (repeat first | exact Agree.refl | assumption | refine Agree.put rfl ?_ | refine Agree.put0 ?_ | refine Agree.sub rfl (by assumption) ?_), by omega, ?_⟩
                  rw [take_succ' hi, nodup_snoc]
                  refine ⟨hn, fun hm => ?_⟩
                  obtain ⟨m, hm1, hm2⟩ := List.mem_iff_getElem.1 hm
                  rw [List.length_take] at hm1
                  rw [List.getElem_take] at hm2
                  exact hd m (by omega) (by rw [← hm2, getD_at (show m < L.C.length by omega)])
              · rintro fr4 K4 hA4 ⟨r9, rfl, hn⟩
                have y1 := hA4 1 rfl
                try simp (disch := first | exact dschL57 | fail) only [go_sem, ↓reduceIte, z1] at y1
                have hlt4 : ((L.C.length : Int) < (L.C.length : Int)) = False := eq_false (by omega)
                rw [List.take_length] at hn
                have hsp := @Nat.succ_ne_zero; repeat' (first | simp (disch := first | exact dschL57 | fail) only [go_sem, ↓reduceIte, hsp, r9, y1, z1, z3, d1, d3, q1, q3, g2, hn1', hlt4] | refine WP_drw ?_ | refine cnd_intro (fun hsp => ?_) fun hsp => ?_)
                refine fI ?_ (xG.trans xK)
                have htw : twB L.C = false := by unfold twB; exact decide_eq_false (fun q => q hn)
                unfold chkL
                rw [if_neg u0, if_neg u2, if_neg u3, if_neg u4, if_neg (by rw [htw]; simp)]
    · rw [decide_eq_false c1] at of1
      have hsp := @Nat.succ_ne_zero; repeat' (first | simp (disch := first | exact dschL57 | fail) only [go_sem, ↓reduceIte, hsp, ← eG, g0, of0, Bool.not_true, hn1, of1, Bool.not_false] | refine WP_drw ?_ | refine cnd_intro (fun hsp => ?_) fun hsp => ?_)
      refine fI ?_ xG
      unfold chkL
      rw [if_neg (by simpa using c0), if_pos (.inl c1)]
  · rw [decide_eq_false c0] at of0
    have hsp := @Nat.succ_ne_zero; repeat' (first | simp (disch := first | exact dschL57 | fail) only [go_sem, ↓reduceIte, hsp, ← eG, g0, of0, Bool.not_false] | refine WP_drw ?_ | refine cnd_intro (fun hsp => ?_) fun hsp => ?_)
    refine fI ?_ xG
    unfold chkL
    rw [if_pos c0]
end Go.AM
/-
  The reference: rows and cards, cards and positions, orders and rows.
-/
namespace Go.AM
open Go.Proofs.Try
theorem dschL58 {p : Prop} (h : p := by first | exact Nat.ne_of_beq_eq_false rfl | assumption | (apply asOne; (first | exact One.int | exact One.bool | assumption | exact Ints.one (by assumption) | exact Rows.one (by assumption) | exact Own.one (by assumption) | exact One.lit ⟨rfl, rfl, rfl⟩)) | (apply asInts; (repeat first | assumption | exact ints_nil | apply Ints.app); done) | (apply asRows; (repeat first | assumption | exact Rows.nil | apply Rows.app); done) | (apply asScal; (first | apply allS1 | apply allS2 | apply allS3 | apply allS4) <;> (first | exact One.int | exact One.bool | assumption | exact Ints.one (by assumption) | exact Rows.one (by assumption) | exact Own.one (by assumption) | exact One.lit ⟨rfl, rfl, rfl⟩)) | exact litT rfl | exact litF rfl | omega | (simp only [List.length_append, List.length_cons, List.length_nil, List.length_set, List.length_reverse]; first | done | omega) | fail) : p := h
attribute [-go_sem] put_ne put_same
attribute [local go_sem ↓] put_if
theorem range_no {p : Nat → Bool} {k n : Nat} (hk : k < n) (h : p k = false) : (List.range n).all p = false := by
  rw [Bool.eq_false_iff]
  intro q
  have := List.all_eq_true.1 q k (List.mem_range.2 hk)
  rw [h] at this; cases this
theorem beq_dec {a b : Bool} : (a == b) = decide (a = b) := by cases a <;> cases b <;> rfl
set_option maxHeartbeats 2000000 in
theorem run_agrees {base k : Nat} {h : Heap} {v : AVal} {L : Lac} {r : Rw3} (hL : LacAt h v L) (hT : 1 ≤ L.T ∧ L.T ≤ 8) (hk : k < L.C.length) (hc : 0 ≤ L.C.getD k 0 ∧ L.C.getD k 0 < 1000) (hm : 0 ≤ r.2.1 ∧ r.2.1 < 1000) (hs : 0 ≤ r.2.2 ∧ r.2.2 < 1000) :
    callL prog raw base (.fn 101 [] []) [v, .agg [.int .i64 r.1, .int .i64 r.2.1, .int .i64 r.2.2], .int .i64 (k : Int)] h = some (.bool (agrB L r k), h) := by
  obtain ⟨cv, rv, rfl, hC, hR⟩ := hL
  have o1 := hC.one
  have o2 := hR.one
  obtain ⟨G, eG⟩ : ∃ G, G = h ++ [rcB L.T cv rv] ++ [rrB r] := ⟨_, rfl⟩
  have xG : Ext h G := by rw [eG]; exact .app (.app .refl)
  have g0 : G[h.length]? = some (rcB L.T cv rv) := by rw [eG]; exact get_app (get_eq rfl)
  have g1 : G[h.length + 1]? = some (rrB r) := by rw [eG]; exact get_eq (by simp)
  have iC := hC.ext xG
  have ak := adrI (i := (k : Int)) (by omega) iC (by omega)
  rw [Int.toNat_natCast] at ak
  have lk := loadI iC hk
  obtain ⟨c, ec⟩ := Int.eq_ofNat_of_zero_le hc.1
  obtain ⟨mk, em⟩ := Int.eq_ofNat_of_zero_le hm.1
  obtain ⟨sw, es⟩ := Int.eq_ofNat_of_zero_le hs.1
  rw [ec] at lk hc
  rw [em] at hm
  rw [es] at hs
  obtain ⟨T, eT⟩ := Int.eq_ofNat_of_zero_le (show 0 ≤ L.T by omega)
  have hag : agrB L r k = (List.range T).all fun t => !mk.testBit t || (c.testBit t == sw.testBit t) := by
    unfold agrB
    rw [eT, em, es, ec]
    simp only [Int.toNat_natCast]
  rw [hag]
  unfold rcB rrB at eG
  unfold rcB at g0
  unfold rrB at g1
  rw [em, es] at g1 eG
  rw [em, es]
  refine callL_run func101 rfl rfl ?_
  have hsp := @Nat.succ_ne_zero; repeat' (first | simp (disch := first | exact dschL58 | fail) only [go_sem, ↓reduceIte, hsp, ← eG] | refine WP_drw ?_ | refine cnd_intro (fun hsp => ?_) fun hsp => ?_)
  refine WP_count [(6, 31)] 0 T (Nat.zero_le _) (fun _ i fr H => fr 7 = .int .i64 (i : Int) ∧ H = G ∧ (List.range i).all (fun t => !mk.testBit t || (c.testBit t == sw.testBit t)) = true) ?_ ?_ ?_
  · exact ⟨by (simp (disch := first | exact dschL58 | fail) only [go_sem, ↓reduceIte, Int.natCast_zero]; first | done | rfl), rfl, by simp⟩
  · rintro i fr H hi0 hi hA ⟨r7, rfl, ha⟩
    have q2 := hA 2 rfl
    have q3 := hA 3 rfl
    have q4 := hA 4 rfl
    try simp (disch := first | exact dschL58 | fail) only [go_sem, ↓reduceIte] at q2 q3 q4
    have hlt : ((i : Int) < L.T) = True := eq_true (by omega)
    have l1 := fun base => run_lifts (base := base) (h := H) (x := mk) (k := i) (by omega) (by omega)
    have l2 := fun base => run_lifts (base := base) (h := H) (x := c) (k := i) (by omega) (by omega)
    have l3 := fun base => run_lifts (base := base) (h := H) (x := sw) (k := i) (by omega) (by omega)
    cases b1 : mk.testBit i with
    | false =>
      rw [b1] at l1
      have hsp := @Nat.succ_ne_zero; repeat' (first | simp (disch := first | exact dschL58 | fail) only [go_sem, ↓reduceIte, hsp, r7, q2, q3, q4, g0, g1, hlt, l1] | refine WP_drw ?_ | refine cnd_intro (fun hsp => ?_) fun hsp => ?_)
      exact ⟨by (repeat first | exact Agree.refl | assumption | refine Agree.put rfl ?_ | refine Agree.put0 ?_ | refine Agree.sub rfl (by assumption) ?_), by omega, by rw [List.all_append, ha]; simp [b1]⟩
    | true =>
      rw [b1] at l1
      by_cases b2 : c.testBit i = sw.testBit i
      · rw [b2] at l2
        have hsp := @Nat.succ_ne_zero; repeat' (first | simp (disch := first | exact dschL58 | fail) only [go_sem, ↓reduceIte, hsp, r7, q2, q3, q4, g0, g1, hlt, l1, ak, lk, l2, l3, neB, ne_eq, eq_self, not_true, decide_false] | refine WP_drw ?_ | refine cnd_intro (fun hsp => ?_) fun hsp => ?_)
        exact ⟨by (repeat first | exact Agree.refl | assumption | refine Agree.put rfl ?_ | refine Agree.put0 ?_ | refine Agree.sub rfl (by assumption) ?_), by omega, by rw [List.all_append, ha]; simp [b1, b2]⟩
      · have t1 : (c.testBit i = sw.testBit i) = False := eq_false b2
        have hsp := @Nat.succ_ne_zero; repeat' (first | simp (disch := first | exact dschL58 | fail) only [go_sem, ↓reduceIte, hsp, r7, q2, q3, q4, g0, g1, hlt, l1, ak, lk, l2, l3, neB, ne_eq, t1, not_false_eq_true, decide_true] | refine WP_drw ?_ | refine cnd_intro (fun hsp => ?_) fun hsp => ?_)
        refine fB ?_ xG
        rw [range_no (k := i) hi (by rw [b1, beq_dec, decide_eq_false b2]; rfl)]
  · rintro fr H hA ⟨r7, rfl, ha⟩
    have q2 := hA 2 rfl
    have q3 := hA 3 rfl
    have q4 := hA 4 rfl
    try simp (disch := first | exact dschL58 | fail) only [go_sem, ↓reduceIte] at q2 q3 q4
    have hlt : ((T : Int) < L.T) = False := eq_false (by omega)
    have hsp := @Nat.succ_ne_zero; repeat' (first | simp (disch := first | exact dschL58 | fail) only [go_sem, ↓reduceIte, hsp, r7, q2, q3, q4, g0, hlt] | refine WP_drw ?_ | refine cnd_intro (fun hsp => ?_) fun hsp => ?_)
    exact fB (by rw [ha]) xG
theorem row_bd {L : Lac} (hL : LacOk L) {r : Rw3} (hr : r ∈ L.R) : (0 ≤ r.1 ∧ r.1 ≤ 999) ∧ (0 ≤ r.2.1 ∧ r.2.1 < 1000) ∧ 0 ≤ r.2.2 ∧ r.2.2 < 1000 := by
  obtain ⟨a, b, c, _⟩ := hL.r r hr
  have := (pow_le8 hL.T).2
  exact ⟨a, ⟨b.1, by omega⟩, c.1, by omega⟩
theorem card_bd {L : Lac} (hL : LacOk L) {k : Nat} (hk : k < L.C.length) : 0 ≤ L.C.getD k 0 ∧ L.C.getD k 0 < 1000 := by
  have h := hL.c _ (getD_mem' (d := (0 : Int)) hk)
  have := (pow_le8 hL.T).2
  omega
set_option maxHeartbeats 2000000 in
theorem run_rfits {base p k : Nat} {h : Heap} {v : AVal} {L : Lac} (hL : LacAt h v L) (hok : LacOk L) (hk : k < L.C.length) :
    callL prog raw base (.fn 56 [] []) [v, .int .i64 (p : Int), .int .i64 (k : Int)] h = some (.bool (fitB L p k), h) := by
  have hL0 := hL
  obtain ⟨cv, rv, rfl, hC, hR⟩ := hL
  have o1 := hC.one
  have o2 := hR.one
  have hn := hok.n
  have hm := hok.m
  obtain ⟨G, eG⟩ : ∃ G, G = h ++ [rcB L.T cv rv] := ⟨_, rfl⟩
  have xG : Ext h G := by rw [eG]; exact .app .refl
  have g0 : G[h.length]? = some (rcB L.T cv rv) := by rw [eG]; exact get_eq rfl
  have iC := hC.ext xG
  have iR := hR.ext xG
  have hn1 := lenI iC
  have hn2 := iR.len (P := prog) Fc.el47
  rw [← fitR_eq hok hk]
  unfold rcB at eG g0
  refine callL_run func56 rfl rfl ?_
  have hsp := @Nat.succ_ne_zero; repeat' (first | simp (disch := first | exact dschL58 | fail) only [go_sem, ↓reduceIte, hsp, ← eG] | refine WP_drw ?_ | refine cnd_intro (fun hsp => ?_) fun hsp => ?_)
  refine WP_count [(6, 37)] 0 L.R.length (Nat.zero_le _) (fun _ i fr H => fr 7 = .int .i64 (i : Int) ∧ H = G ∧ (L.R.take i).all (fun r => !decide (r.1.toNat % L.C.length = p) || agrB L r k) = true) ?_ ?_ ?_
  · exact ⟨by (simp (disch := first | exact dschL58 | fail) only [go_sem, ↓reduceIte, Int.natCast_zero]; first | done | rfl), rfl, by simp⟩
  · rintro i fr H hi0 hi hA ⟨r7, rfl, ha⟩
    have q1 := hA 1 rfl
    have q2 := hA 2 rfl
    have q3 := hA 3 rfl
    try simp (disch := first | exact dschL58 | fail) only [go_sem, ↓reduceIte] at q1 q2 q3
    have hlt : ((i : Int) < (L.R.length : Int)) = True := eq_true (by omega)
    obtain ⟨r, er⟩ : ∃ r, r = L.R[i] := ⟨_, rfl⟩
    have hx : L.R[i]? = some r := by rw [er]; exact List.getElem?_eq_getElem hi
    obtain ⟨k1, k2, k3⟩ := row_bd hok (List.mem_of_getElem? hx)
    have a1 := rrow_ad iR hi
    have a2 := rrow_f0 iR hi
    have b1 := rrow_c0 iR hx
    have b2 := rrow_ld iR hx
    have hrem := remN (x := r.1) (n := L.C.length) k1.1 (by omega)
    have hag := fun base => run_agrees (base := base) (r := r) (hL0.ext xG) hok.T hk (card_bd hok hk) k2 k3
    obtain ⟨j, ej⟩ : ∃ j, j = r.1.toNat % L.C.length := ⟨_, rfl⟩
    rw [← ej] at hrem
    by_cases c : j = p
    · have t1 : ((j : Int) = (p : Int)) = True := eq_true (by omega)
      cases d : agrB L r k with
      | true =>
        rw [d] at hag
        have hsp := @Nat.succ_ne_zero; repeat' (first | simp (disch := first | exact dschL58 | fail) only [go_sem, ↓reduceIte, hsp, r7, q1, q2, q3, g0, hn2, hlt, a1, a2, b1, hn1, hrem, t1, b2, hag] | refine WP_drw ?_ | refine cnd_intro (fun hsp => ?_) fun hsp => ?_)
        exact ⟨by (repeat first | exact Agree.refl | assumption | refine Agree.put rfl ?_ | refine Agree.put0 ?_ | refine Agree.sub rfl (by assumption) ?_), by omega, all_take hx ha (by rw [d]; simp)⟩
      | false =>
        rw [d] at hag
        have hsp := @Nat.succ_ne_zero; repeat' (first | simp (disch := first | exact dschL58 | fail) only [go_sem, ↓reduceIte, hsp, r7, q1, q2, q3, g0, hn2, hlt, a1, a2, b1, hn1, hrem, t1, b2, hag] | refine WP_drw ?_ | refine cnd_intro (fun hsp => ?_) fun hsp => ?_)
        refine fB ?_ xG
        unfold fitR
        rw [all_no hx (by rw [d, ← ej, decide_eq_true c]; rfl)]
    · have t1 : ((j : Int) = (p : Int)) = False := eq_false (by omega)
      have hsp := @Nat.succ_ne_zero; repeat' (first | simp (disch := first | exact dschL58 | fail) only [go_sem, ↓reduceIte, hsp, r7, q1, q2, q3, g0, hn2, hlt, a1, a2, b1, hn1, hrem, t1] | refine WP_drw ?_ | refine cnd_intro (fun hsp => ?_) fun hsp => ?_)
      exact ⟨by (repeat first | exact Agree.refl | assumption | refine Agree.put rfl ?_ | refine Agree.put0 ?_ | refine Agree.sub rfl (by assumption) ?_), by omega, all_take hx ha (by rw [← ej, decide_eq_false c]; rfl)⟩
  · rintro fr H hA ⟨r7, rfl, ha⟩
    have q1 := hA 1 rfl
    have q2 := hA 2 rfl
    have q3 := hA 3 rfl
    try simp (disch := first | exact dschL58 | fail) only [go_sem, ↓reduceIte] at q1 q2 q3
    have hlt : ((L.R.length : Int) < (L.R.length : Int)) = False := eq_false (by omega)
    rw [List.take_length] at ha
    have hsp := @Nat.succ_ne_zero; repeat' (first | simp (disch := first | exact dschL58 | fail) only [go_sem, ↓reduceIte, hsp, r7, q1, q2, q3, g0, hn2, hlt] | refine WP_drw ?_ | refine cnd_intro (fun hsp => ?_) fun hsp => ?_)
    exact fB (by unfold fitR; rw [ha]) xG
end Go.AM
/-
  The reference: all orders, those that explain the rows.
-/
namespace Go.AM
open Go.Proofs.Try
attribute [-go_sem] put_ne put_same
attribute [local go_sem ↓] put_if
section
variable {b : Nat} {H H' : Heap} {v : AVal} {ts : List (List Int)}
/-- Lists in a list that lies behind b, they behind e. -/
def AllX (b e : Nat) (H : Heap) (v : AVal) (ts : List (List Int)) : Prop := ∃ vs : List AVal, Own encZ 25 b H v vs ∧ vs.length = ts.length ∧ ∀ (i : Nat) x t, vs[i]? = some x → ts[i]? = some t → OwnE encI 3 e H x t
end
def allF (n d : Nat) (l : List Int) (k : Int) : List (List Int) := if ((fun (_ _ : Nat) => true) l.length k.toNat && decide (k ∉ l)) = true then ordsF (fun _ _ => true) n d (l ++ [k]) else []
theorem ordsF_all {n d : Nat} {l : List Int} : ordsF (fun _ _ => true) n (d + 1) l = (upto n).flatMap (allF n d l) := rfl
end Go.AM
/-
  The reference: the cards that are sure (Known); a chain as the reference has it (theirs).
-/
namespace Go.AM
open Go.Proofs.Try
theorem dschL60 {p : Prop} (h : p := by first | exact Nat.ne_of_beq_eq_false rfl | assumption | (apply asOne; (first | exact One.int | exact One.bool | assumption | exact Ints.one (by assumption) | exact Rows.one (by assumption) | exact Own.one (by assumption) | exact One.lit ⟨rfl, rfl, rfl⟩)) | (apply asInts; (repeat first | assumption | exact ints_nil | apply Ints.app); done) | (apply asRows; (repeat first | assumption | exact Rows.nil | apply Rows.app); done) | (apply asScal; (first | apply allS1 | apply allS2 | apply allS3 | apply allS4) <;> (first | exact One.int | exact One.bool | assumption | exact Ints.one (by assumption) | exact Rows.one (by assumption) | exact Own.one (by assumption) | exact One.lit ⟨rfl, rfl, rfl⟩)) | exact litT rfl | exact litF rfl | omega | (simp only [List.length_append, List.length_cons, List.length_nil, List.length_set, List.length_reverse]; first | done | omega) | fail) : p := h
attribute [-go_sem] put_ne put_same
attribute [local go_sem ↓] put_if
def kvR (os : List (List Int)) (i q : Nat) : Int := if ((os.take i).all fun x => decide (x.getD q 0 = (os.headD []).getD q 0)) = true then (os.headD []).getD q 0 else -1
def knS (n : Nat) (os : List (List Int)) (i p : Nat) : List Int := lst (fun q => if q < p then kvR os (i + 1) q else kvR os i q) n
theorem bsRR1 {lit : Bool} {H : Heap} {r : Rw3} : bsA prog lit H 47 1 [(0, .agg [.int .i64 r.1, .int .i64 r.2.1, .int .i64 r.2.2])] = some (.slice (some ⟨H.length, 0, 0⟩) 1 1, H ++ [rowE encR 79 [r] 0]) := by
  simp [bsA, rowOf, Fc.el47, fillA, repCells, AVal.isN, AVal.cells, splice, rowE, flat, encR]
theorem snocRR {b base : Nat} {A : Heap} {w : AVal} {l : List Rw3} {r : Rw3} (hO : Own encR 79 b A w l) (hb : base ≤ b) (hbh : b ≤ A.length) (hl : l.length ≤ 1000000) :
    ∃ w' H, appendA prog base (A ++ [rowE encR 79 [r] 0]) 47 w (.slice (some ⟨A.length, 0, 0⟩) 1 1) = some (w', H) ∧ Own encR 79 b H w' (l ++ [r]) ∧ A.length ≤ H.length ∧ (∀ G, G.length ≤ b → Ext G A → Ext G H) ∧ One w' ∧ KeepO encR 79 A H := by
  obtain ⟨B, eB⟩ : ∃ B, B = A ++ [rowE encR 79 [r] 0] := ⟨_, rfl⟩
  have xB : Ext A B := by rw [eB]; exact .app .refl
  have lB' : B.length = A.length + 1 := by rw [eB]; simp
  have hx : Rows encR B (.slice (some ⟨A.length, 0, 0⟩) 1 1) [r] := Rows.own (by rw [eB]; exact get_eq rfl) rfl (by simp)
  rw [← eB]
  obtain ⟨w', H, a1, a2, a3, a4, a5, a6⟩ := (hO.ext xB).appendRX (P := prog) (base := base) (t := 47) hx Fc.el47 encR_sc hb (by omega) (by simp) (by simp; omega)
  have a6 : KeepO encR 79 B H := a6
  exact ⟨w', H, a1, a2, by omega, fun G h1 h2 => a4 G h1 (h2.trans xB), a5, fun i y hi hy => a6 i y (xB.get hi) hy⟩
set_option maxHeartbeats 2000000 in
theorem run_theirs {base : Nat} {h : Heap} {v : AVal} {L : Lac} (hb : base ≤ h.length) (hL : LacAt h v L) (hl : L.R.length ≤ 1000) :
    Ret prog raw base (.fn 31 [] []) [v] h (fun w H => Ext h H ∧ LacAt H w L ∧ ∃ cv rw', w = .agg [.int .i64 L.T, cv, rw'] ∧ Ints h cv L.C ∧ Own encR 79 h.length H rw' L.R) := by
  obtain ⟨cv, rv, rfl, hC, hR⟩ := hL
  have o1 := hC.one
  have o2 := hR.one
  obtain ⟨G, eG⟩ : ∃ G, G = h ++ [lacB L.T cv rv] ++ [rcB 0 (.slice none 0 0) (.slice none 0 0)] ++ [rcB L.T cv (.slice none 0 0)] := ⟨_, rfl⟩
  obtain ⟨G1, eG1⟩ : ∃ G1, G1 = h ++ [lacB L.T cv rv] ++ [rcB 0 (.slice none 0 0) (.slice none 0 0)] := ⟨_, rfl⟩
  have xG : Ext h G := by rw [eG]; exact .app (.app (.app .refl))
  have lG : G.length = h.length + 3 := by rw [eG]; simp
  have g0 : G[h.length]? = some (lacB L.T cv rv) := by rw [eG]; exact get_app (get_app (get_eq rfl))
  have g01 : G1[h.length]? = some (lacB L.T cv rv) := by rw [eG1]; exact get_app (get_eq rfl)
  have g1 : G[h.length + 1]? = some (rcB 0 (.slice none 0 0) (.slice none 0 0)) := by rw [eG]; exact get_app (get_eq (by simp))
  have g2 : G[h.length + 1 + 1]? = some (rcB L.T cv (.slice none 0 0)) := by rw [eG]; exact get_eq (by simp)
  have eGG : G1 ++ [rcB L.T cv (.slice none 0 0)] = G := by rw [eG, eG1]
  have l1 : G1.length = h.length + 1 + 1 := by rw [eG1]; simp
  have hn := (hR.ext xG).len (P := prog) Fc.el42
  unfold lacB rcB at eG1
  unfold rcB at eGG g1 g2
  unfold lacB at g0 g01
  refine ret_raw func31 rfl (by kernel_rfl) ?_
  have hsp := @Nat.succ_ne_zero; repeat' (first | simp (disch := first | exact dschL60 | fail) only [go_sem, ↓reduceIte, hsp, ← eG1, g01, l1, eGG, g0, hn] | refine WP_drw ?_ | refine cnd_intro (fun hsp => ?_) fun hsp => ?_)
  refine WP_count [(5, 5), (14, 24)] 0 L.R.length (Nat.zero_le _) (fun _ i fr K => fr 14 = .int .i64 (i : Int) ∧ Ext h K ∧ h.length + 3 ≤ K.length ∧ K[h.length + 1]? = some (rcB 0 (.slice none 0 0) (.slice none 0 0)) ∧ ∃ w, K[h.length + 1 + 1]? = some (rcB L.T cv w) ∧ Own encR 79 (h.length + 3) K w (L.R.take i)) ?_ ?_ ?_
  · exact ⟨by (simp (disch := first | exact dschL60 | fail) only [go_sem, ↓reduceIte, Int.natCast_zero]; first | done | rfl), xG, by omega, g1, .slice none 0 0, g2, Own.nil⟩
  · rintro i fr K hi0 hi hA ⟨r14, xK, lK, gK1, w, gK2, oW⟩
    have q2 := hA 2 rfl
    have q3 := hA 3 rfl
    have q12 := hA 12 rfl
    have q13 := hA 13 rfl
    try simp (disch := first | exact dschL60 | fail) only [go_sem, ↓reduceIte] at q2 q3 q12 q13
    have hlt : ((i : Int) < (L.R.length : Int)) = True := eq_true (by omega)
    have ow := oW.one
    obtain ⟨r, er⟩ : ∃ r, r = L.R[i] := ⟨_, rfl⟩
    have hx : L.R[i]? = some r := by rw [er]; exact List.getElem?_eq_getElem hi
    have iR := hR.ext xK
    have ad := iR.addr (P := prog) (i := (i : Int)) Fc.el42 Fc.ar42 (by omega) (by omega)
    rw [Int.toNat_natCast] at ad
    have ld : loadP prog K 70 (elAdr rv encR.z i 0) = some (.agg [.int .i64 r.1, .int .i64 r.2.1, .int .i64 r.2.2]) := iR.load (P := prog) Fc.ty70 hx
    obtain ⟨K1, eK1⟩ : ∃ K1, K1 = K ++ [rwB r] := ⟨_, rfl⟩
    have x1 : Ext K K1 := by rw [eK1]; exact .app .refl
    have gr : K1[K.length]? = some (rwB r) := by rw [eK1]; exact get_eq rfl
    have gK3 := x1.get gK2
    have gK4 := x1.get gK1
    have l2 := x1.len
    obtain ⟨w', K2, ea, oW', lW, eW, oneW, kW⟩ := snocRR (base := base) (r := r) (oW.ext x1) (by omega) (by omega) (by rw [List.length_take]; omega)
    have gK5 := kW.box gK3
    have gK6 := kW.box gK4
    have htk : L.R.take (i + 1) = L.R.take i ++ [r] := by rw [List.take_add_one, hx]; rfl
    unfold rcB at gK2 gK3 gK5
    unfold rwB at eK1 gr
    have hsp := @Nat.succ_ne_zero; repeat' (first | simp (disch := first | exact dschL60 | fail) only [go_sem, ↓reduceIte, hsp, r14, q2, q3, q12, q13, hlt, ad, ld, ← eK1, gr, gK3, bsRR1, ea, gK5] | refine WP_drw ?_ | refine cnd_intro (fun hsp => ?_) fun hsp => ?_)
    exact ⟨by (repeat first | exact Agree.refl | assumption | refine Agree.put rfl ?_ | refine Agree.put0 ?_ | refine Agree.sub rfl (by assumption) ?_), by omega, (eW h (by omega) (xK.trans x1)).set (by omega), by omega, gK6, w', rfl, by rw [htk]; exact oW'.setBox gK5⟩
  · rintro fr K hA ⟨r14, xK, lK, gK1, w, gK2, oW⟩
    have q2 := hA 2 rfl
    have q3 := hA 3 rfl
    have q12 := hA 12 rfl
    have q13 := hA 13 rfl
    try simp (disch := first | exact dschL60 | fail) only [go_sem, ↓reduceIte] at q2 q3 q12 q13
    have hlt : ((L.R.length : Int) < (L.R.length : Int)) = False := eq_false (by omega)
    rw [List.take_length] at oW
    have ow := oW.one
    unfold rcB at gK1 gK2
    have hsp := @Nat.succ_ne_zero; repeat' (first | simp (disch := first | exact dschL60 | fail) only [go_sem, ↓reduceIte, hsp, r14, q2, q3, q12, q13, hlt, gK2, gK1] | refine WP_drw ?_ | refine cnd_intro (fun hsp => ?_) fun hsp => ?_)
    have xf : Ext h (K.set (h.length + 1) ⟨.cells [.int .i64 L.T, cv, w] 49 false false, 0⟩) := xK.set (by omega)
    have oF := (oW.setBox (k := ⟨.cells [.int .i64 L.T, cv, w] 49 false false, 0⟩) gK1).low (b' := h.length) (by omega)
    exact ⟨xf, ⟨cv, w, rfl, hC.ext xf, oF.rows (by omega)⟩, cv, w, rfl, hC, oF⟩
end Go.AM
/-
  LaceFinds, walked.
-/
namespace Go.AM
open Go.Proofs.Try
theorem dschL61 {p : Prop} (h : p := by first | exact Nat.ne_of_beq_eq_false rfl | assumption | (apply asOne; (first | exact One.int | exact One.bool | assumption | exact Ints.one (by assumption) | exact Rows.one (by assumption) | exact Own.one (by assumption) | exact One.lit ⟨rfl, rfl, rfl⟩)) | (apply asInts; (repeat first | assumption | exact ints_nil | apply Ints.app); done) | (apply asRows; (repeat first | assumption | exact Rows.nil | apply Rows.app); done) | (apply asScal; (first | apply allS1 | apply allS2 | apply allS3 | apply allS4) <;> (first | exact One.int | exact One.bool | assumption | exact Ints.one (by assumption) | exact Rows.one (by assumption) | exact Own.one (by assumption) | exact One.lit ⟨rfl, rfl, rfl⟩)) | exact litT rfl | exact litF rfl | omega | (simp only [List.length_append, List.length_cons, List.length_nil, List.length_set, List.length_reverse]; first | done | omega) | fail) : p := h
attribute [-go_sem] put_ne put_same
attribute [local go_sem ↓] put_if
theorem run_great {base : Nat} {h : Heap} {v : AVal} {L : Lac} (hL : LacAt h v L) : callL prog raw base (.fn 29 [] []) [v] h = some (.bool (decide (12 < L.C.length ∨ 16 < L.R.length)), h) := by
  obtain ⟨cv, rv, rfl, hC, hR⟩ := hL
  have o1 := hC.one
  have o2 := hR.one
  obtain ⟨G, eG⟩ : ∃ G, G = h ++ [lacB L.T cv rv] := ⟨_, rfl⟩
  have xG : Ext h G := by rw [eG]; exact .app .refl
  have g0 : G[h.length]? = some (lacB L.T cv rv) := by rw [eG]; exact get_eq rfl
  have hn1 := lenI (hC.ext xG)
  have hn2 := (hR.ext xG).len (P := prog) Fc.el42
  unfold lacB at eG g0
  refine callL_run func29 rfl rfl ?_
  by_cases c : 12 < L.C.length
  · have t1 : ((L.C.length : Int) > 12) = True := eq_true (by omega)
    have hsp := @Nat.succ_ne_zero; repeat' (first | simp (disch := first | exact dschL61 | fail) only [go_sem, ↓reduceIte, hsp, ← eG, g0, hn1, t1] | refine WP_drw ?_ | refine cnd_intro (fun hsp => ?_) fun hsp => ?_)
    exact fB (by rw [decide_eq_true (.inl c)]) xG
  · have t1 : ((L.C.length : Int) > 12) = False := eq_false (by omega)
    by_cases d : 16 < L.R.length
    · have t2 : ((L.R.length : Int) > 16) = True := eq_true (by omega)
      have hsp := @Nat.succ_ne_zero; repeat' (first | simp (disch := first | exact dschL61 | fail) only [go_sem, ↓reduceIte, hsp, ← eG, g0, hn1, hn2, t1, t2] | refine WP_drw ?_ | refine cnd_intro (fun hsp => ?_) fun hsp => ?_)
      exact fB (by rw [decide_eq_true (.inr d)]) xG
    · have t2 : ((L.R.length : Int) > 16) = False := eq_false (by omega)
      have hsp := @Nat.succ_ne_zero; repeat' (first | simp (disch := first | exact dschL61 | fail) only [go_sem, ↓reduceIte, hsp, ← eG, g0, hn1, hn2, t1, t2] | refine WP_drw ?_ | refine cnd_intro (fun hsp => ?_) fun hsp => ?_)
      exact fB (by rw [decide_eq_false (by omega)]) xG
end Go.AM
/-
  The reference: gaps.
-/
namespace Go.AM
open Go.Proofs.Try
attribute [-go_sem] put_ne put_same
attribute [local go_sem ↓] put_if
end Go.AM
/-
  The reference: an order along a ring (Turned).
-/
namespace Go.AM
open Go.Proofs.Try
attribute [-go_sem] put_ne put_same
attribute [local go_sem ↓] put_if
end Go.AM
/-
  LaceRings, walked.
-/
namespace Go.AM
open Go.Proofs.Try
attribute [-go_sem] put_ne put_same
attribute [local go_sem ↓] put_if
end Go.AM
/-
  The reference: positions that decide (chosen, before, decides, Decide), what one look leaves (Leaves).
-/
namespace Go.AM
open Go.Proofs.Try
attribute [-go_sem] put_ne put_same
attribute [local go_sem ↓] put_if
/-! ### Leaves -/
def lvsR (os : List (List Int)) (p : Nat) : Nat → Int
  | 0 => 0
  | i + 1 => max (lvsR os p i) ((os.countP fun o => decide ((os.getD i []).getD p 0 = o.getD p 0) : Nat) : Int)
/-! ### Decide -/
end Go.AM
/-
  LaceAsks, walked.
-/
namespace Go.AM
open Go.Proofs.Try
attribute [-go_sem] put_ne put_same
attribute [local go_sem ↓] put_if
end Go.AM
/-
  A slice of one's own is cleared.
-/
namespace Go.AM
open Go.Proofs.Try
section
variable {α β : Type} {E : Enc α} {E2 : Enc β} {e e2 t : TypeId} {b base : Nat} {H G : Heap} {v w x : AVal} {l m : List α} {l2 : List β} {zs : List AVal}
/-- A slice of one's own is cleared. -/
theorem clear_own {y : α} (hO : OwnE E e b H v l) (ht : elS prog t = some (e, E.z, E.cells y)) (hs : ∀ y, (E.cells y).all AVal.scalar = true) (hb : base ≤ b) :
    ∃ H', clearA prog base H t v = some (.tuple [], H') ∧ H'.length = H.length ∧ (∀ G, G.length ≤ b → Ext G H → Ext G H') ∧ (∀ w l2, OwnE E e b H w l2 → ∃ l3, OwnE E e b H' w l3) ∧ KeepO E e H H' := by
  rcases hO with (⟨rfl, rfl⟩ | ⟨id, ver, rfl, h1, h2, h3⟩) | ⟨rfl, rfl⟩
  · exact ⟨H, by simp [clearA, ht], rfl, fun G _ g => g, fun w l2 q => ⟨l2, q⟩, fun i y g _ => g⟩
  · obtain ⟨n, hn⟩ : ∃ n, l.length = n + 1 := ⟨l.length - 1, by omega⟩
    have hc : (flat E l).length = (repCells (E.cells y) (n + 1)).length := by rw [repCells_length, flat_len, hn, E.len, Nat.mul_comm]
    refine ⟨H.set id (rowE E e (List.replicate (n + 1) y) ver), ?_, by simp, fun G hG g => g.set (show G.length ≤ id by omega), fun w l2 q => ?_, fun i z g hz => ?_⟩
    · rw [hn]
      simp only [clearA, ht, storeN, h1, rowE]
      rw [if_pos ⟨trivial, by rw [hc]; simp, by rw [rep_flat]; exact flat_scalar hs _, .inl (by omega)⟩, splice_all hc, rep_flat]
    · rcases q with (⟨rfl, rfl⟩ | ⟨id2, ver2, rfl, g1, g2, g3⟩) | ⟨rfl, rfl⟩
      · exact ⟨[], .inl Own.nil⟩
      · by_cases c : id2 = id
        · subst c
          rw [h1] at g1
          have g1' := Option.some.inj g1
          have hv : ver = ver2 := congrArg ABlk.ver g1'
          have hcl : flat E l = flat E l2 := by
            have := congrArg ABlk.body g1'
            simp only [rowE] at this
            exact ABody.cells.inj this |>.1
          have hll : l2.length = n + 1 := by
            have := congrArg List.length hcl
            rw [flat_len, flat_len] at this
            rw [← hn]
            exact (Nat.eq_of_mul_eq_mul_right E.pos this).symm
          refine ⟨List.replicate (n + 1) y, .inl (.inr ⟨id2, ver, by rw [hv, hll, List.length_replicate], by rw [List.getElem?_set_self (lt_of_get h1)], g2, by simp⟩)⟩
        · exact ⟨l2, .inl (.inr ⟨id2, ver2, rfl, by rw [List.getElem?_set_ne (fun q => c q.symm)]; exact g1, g2, g3⟩)⟩
      · exact ⟨[], .inr ⟨rfl, rfl⟩⟩
    · have hne : id ≠ i := by
        rintro rfl
        rw [h1] at g
        exact hz l ver (Option.some.inj g).symm
      rw [List.getElem?_set_ne hne]
      exact g
  · exact ⟨H, by simp [clearA, ht], rfl, fun G _ g => g, fun w l2 q => ⟨l2, q⟩, fun i y g _ => g⟩
end
end Go.AM
