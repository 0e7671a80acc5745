/-
  CutValues, walked.
-/
import Derived.Test.YtikgghhceolaeaaU22
import Derived.Test.YtikgghhceolaeaaU19
set_option linter.unusedSimpArgs false
set_option linter.unusedVariables false
namespace Go.AM
open Go.Proofs.Try
theorem dschN45 {p : Prop} (h : p := by first | exact Nat.ne_of_beq_eq_false rfl | assumption | (apply asOne; (first | exact One.int | exact One.bool | assumption | exact Ints.one (by assumption) | exact Rows.one (by assumption) | exact Own.one (by assumption) | exact One.lit ⟨rfl, rfl, rfl⟩)) | (apply asInts; (repeat first | assumption | exact ints_nil | apply Ints.app); done) | (apply asRows; (repeat first | assumption | exact Rows.nil | apply Rows.app); done) | (apply asScal; (first | apply allS1 | apply allS2 | apply allS3 | apply allS4) <;> (first | exact One.int | exact One.bool | assumption | exact Ints.one (by assumption) | exact Rows.one (by assumption) | exact Own.one (by assumption) | exact One.lit ⟨rfl, rfl, rfl⟩)) | exact litT rfl | exact litF rfl | omega | (simp only [List.length_append, List.length_cons, List.length_nil, List.length_set, List.length_reverse]; first | done | omega) | fail) : p := h
attribute [-go_sem] put_ne put_same
attribute [local go_sem ↓] put_if
theorem eqBT : binA prog BinOp.eql 4 (.bool true) (.bool true) = some (.bool true) := by kernel_rfl
theorem eqBF : binA prog BinOp.eql 4 (.bool false) (.bool false) = some (.bool true) := by kernel_rfl
set_option maxRecDepth 100000 in
set_option maxHeartbeats 8000000 in
theorem run_CutValues {base : Nat} {h : Heap} {v0 v1 : AVal} (hA0 : RibN 1048576 h v0) (hP0 : IntsN 1048576 h v1) :
    callL prog raw base (.fn 11 [] []) [v0, v1] h = some (.bool true, h) := by
  obtain ⟨R, hA, -, -⟩ := hA0
  obtain ⟨p, hP, -⟩ := hP0
  have hAA := hA
  obtain ⟨fv, wv, rfl, hF, hW⟩ := hAA
  have o1 := hF.one
  have o2 := hW.one
  have o3 := hP.one
  obtain ⟨G0, eG0⟩ : ∃ G0, G0 = h ++ [ribB R.L fv wv] := ⟨_, rfl⟩
  have x0 : Ext h G0 := by rw [eG0]; exact .app .refl
  have g0 : G0[h.length]? = some (ribB R.L fv wv) := by rw [eG0]; exact get_eq rfl
  have lG0 : G0.length = h.length + 1 := by rw [eG0]; simp
  have hg := fun base => run_wide (base := base) (m := 30) (hA.ext x0)
  have hlp := lenI (hP.ext x0)
  have haw := fun base => run_awake (base := base) (h := G0)
  unfold ribB at eG0
  have g0' := g0
  unfold ribB at g0'
  refine callL_run func11 rfl rfl ?_
  rcases Bool.eq_false_or_eq_true (decide (20 < R.F.length ∨ 12 < R.W.length) || (decide (30 < R.L) && decide (R.L ≤ 60))) with cg | cg
  · rw [cg] at hg
    have hsp := @Nat.succ_ne_zero; repeat' (first | simp (disch := first | exact dschN45 | fail) only [go_sem, ↓reduceIte, hsp, ← eG0, g0', hg, haw] | refine WP_drw ?_ | refine cnd_intro (fun hsp => ?_) fun hsp => ?_)
    exact fB rfl x0
  · rw [cg] at hg
    simp only [Bool.or_eq_false_iff, Bool.and_eq_false_iff, decide_eq_false_iff_not] at cg
    by_cases cl : 70 < p.length
    · have t1 : ((p.length : Int) > 70) = True := eq_true (by omega)
      have hsp := @Nat.succ_ne_zero; repeat' (first | simp (disch := first | exact dschN45 | fail) only [go_sem, ↓reduceIte, hsp, ← eG0, g0', hg, hlp, t1, haw] | refine WP_drw ?_ | refine cnd_intro (fun hsp => ?_) fun hsp => ?_)
      exact fB rfl x0
    · have t1 : ((p.length : Int) > 70) = False := eq_false (by omega)
      obtain ⟨_, G1, e1, x1, fw, ww, rfl, oF, oW⟩ := run_own (base := h.length) (h := G0) (by omega) (hA.ext x0) (by omega) (by omega)
      have l1 := x1.len
      obtain ⟨_, G2, e2, x2, aT, fw2, ww2, rfl, of2, ow2⟩ := run_theirs (base := h.length) (h := G1) (by omega) (hA.ext (x0.trans x1)) (by omega) (by omega)
      have l2 := x2.len
      obtain ⟨pw, G3, e3, x3, oP⟩ := run_dupI (base := h.length) (h := G2) (by omega) (hP.ext ((x0.trans x1).trans x2)) (by omega)
      have l3 := x3.len
      have ofw := oF.one
      have oww := oW.one
      have opw := oP.one
      obtain ⟨G4, eG4⟩ : ∃ G4, G4 = G3 ++ [ribB R.L fw ww] ++ [rrbB R.L fw2 ww2] := ⟨_, rfl⟩
      have x4 : Ext G3 G4 := by rw [eG4]; exact .app (.app .refl)
      have l4 : G4.length = G3.length + 2 := by rw [eG4]; simp
      have gO4 : G4[G3.length]? = some (ribB R.L fw ww) := by rw [eG4]; exact get_app (get_eq rfl)
      have gT4 : G4[G3.length + 1]? = some (rrbB R.L fw2 ww2) := by rw [eG4]; exact get_eq (by simp)
      have x14 := (x2.trans x3).trans x4
      have xh4 : Ext h G4 := (x0.trans x1).trans x14
      have aO4 : RibAt G4 (.agg [.int .i64 R.L, fw, ww]) R := ⟨fw, ww, rfl, (ownE_ints oF ⟨by omega, hF.1.2⟩).ext x14, (oW.rows (by omega)).ext x14⟩
      have aT4 : RibAt G4 (.agg [.int .i64 R.L, fw2, ww2]) R := aT.ext (x3.trans x4)
      have pO4 : Ints G4 pw p := (ownE_ints oP ⟨by omega, hP.1.2⟩).ext x4
      have gc4 : G4[h.length]? = some (ribB R.L fv wv) := (x1.trans x14).get g0
      have hck := fun base => run_rcheck (base := base) aT4 (by omega) (by omega)
      have g01 := x1.get g0'
      unfold ribB rrbB at eG4
      unfold rrbB at gT4
      have hP4 := hP.ext xh4
      by_cases c : chkR R = 0
      · have hok := chkR_iff.1 c
        have hL := hok.L
        rw [c] at hck
        obtain ⟨dv, Z, e5, xZ, oR⟩ := run_rmade (base := h.length) (h := G4) (by omega) aT4 hok
        have odv := oR.one
        obtain ⟨lc, elc⟩ : ∃ lc, lc = lst (fun y => valD R y) (R.L.toNat + 1) := ⟨_, rfl⟩
        have sm : Small lc := by rw [elc]; exact val_small hok (by omega)
        have mv : madE R = lc := by unfold madE; rw [if_neg (fun q => q c), elc]
        rw [← elc] at oR
        have hd : Ints Z dv lc := own_ints oR sm
        have gT5 := xZ.get gT4
        have hPZ := hP4.ext xZ
        have hrv := fun base => run_rvalues (base := base) (aT4.ext xZ) hok hPZ (by omega)
        by_cases cv : vldE R p = 0
        · obtain ⟨-, hll, hlb⟩ := vld_ok cv
          have hrh := fun base => run_rholds (base := base) (b := hldB R p) (aT4.ext xZ) hok hPZ hll hlb hldB_iff
          rw [cv] at hrv
          have vv := cv
          have a0 := adrI (i := 0) (by omega) hPZ (by omega)
          have d0 := loadI hPZ (i := 0) (by omega)
          rcases Bool.eq_false_or_eq_true (hldB R p) with qb | qb
          · have hv : hldE R p = true := by unfold hldE; rw [decide_eq_true cv, qb]; rfl
            have bv : bndE R p = (p.getD 0 0, 0) := by unfold bndE; rw [if_neg (fun q => q cv), if_pos qb]
            rw [qb] at hrh
            have lZ := xZ.len
            have aO := aO4.ext xZ
            have gO := xZ.get gO4
            have gc := xZ.get gc4
            obtain ⟨_, Z1, c1, z1, u, rfl, oC⟩ := run_Made (base := h.length) (h := Z) (by omega) aO (by omega)
            rw [mv] at oC
            have lz1 := z1.len
            have ou := oC.one
            have ch := fun base => run_Holds (base := base) (aO.ext z1) (by omega) (pO4.ext (xZ.trans z1))
            have cb := fun base => run_Bound (base := base) (aO.ext z1) (by omega) (pO4.ext (xZ.trans z1))
            rw [hv, vv] at ch
            rw [bv] at cb
            have q1 := fun base => run_eqI (base := base) (ownE_ints oC sm) (hd.ext z1)
            have q3 := fun base => run_same (base := base) (aO.ext z1) (hA.ext (xh4.trans (xZ.trans z1))) (by omega)
            have q4 := fun base => run_eqI (base := base) (pO4.ext (xZ.trans z1)) (hP.ext (xh4.trans (xZ.trans z1)))
            rw [decide_eq_true rfl] at q1 q4
            have q5 := fun base => run_awake (base := base) (h := Z1)
            have gO1 := z1.get gO
            have gc1 := z1.get gc
            unfold ribB at gO gO1 gc1
            have hsp := @Nat.succ_ne_zero; repeat' (first | simp (disch := first | exact dschN45 | fail) only [go_sem, ↓reduceIte, hsp, ← eG0, g0', hg, hlp, t1, e1, g01, e2, e3, ← eG4, gT4, hck, eq_self, e5, gT5, hrv, hrh, a0, d0, gO, c1, gO1, ch, cb, decide_true, q1, q3, q4, q5, gc1, eqBT, c] | refine WP_drw ?_ | refine cnd_intro (fun hsp => ?_) fun hsp => ?_)
            exact fB rfl (xh4.trans (xZ.trans z1))
          · have hv : hldE R p = false := by unfold hldE; rw [qb, Bool.and_false]
            have bv : bndE R p = (0, 8) := by unfold bndE; rw [if_neg (fun q => q cv), if_neg (by rw [qb]; simp)]
            rw [qb] at hrh
            have lZ := xZ.len
            have aO := aO4.ext xZ
            have gO := xZ.get gO4
            have gc := xZ.get gc4
            obtain ⟨_, Z1, c1, z1, u, rfl, oC⟩ := run_Made (base := h.length) (h := Z) (by omega) aO (by omega)
            rw [mv] at oC
            have lz1 := z1.len
            have ou := oC.one
            have ch := fun base => run_Holds (base := base) (aO.ext z1) (by omega) (pO4.ext (xZ.trans z1))
            have cb := fun base => run_Bound (base := base) (aO.ext z1) (by omega) (pO4.ext (xZ.trans z1))
            rw [hv, vv] at ch
            rw [bv] at cb
            have q1 := fun base => run_eqI (base := base) (ownE_ints oC sm) (hd.ext z1)
            have q3 := fun base => run_same (base := base) (aO.ext z1) (hA.ext (xh4.trans (xZ.trans z1))) (by omega)
            have q4 := fun base => run_eqI (base := base) (pO4.ext (xZ.trans z1)) (hP.ext (xh4.trans (xZ.trans z1)))
            rw [decide_eq_true rfl] at q1 q4
            have q5 := fun base => run_awake (base := base) (h := Z1)
            have gO1 := z1.get gO
            have gc1 := z1.get gc
            unfold ribB at gO gO1 gc1
            have hsp := @Nat.succ_ne_zero; repeat' (first | simp (disch := first | exact dschN45 | fail) only [go_sem, ↓reduceIte, hsp, ← eG0, g0', hg, hlp, t1, e1, g01, e2, e3, ← eG4, gT4, hck, eq_self, e5, gT5, hrv, hrh, gO, c1, gO1, ch, cb, decide_true, q1, q3, q4, q5, gc1, eqBF, c] | refine WP_drw ?_ | refine cnd_intro (fun hsp => ?_) fun hsp => ?_)
            exact fB rfl (xh4.trans (xZ.trans z1))
        · have tv : (vldE R p = 0) = False := eq_false cv
          have vv : vldE R p = vldE R p := rfl
          have hv : hldE R p = false := by unfold hldE; rw [decide_eq_false cv]; rfl
          have bv : bndE R p = (0, vldE R p) := by unfold bndE; rw [if_pos cv]
          have lZ := xZ.len
          have aO := aO4.ext xZ
          have gO := xZ.get gO4
          have gc := xZ.get gc4
          obtain ⟨_, Z1, c1, z1, u, rfl, oC⟩ := run_Made (base := h.length) (h := Z) (by omega) aO (by omega)
          rw [mv] at oC
          have lz1 := z1.len
          have ou := oC.one
          have ch := fun base => run_Holds (base := base) (aO.ext z1) (by omega) (pO4.ext (xZ.trans z1))
          have cb := fun base => run_Bound (base := base) (aO.ext z1) (by omega) (pO4.ext (xZ.trans z1))
          rw [hv, vv] at ch
          rw [bv] at cb
          have q1 := fun base => run_eqI (base := base) (ownE_ints oC sm) (hd.ext z1)
          have q3 := fun base => run_same (base := base) (aO.ext z1) (hA.ext (xh4.trans (xZ.trans z1))) (by omega)
          have q4 := fun base => run_eqI (base := base) (pO4.ext (xZ.trans z1)) (hP.ext (xh4.trans (xZ.trans z1)))
          rw [decide_eq_true rfl] at q1 q4
          have q5 := fun base => run_awake (base := base) (h := Z1)
          have gO1 := z1.get gO
          have gc1 := z1.get gc
          unfold ribB at gO gO1 gc1
          have hsp := @Nat.succ_ne_zero; repeat' (first | simp (disch := first | exact dschN45 | fail) only [go_sem, ↓reduceIte, hsp, ← eG0, g0', hg, hlp, t1, e1, g01, e2, e3, ← eG4, gT4, hck, eq_self, e5, gT5, hrv, tv, gO, c1, gO1, ch, cb, decide_true, q1, q3, q4, q5, gc1, eqBF, c] | refine WP_drw ?_ | refine cnd_intro (fun hsp => ?_) fun hsp => ?_)
          exact fB rfl (xh4.trans (xZ.trans z1))
      · have tu : (chkR R = 0) = False := eq_false c
        obtain ⟨Z, eZ⟩ : ∃ Z, Z = G4 := ⟨_, rfl⟩
        have xZ : Ext G4 Z := by rw [eZ]; exact .refl
        rw [← eZ] at eG4 gT4 hck
        obtain ⟨lc, elc⟩ : ∃ lc : List Int, lc = [] := ⟨_, rfl⟩
        have sm : Small lc := by rw [elc]; exact ⟨by simp, by simp⟩
        have hd : Ints Z (.slice none 0 0) lc := by rw [elc]; exact ints_nil
        have mv : madE R = lc := by unfold madE; rw [if_pos c, elc]
        have vv : vldE R p = chkR R := by unfold vldE; rw [if_pos c]
        have cv : vldE R p ≠ 0 := by rw [vv]; exact c
        have hv : hldE R p = false := by unfold hldE; rw [decide_eq_false cv]; rfl
        have bv : bndE R p = (0, chkR R) := by unfold bndE; rw [if_pos cv, vv]
        have lZ := xZ.len
        have aO := aO4.ext xZ
        have gO := xZ.get gO4
        have gc := xZ.get gc4
        obtain ⟨_, Z1, c1, z1, u, rfl, oC⟩ := run_Made (base := h.length) (h := Z) (by omega) aO (by omega)
        rw [mv] at oC
        have lz1 := z1.len
        have ou := oC.one
        have ch := fun base => run_Holds (base := base) (aO.ext z1) (by omega) (pO4.ext (xZ.trans z1))
        have cb := fun base => run_Bound (base := base) (aO.ext z1) (by omega) (pO4.ext (xZ.trans z1))
        rw [hv, vv] at ch
        rw [bv] at cb
        have q1 := fun base => run_eqI (base := base) (ownE_ints oC sm) (hd.ext z1)
        have q3 := fun base => run_same (base := base) (aO.ext z1) (hA.ext (xh4.trans (xZ.trans z1))) (by omega)
        have q4 := fun base => run_eqI (base := base) (pO4.ext (xZ.trans z1)) (hP.ext (xh4.trans (xZ.trans z1)))
        rw [decide_eq_true rfl] at q1 q4
        have q5 := fun base => run_awake (base := base) (h := Z1)
        have gO1 := z1.get gO
        have gc1 := z1.get gc
        unfold ribB at gO gO1 gc1
        have hsp := @Nat.succ_ne_zero; repeat' (first | simp (disch := first | exact dschN45 | fail) only [go_sem, ↓reduceIte, hsp, ← eG0, g0', hg, hlp, t1, e1, g01, e2, e3, ← eG4, gT4, hck, eq_self, tu, gO, c1, gO1, ch, cb, decide_true, q1, q3, q4, q5, gc1, eqBF] | refine WP_drw ?_ | refine cnd_intro (fun hsp => ?_) fun hsp => ?_)
        exact fB rfl (xh4.trans (xZ.trans z1))
end Go.AM
