/-
  CutMost, walked.
-/
import Derived.Test.YtikgghhceolaeaaU21
import Derived.Test.YtikgghhceolaeaaU19
set_option linter.unusedSimpArgs false
set_option linter.unusedVariables false
namespace Go.AM
open Go.Proofs.Try
theorem dschN36 {p : Prop} (h : p := by first | exact Nat.ne_of_beq_eq_false rfl | assumption | (apply asOne; (first | exact One.int | exact One.bool | assumption | exact Ints.one (by assumption) | exact Rows.one (by assumption) | exact Own.one (by assumption) | exact One.lit ⟨rfl, rfl, rfl⟩)) | (apply asInts; (repeat first | assumption | exact ints_nil | apply Ints.app); done) | (apply asRows; (repeat first | assumption | exact Rows.nil | apply Rows.app); done) | (apply asScal; (first | apply allS1 | apply allS2 | apply allS3 | apply allS4) <;> (first | exact One.int | exact One.bool | assumption | exact Ints.one (by assumption) | exact Rows.one (by assumption) | exact Own.one (by assumption) | exact One.lit ⟨rfl, rfl, rfl⟩)) | exact litT rfl | exact litF rfl | omega | (simp only [List.length_append, List.length_cons, List.length_nil, List.length_set, List.length_reverse]; first | done | omega) | fail) : p := h
attribute [-go_sem] put_ne put_same
attribute [local go_sem ↓] put_if
set_option maxRecDepth 100000 in
set_option maxHeartbeats 8000000 in
theorem run_CutMost {base : Nat} {h : Heap} {v0 : AVal} (hA0 : RibN 1048576 h v0) :
    callL prog raw base (.fn 6 [] []) [v0] h = some (.bool true, h) := by
  obtain ⟨R, hA, -, -⟩ := hA0
  have hAA := hA
  obtain ⟨fv, wv, rfl, hF, hW⟩ := hAA
  have o1 := hF.one
  have o2 := hW.one
  obtain ⟨G0, eG0⟩ : ∃ G0, G0 = h ++ [ribB R.L fv wv] := ⟨_, rfl⟩
  have x0 : Ext h G0 := by rw [eG0]; exact .app .refl
  have g0 : G0[h.length]? = some (ribB R.L fv wv) := by rw [eG0]; exact get_eq rfl
  have lG0 : G0.length = h.length + 1 := by rw [eG0]; simp
  have hg := fun base => run_wide (base := base) (m := 40) (hA.ext x0)
  have haw := fun base => run_awake (base := base) (h := G0)
  unfold ribB at eG0
  have g0' := g0
  unfold ribB at g0'
  refine callL_run func6 rfl rfl ?_
  rcases Bool.eq_false_or_eq_true (decide (20 < R.F.length ∨ 12 < R.W.length) || (decide (40 < R.L) && decide (R.L ≤ 60))) with cg | cg
  · rw [cg] at hg
    have hsp := @Nat.succ_ne_zero; repeat' (first | simp (disch := first | exact dschN36 | fail) only [go_sem, ↓reduceIte, hsp, ← eG0, g0', hg, haw] | refine WP_drw ?_ | refine cnd_intro (fun hsp => ?_) fun hsp => ?_)
    exact fB rfl x0
  · rw [cg] at hg
    simp only [Bool.or_eq_false_iff, Bool.and_eq_false_iff, decide_eq_false_iff_not] at cg
    obtain ⟨_, G1, e1, x1, fw, ww, rfl, oF, oW⟩ := run_own (base := h.length) (h := G0) (by omega) (hA.ext x0) (by omega) (by omega)
    have l1 := x1.len
    obtain ⟨_, G2, e2, x2, aT, fw2, ww2, rfl, of2, ow2⟩ := run_theirs (base := h.length) (h := G1) (by omega) (hA.ext (x0.trans x1)) (by omega) (by omega)
    have l2 := x2.len
    have ofw := oF.one
    have oww := oW.one
    obtain ⟨G4, eG4⟩ : ∃ G4, G4 = G2 ++ [ribB R.L fw ww] ++ [rrbB R.L fw2 ww2] := ⟨_, rfl⟩
    have x4 : Ext G2 G4 := by rw [eG4]; exact .app (.app .refl)
    have l4 : G4.length = G2.length + 2 := by rw [eG4]; simp
    have gO4 : G4[G2.length]? = some (ribB R.L fw ww) := by rw [eG4]; exact get_app (get_eq rfl)
    have gT4 : G4[G2.length + 1]? = some (rrbB R.L fw2 ww2) := by rw [eG4]; exact get_eq (by simp)
    have x14 := x2.trans x4
    have xh4 : Ext h G4 := (x0.trans x1).trans x14
    have aO4 : RibAt G4 (.agg [.int .i64 R.L, fw, ww]) R := ⟨fw, ww, rfl, (ownE_ints oF ⟨by omega, hF.1.2⟩).ext x14, (oW.rows (by omega)).ext x14⟩
    have aT4 : RibAt G4 (.agg [.int .i64 R.L, fw2, ww2]) R := aT.ext x4
    have gc4 : G4[h.length]? = some (ribB R.L fv wv) := (x1.trans x14).get g0
    have hck := fun base => run_rcheck (base := base) aT4 (by omega) (by omega)
    have g01 := x1.get g0'
    obtain ⟨_, Z1, c1, z1, u1, rfl, oB⟩ := run_Best (base := h.length) (h := G4) (by omega) aO4 (by omega)
    have m1 := z1.len
    have ob := oB.one
    obtain ⟨_, Z2, c2, z2, u2, rfl, oN⟩ := run_Fewest (base := h.length) (h := Z1) (by omega) (aO4.ext z1) (by omega)
    have m2 := z2.len
    have on := oN.one
    have gO5 := z1.get gO4
    have gT6 := (z1.trans z2).get gT4
    unfold ribB rrbB at eG4
    unfold rrbB at gT4 gT6
    have gO4' := gO4
    unfold ribB at gO4' gO5
    by_cases c : chkR R = 0
    · have hok := chkR_iff.1 c
      have hL := hok.L
      rw [c] at hck c1 c2
      have her := fun base => run_earned (base := base) (f := 0) aT4 hok (by omega)
      rw [Int.natCast_zero] at her
      have fb1 := folD_bd (b := false) (x := 0) hok
      have fb2 := folD_bd (b := true) (x := 0) hok
      obtain ⟨p1, n1⟩ := pthL_ok (b := false) hok R.L.toNat 0 0 0 (by omega) (by omega) (by omega)
      obtain ⟨p2, n2⟩ := pthL_ok (b := true) hok R.L.toNat 0 0 0 (by omega) (by omega) (by omega)
      rw [folD_e hok (by omega), Int.zero_add] at p1 p2
      have ea : allE R = valD R 0 := by unfold allE; rw [if_neg (fun q => q c)]
      have eb1 : bstE false R = pthL false R R.L.toNat 0 := by unfold bstE; rw [if_neg (fun q => q c)]
      have eb2 : bstE true R = pthL true R R.L.toNat 0 := by unfold bstE; rw [if_neg (fun q => q c)]
      rw [ea] at c1
      rw [eb1] at oB
      rw [eb2] at oN
      have hln := own_len oN Fc.el43 (by omega)
      rw [n2] at hln
      obtain ⟨d1, Z3, f1, y1, oD1⟩ := run_rcuts (base := h.length) (h := Z2) (by omega) ((oB.rows (by omega)).ext z2) (by omega)
      have k1 := y1.len
      have od1 := oD1.one
      have hp1 := fun base => run_rplan (base := base) (aT4.ext ((z1.trans z2).trans y1)) hok (oD1.rows (by omega))
      obtain ⟨d2, Z4, f2, y2, oD2⟩ := run_rcuts (base := h.length) (h := Z3) (by omega) ((oN.rows (by omega)).ext y1) (by omega)
      have k2 := y2.len
      have od2 := oD2.one
      have hp2 := fun base => run_rplan (base := base) (aT4.ext (((z1.trans z2).trans y1).trans y2)) hok (oD2.rows (by omega))
      rw [p1] at hp1
      rw [p2] at hp2
      have gT7 := y1.get gT6
      have gT8 := y2.get gT7
      have zz := ((z1.trans z2).trans y1).trans y2
      have q3 := fun base => run_same (base := base) (aO4.ext zz) (hA.ext (xh4.trans zz)) (by omega)
      have q5 := fun base => run_awake (base := base) (h := Z4)
      have gO8 := zz.get gO4
      have gc8 := zz.get gc4
      unfold ribB at gO8 gc8
      have hsp := @Nat.succ_ne_zero; repeat' (first | simp (disch := first | exact dschN36 | fail) only [go_sem, ↓reduceIte, hsp, ← eG0, g0', hg, e1, g01, e2, ← eG4, gT4, hck, eq_self, her, gO4', c1, gO5, c2, ne_eq, not_true, decide_false, hln, gT6, f1, hp1, gT7, f2, hp2, gT8, gO8, gc8, q3, q5] | refine WP_drw ?_ | refine cnd_intro (fun hsp => ?_) fun hsp => ?_)
      exact fB rfl (xh4.trans zz)
    · have tu : (chkR R = 0) = False := eq_false c
      have ea : allE R = 0 := by unfold allE; rw [if_pos c]
      have eb1 : bstE false R = [] := by unfold bstE; rw [if_pos c]
      have eb2 : bstE true R = [] := by unfold bstE; rw [if_pos c]
      rw [ea] at c1
      rw [eb1] at oB
      rw [eb2] at oN
      have hl1 := own_len (oB.ext z2) Fc.el43 (by simp)
      have hl2 := own_len oN Fc.el43 (by simp)
      have z0 : ((([] : List Ct).length : Nat) : Int) = 0 := rfl
      have tz : ((0 : Int) > 0) = False := eq_false (by omega)
      rw [z0] at hl1 hl2
      have zz := z1.trans z2
      have q3 := fun base => run_same (base := base) (aO4.ext zz) (hA.ext (xh4.trans zz)) (by omega)
      have q5 := fun base => run_awake (base := base) (h := Z2)
      have gO8 := zz.get gO4
      have gc8 := zz.get gc4
      unfold ribB at gO8 gc8
      have hsp := @Nat.succ_ne_zero; repeat' (first | simp (disch := first | exact dschN36 | fail) only [go_sem, ↓reduceIte, hsp, ← eG0, g0', hg, e1, g01, e2, ← eG4, gT4, hck, eq_self, tu, gO4', c1, gO5, c2, ne_eq, not_true, not_false_eq_true, decide_false, decide_true, hl1, hl2, tz, gO8, gc8, q3, q5] | refine WP_drw ?_ | refine cnd_intro (fun hsp => ?_) fun hsp => ?_)
      exact fB rfl (xh4.trans zz)
end Go.AM
