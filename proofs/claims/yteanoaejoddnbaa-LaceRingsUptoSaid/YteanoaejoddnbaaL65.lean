/-
  LaceRings, walked.
-/
import Derived.Test.YteanoaejoddnbaaU18
set_option linter.unusedSimpArgs false
set_option linter.unusedVariables false
namespace Go.AM
open Go.Proofs.Try
theorem dschL65 {p : Prop} (h : p := by first | exact Nat.ne_of_beq_eq_false rfl | assumption | (apply asOne; (first | exact One.int | exact One.bool | assumption | exact Ints.one (by assumption) | exact Rows.one (by assumption) | exact Own.one (by assumption) | exact One.lit ⟨rfl, rfl, rfl⟩)) | (apply asInts; (repeat first | assumption | exact ints_nil | apply Ints.app); done) | (apply asRows; (repeat first | assumption | exact Rows.nil | apply Rows.app); done) | (apply asScal; (first | apply allS1 | apply allS2 | apply allS3 | apply allS4) <;> (first | exact One.int | exact One.bool | assumption | exact Ints.one (by assumption) | exact Rows.one (by assumption) | exact Own.one (by assumption) | exact One.lit ⟨rfl, rfl, rfl⟩)) | exact litT rfl | exact litF rfl | omega | (simp only [List.length_append, List.length_cons, List.length_nil, List.length_set, List.length_reverse]; first | done | omega) | fail) : p := h
attribute [-go_sem] put_ne put_same
attribute [local go_sem ↓] put_if
theorem trdE_small {L : Lac} {o ring : List Int} : Small (trdE L o ring).1 := by
  have e : Small ([] : List Int) := ⟨by simp, by simp⟩
  unfold trdE
  split
  · exact e
  · rename_i h0
    split
    · exact e
    · rename_i h1
      split
      · exact e
      · rename_i h2
        split
        · exact e
        · rename_i h3
          split
          · have hc : chkL L = 0 := Classical.byContradiction fun q => h0 (by unfold lcdE; rw [if_neg q]; exact q)
            have ho : Ord L.C.length o := ordL_iff.1 (Classical.byContradiction fun q => h0 (by unfold lcdE; rw [if_pos hc]; exact q))
            have hn := (chkL_iff.1 hc).n
            have hin : ∀ x ∈ ring, 0 ≤ x ∧ x < (L.C.length : Int) := fun x hx => by
              have := of_decide_eq_true (List.all_eq_true.1 (Classical.not_not.1 h2) x hx); omega
            have hnd : ring.Nodup := Classical.not_not.1 fun q => h3 (decide_eq_true q)
            exact ord_small (trnL_any ho hin hnd) (by omega)
          · exact e
theorem ring_few {L : Lac} {l : List Int} (hc : chkL L = 0) (h : IsRing L l) : l.length ≤ 1000 := by
  obtain ⟨o1, o2, a, r, f1, f2, ha, had, hr0, hrb, hrm, rfl⟩ := h
  have h1 := fnd_ord (List.mem_of_getElem? f1)
  have h2 := fnd_ord (List.mem_of_getElem? f2)
  have hn := (chkL_iff.1 hc).n
  have hr7 := itr_few h1 h2 ha hrm
  rw [rngL_len]; omega
set_option maxRecDepth 100000 in
set_option maxHeartbeats 16000000 in
theorem run_LaceRings {base : Nat} {h : Heap} {v0 v1 v2 : AVal} (hL0 : LacN 1048576 h v0) (hO0 : IntsN 1048576 h v1) (hG0 : IntsN 1048576 h v2) :
    callL prog raw base (.fn 11 [] []) [v0, v1, v2] h = some (.bool true, h) := by
  obtain ⟨L, hL, -, -⟩ := hL0
  obtain ⟨o, hO, -⟩ := hO0
  obtain ⟨ring, hG, -⟩ := hG0
  have hLL := hL
  obtain ⟨cv, rv, rfl, hC, hR⟩ := hLL
  have o1 := hC.one
  have o2 := hR.one
  have o3 := hO.one
  have o4 := hG.one
  obtain ⟨G0, eG0⟩ : ∃ G0, G0 = h ++ [lacB L.T cv rv] := ⟨_, rfl⟩
  have x0 : Ext h G0 := by rw [eG0]; exact .app .refl
  have g0 : G0[h.length]? = some (lacB L.T cv rv) := by rw [eG0]; exact get_eq rfl
  have lG0 : G0.length = h.length + 1 := by rw [eG0]; simp
  have hg := fun base => run_great (base := base) (hL.ext x0)
  have hlo := lenI (hO.ext x0)
  have hlr := lenI (hG.ext x0)
  have haw := fun base => run_awake (base := base) (h := G0)
  unfold lacB at eG0
  have g0' := g0
  unfold lacB at g0'
  refine callL_run func11 rfl rfl ?_
  by_cases cg : 12 < L.C.length ∨ 16 < L.R.length
  · rw [decide_eq_true cg] at hg
    have hsp := @Nat.succ_ne_zero; repeat' (first | simp (disch := first | exact dschL65 | fail) only [go_sem, ↓reduceIte, hsp, ← eG0, g0', hg, haw] | refine WP_drw ?_ | refine cnd_intro (fun hsp => ?_) fun hsp => ?_)
    exact fB rfl x0
  rw [decide_eq_false cg] at hg
  by_cases cl : 12 < o.length
  · have t1 : ((o.length : Int) > 12) = True := eq_true (by omega)
    have hsp := @Nat.succ_ne_zero; repeat' (first | simp (disch := first | exact dschL65 | fail) only [go_sem, ↓reduceIte, hsp, ← eG0, g0', hg, hlo, t1, haw] | refine WP_drw ?_ | refine cnd_intro (fun hsp => ?_) fun hsp => ?_)
    exact fB rfl x0
  have t1 : ((o.length : Int) > 12) = False := eq_false (by omega)
  by_cases cm : 12 < ring.length
  · have t2 : ((ring.length : Int) > 12) = True := eq_true (by omega)
    have hsp := @Nat.succ_ne_zero; repeat' (first | simp (disch := first | exact dschL65 | fail) only [go_sem, ↓reduceIte, hsp, ← eG0, g0', hg, hlo, t1, hlr, t2, haw] | refine WP_drw ?_ | refine cnd_intro (fun hsp => ?_) fun hsp => ?_)
    exact fB rfl x0
  have t2 : ((ring.length : Int) > 12) = False := eq_false (by omega)
  obtain ⟨_, G1, e1, x1, cw, rw1, rfl, oC, oR⟩ := run_own (base := h.length) (h := G0) (by omega) (hL.ext x0) (by omega) (by omega)
  have l1 := x1.len
  obtain ⟨_, G2, e2, x2, aT, cv2, rw2, rfl, -, oT⟩ := run_theirs (base := h.length) (h := G1) (by omega) (hL.ext (x0.trans x1)) (by omega)
  have l2 := x2.len
  obtain ⟨mw, F3, e3, y3, oM⟩ := run_dupI (base := h.length) (h := G2) (by omega) (hO.ext ((x0.trans x1).trans x2)) (by omega)
  have m3 := y3.len
  obtain ⟨nw, G3, e4, y4, oN⟩ := run_dupI (base := h.length) (h := F3) (by omega) (hG.ext (((x0.trans x1).trans x2).trans y3)) (by omega)
  have x3 := y3.trans y4
  have l3 := x3.len
  have ocw := oC.one
  have orw := oR.one
  have omw := oM.one
  have onw := oN.one
  have ot2 := oT.one
  have oc2 : One cv2 := by
    obtain ⟨_, _, q, q2, _⟩ := aT
    simp only [AVal.agg.injEq, List.cons.injEq, and_true] at q
    rw [q.2.1]; exact q2.one
  obtain ⟨G4, eG4⟩ : ∃ G4, G4 = G3 ++ [lacB L.T cw rw1] ++ [rcB L.T cv2 rw2] := ⟨_, rfl⟩
  have x4 : Ext G3 G4 := by rw [eG4]; exact .app (.app .refl)
  have l4 : G4.length = G3.length + 2 := by rw [eG4]; simp
  have gO4 : G4[G3.length]? = some (lacB L.T cw rw1) := by rw [eG4]; exact get_app (get_eq rfl)
  have gT4 : G4[G3.length + 1]? = some (rcB L.T cv2 rw2) := by rw [eG4]; exact get_eq (by simp)
  have x14 := (x2.trans x3).trans x4
  have xh4 : Ext h G4 := (x0.trans x1).trans x14
  have hsC : Small L.C := ⟨by omega, hC.1.2⟩
  have hso : Small o := ⟨by omega, hO.1.2⟩
  have hsr : Small ring := ⟨by omega, hG.1.2⟩
  have aO4 : LacAt G4 (.agg [.int .i64 L.T, cw, rw1]) L := ⟨cw, rw1, rfl, (ownE_ints oC hsC).ext x14, (oR.rows (by omega)).ext x14⟩
  have aT4 : LacAt G4 (.agg [.int .i64 L.T, cv2, rw2]) L := aT.ext (x3.trans x4)
  have iM4 : Ints G4 mw o := (ownE_ints oM hso).ext (y4.trans x4)
  have iN4 : Ints G4 nw ring := (ownE_ints oN hsr).ext x4
  have gc4 : G4[h.length]? = some (lacB L.T cv rv) := (x1.trans x14).get g0
  have hck := fun base => run_rcheck (base := base) aT4 (by omega) (by omega)
  have g01 := x1.get g0'
  unfold lacB rcB at eG4
  unfold rcB at gT4
  have hlc := fun {K} (e : Ext G4 K) => lenI (hC.ext (xh4.trans e))
  by_cases c : chkL L = 0
  · have hok := chkL_iff.1 c
    have hn := hok.n
    rw [c] at hck
    obtain ⟨lw, G5, e5, x5, aA⟩ := run_All (base := h.length) (h := G4) (by omega) aT4 hok
    have l5 := x5.len
    have olw := aA.one
    have hfew := fnd_few (L := L) hn.2
    have hln := aA.all.len (by omega)
    have gT5 := x5.get gT4
    have gc5 := x5.get gc4
    unfold lacB at gc5
    have hlc5 := hlc x5
    have hrd := fun base => run_rordered (base := base) (h := G5) (n := L.C.length) (hO.ext (xh4.trans x5)) (by omega)
    by_cases cf : fnd L = []
    · obtain ⟨-, -, -, rv, -⟩ := found_none c cf
      rw [cf] at hln
      have z0 : ((([] : List (List Int)).length : Nat) : Int) = 0 := rfl
      by_cases co : ordL o L.C.length = 0
      · have hoo := ordL_iff.1 co
        rw [co] at hrd
        obtain ⟨_, Z, e6, x6, tw0, rfl, oT0⟩ := run_rturned (base := h.length) (h := G5) (by omega) (aT4.ext x5) hok (hO.ext (xh4.trans x5)) hoo (hG.ext (xh4.trans x5)) (by omega)
        have ot0 := oT0.one
        have xZ := x5.trans x6
        obtain ⟨lt, et, tv⟩ : ∃ lt et, trdE L o ring = (lt, et) := ⟨_, _, rfl⟩
        rw [tv] at e6 oT0
        have hT : Ints Z tw0 lt := own_ints oT0 (by have := @trdE_small L o ring; rw [tv] at this; exact this)
        have lZ := xZ.len
        have aO := aO4.ext xZ
        have iM := iM4.ext xZ
        have iN := iN4.ext xZ
        have gO := xZ.get gO4
        have gT := xZ.get gT4
        have gc := xZ.get gc4
        obtain ⟨_, Z1, c2, z1, gw, lg, rfl, oG, rP1, rP2⟩ := run_Ring (base := h.length) (h := Z) (by omega) aO
        have ogw := oG.one
        rw [rv] at c2 rP1 rP2
        have lz1 := z1.len
        obtain ⟨_, Z2, c3, z2, tw, rfl, oU⟩ := run_Turned (base := h.length) (h := Z1) (by omega) (aO.ext z1) (iM.ext z1) (iN.ext z1)
        have otw := oU.one
        rw [tv] at c3 oU
        have gO1 := z1.get gO
        have gO2 := z2.get gO1
        have z12 := z1.trans z2
        have gT2 := z12.get gT
        have gc2 := z12.get gc
        have slt : Small lt := by have := @trdE_small L o ring; rw [tv] at this; exact this
        have iT : Ints Z2 tw lt := own_ints oU slt
        have xh := xh4.trans (xZ.trans z12)
        have q1 := fun base => run_eqI (base := base) iT (hT.ext z12)
        have q3 := fun base => run_same (base := base) (aO.ext z12) (hL.ext xh) (by omega)
        have q4 := fun base => run_eqI (base := base) (iM.ext z12) (hO.ext xh)
        have q6 := fun base => run_eqI (base := base) (iN.ext z12) (hG.ext xh)
        rw [decide_eq_true rfl] at q1 q4 q6
        have q5 := fun base => run_awake (base := base) (h := Z2)
        unfold lacB at gO gO1 gO2 gc2
        have hlgz := rP1 (by omega)
        rw [hlgz] at oG
        have hlg := own_len (oG.ext z2) Fc.el25 (by simp)
        have z00 : ((([] : List Int).length : Nat) : Int) = 0 := rfl
        have hsp := @Nat.succ_ne_zero; repeat' (first | simp (disch := first | exact dschL65 | fail) only [go_sem, ↓reduceIte, hsp, ← eG0, g0', hg, hlo, hlr, t1, t2, e1, g01, e2, e3, e4, ← eG4, gT4, hck, eq_self, e5, hln, z0, gT5, gc5, hlc5, hrd, e6, gO, c2, gO1, c3, q1, q3, q4, q5, q6, gO2, gc2, eqB, decide_true, hlg, z00] | refine WP_drw ?_ | refine cnd_intro (fun hsp => ?_) fun hsp => ?_)
        exact fB rfl xh
      · have tu : (ordL o L.C.length = 0) = False := eq_false co
        obtain ⟨Z, eZ⟩ : ∃ Z, Z = G5 := ⟨_, rfl⟩
        have xZ : Ext G4 Z := by rw [eZ]; exact x5
        rw [← eZ] at e5 hln gT5 gc5 hlc5 hrd
        obtain ⟨lt, elt⟩ : ∃ lt : List Int, lt = [] := ⟨_, rfl⟩
        have hT : Ints Z (.slice none 0 0) lt := by rw [elt]; exact ints_nil
        have tv : trdE L o ring = (lt, ordL o L.C.length) := by
          have : lcdE L o = ordL o L.C.length := by unfold lcdE; rw [if_pos c]
          unfold trdE; rw [this, if_pos co, elt]
        have lZ := xZ.len
        have aO := aO4.ext xZ
        have iM := iM4.ext xZ
        have iN := iN4.ext xZ
        have gO := xZ.get gO4
        have gT := xZ.get gT4
        have gc := xZ.get gc4
        obtain ⟨_, Z1, c2, z1, gw, lg, rfl, oG, rP1, rP2⟩ := run_Ring (base := h.length) (h := Z) (by omega) aO
        have ogw := oG.one
        rw [rv] at c2 rP1 rP2
        have lz1 := z1.len
        obtain ⟨_, Z2, c3, z2, tw, rfl, oU⟩ := run_Turned (base := h.length) (h := Z1) (by omega) (aO.ext z1) (iM.ext z1) (iN.ext z1)
        have otw := oU.one
        rw [tv] at c3 oU
        have gO1 := z1.get gO
        have gO2 := z2.get gO1
        have z12 := z1.trans z2
        have gT2 := z12.get gT
        have gc2 := z12.get gc
        have slt : Small lt := by have := @trdE_small L o ring; rw [tv] at this; exact this
        have iT : Ints Z2 tw lt := own_ints oU slt
        have xh := xh4.trans (xZ.trans z12)
        have q1 := fun base => run_eqI (base := base) iT (hT.ext z12)
        have q3 := fun base => run_same (base := base) (aO.ext z12) (hL.ext xh) (by omega)
        have q4 := fun base => run_eqI (base := base) (iM.ext z12) (hO.ext xh)
        have q6 := fun base => run_eqI (base := base) (iN.ext z12) (hG.ext xh)
        rw [decide_eq_true rfl] at q1 q4 q6
        have q5 := fun base => run_awake (base := base) (h := Z2)
        unfold lacB at gO gO1 gO2 gc2
        have hlgz := rP1 (by omega)
        rw [hlgz] at oG
        have hlg := own_len (oG.ext z2) Fc.el25 (by simp)
        have z00 : ((([] : List Int).length : Nat) : Int) = 0 := rfl
        have hsp := @Nat.succ_ne_zero; repeat' (first | simp (disch := first | exact dschL65 | fail) only [go_sem, ↓reduceIte, hsp, ← eG0, g0', hg, hlo, hlr, t1, t2, e1, g01, e2, e3, e4, ← eG4, gT4, hck, eq_self, e5, hln, z0, gT5, gc5, hlc5, hrd, tu, gO, c2, gO1, c3, q1, q3, q4, q5, q6, gO2, gc2, eqB, decide_true, hlg, z00] | refine WP_drw ?_ | refine cnd_intro (fun hsp => ?_) fun hsp => ?_)
        exact fB rfl xh
    · obtain ⟨-, rv⟩ := found_some c cf
      have hpos := List.length_pos_iff.2 cf
      have u0 : (((fnd L).length : Int) = 0) = False := eq_false (by omega)
      by_cases cn : (fnd L).length = 1
      · rw [if_pos cn] at rv
        have u1 : ((fnd L).length : Int) = 1 := by omega
        have u2 : ((1 : Int) = 0) = False := eq_false (by omega)
        by_cases co : ordL o L.C.length = 0
        · have hoo := ordL_iff.1 co
          rw [co] at hrd
          obtain ⟨_, Z, e6, x6, tw0, rfl, oT0⟩ := run_rturned (base := h.length) (h := G5) (by omega) (aT4.ext x5) hok (hO.ext (xh4.trans x5)) hoo (hG.ext (xh4.trans x5)) (by omega)
          have ot0 := oT0.one
          have xZ := x5.trans x6
          obtain ⟨lt, et, tv⟩ : ∃ lt et, trdE L o ring = (lt, et) := ⟨_, _, rfl⟩
          rw [tv] at e6 oT0
          have hT : Ints Z tw0 lt := own_ints oT0 (by have := @trdE_small L o ring; rw [tv] at this; exact this)
          have lZ := xZ.len
          have aO := aO4.ext xZ
          have iM := iM4.ext xZ
          have iN := iN4.ext xZ
          have gO := xZ.get gO4
          have gT := xZ.get gT4
          have gc := xZ.get gc4
          obtain ⟨_, Z1, c2, z1, gw, lg, rfl, oG, rP1, rP2⟩ := run_Ring (base := h.length) (h := Z) (by omega) aO
          have ogw := oG.one
          rw [rv] at c2 rP1 rP2
          have lz1 := z1.len
          obtain ⟨_, Z2, c3, z2, tw, rfl, oU⟩ := run_Turned (base := h.length) (h := Z1) (by omega) (aO.ext z1) (iM.ext z1) (iN.ext z1)
          have otw := oU.one
          rw [tv] at c3 oU
          have gO1 := z1.get gO
          have gO2 := z2.get gO1
          have z12 := z1.trans z2
          have gT2 := z12.get gT
          have gc2 := z12.get gc
          have slt : Small lt := by have := @trdE_small L o ring; rw [tv] at this; exact this
          have iT : Ints Z2 tw lt := own_ints oU slt
          have xh := xh4.trans (xZ.trans z12)
          have q1 := fun base => run_eqI (base := base) iT (hT.ext z12)
          have q3 := fun base => run_same (base := base) (aO.ext z12) (hL.ext xh) (by omega)
          have q4 := fun base => run_eqI (base := base) (iM.ext z12) (hO.ext xh)
          have q6 := fun base => run_eqI (base := base) (iN.ext z12) (hG.ext xh)
          rw [decide_eq_true rfl] at q1 q4 q6
          have q5 := fun base => run_awake (base := base) (h := Z2)
          unfold lacB at gO gO1 gO2 gc2
          have hlgz := rP1 (by omega)
          rw [hlgz] at oG
          have hlg := own_len (oG.ext z2) Fc.el25 (by simp)
          have z00 : ((([] : List Int).length : Nat) : Int) = 0 := rfl
          have hsp := @Nat.succ_ne_zero; repeat' (first | simp (disch := first | exact dschL65 | fail) only [go_sem, ↓reduceIte, hsp, ← eG0, g0', hg, hlo, hlr, t1, t2, e1, g01, e2, e3, e4, ← eG4, gT4, hck, eq_self, e5, hln, u1, u2, gT5, gc5, hlc5, hrd, e6, gO, c2, gO1, c3, q1, q3, q4, q5, q6, gO2, gc2, eqB, decide_true, hlg, z00] | refine WP_drw ?_ | refine cnd_intro (fun hsp => ?_) fun hsp => ?_)
          exact fB rfl xh
        · have tu : (ordL o L.C.length = 0) = False := eq_false co
          obtain ⟨Z, eZ⟩ : ∃ Z, Z = G5 := ⟨_, rfl⟩
          have xZ : Ext G4 Z := by rw [eZ]; exact x5
          rw [← eZ] at e5 hln gT5 gc5 hlc5 hrd
          obtain ⟨lt, elt⟩ : ∃ lt : List Int, lt = [] := ⟨_, rfl⟩
          have hT : Ints Z (.slice none 0 0) lt := by rw [elt]; exact ints_nil
          have tv : trdE L o ring = (lt, ordL o L.C.length) := by
            have : lcdE L o = ordL o L.C.length := by unfold lcdE; rw [if_pos c]
            unfold trdE; rw [this, if_pos co, elt]
          have lZ := xZ.len
          have aO := aO4.ext xZ
          have iM := iM4.ext xZ
          have iN := iN4.ext xZ
          have gO := xZ.get gO4
          have gT := xZ.get gT4
          have gc := xZ.get gc4
          obtain ⟨_, Z1, c2, z1, gw, lg, rfl, oG, rP1, rP2⟩ := run_Ring (base := h.length) (h := Z) (by omega) aO
          have ogw := oG.one
          rw [rv] at c2 rP1 rP2
          have lz1 := z1.len
          obtain ⟨_, Z2, c3, z2, tw, rfl, oU⟩ := run_Turned (base := h.length) (h := Z1) (by omega) (aO.ext z1) (iM.ext z1) (iN.ext z1)
          have otw := oU.one
          rw [tv] at c3 oU
          have gO1 := z1.get gO
          have gO2 := z2.get gO1
          have z12 := z1.trans z2
          have gT2 := z12.get gT
          have gc2 := z12.get gc
          have slt : Small lt := by have := @trdE_small L o ring; rw [tv] at this; exact this
          have iT : Ints Z2 tw lt := own_ints oU slt
          have xh := xh4.trans (xZ.trans z12)
          have q1 := fun base => run_eqI (base := base) iT (hT.ext z12)
          have q3 := fun base => run_same (base := base) (aO.ext z12) (hL.ext xh) (by omega)
          have q4 := fun base => run_eqI (base := base) (iM.ext z12) (hO.ext xh)
          have q6 := fun base => run_eqI (base := base) (iN.ext z12) (hG.ext xh)
          rw [decide_eq_true rfl] at q1 q4 q6
          have q5 := fun base => run_awake (base := base) (h := Z2)
          unfold lacB at gO gO1 gO2 gc2
          have hlgz := rP1 (by omega)
          rw [hlgz] at oG
          have hlg := own_len (oG.ext z2) Fc.el25 (by simp)
          have z00 : ((([] : List Int).length : Nat) : Int) = 0 := rfl
          have hsp := @Nat.succ_ne_zero; repeat' (first | simp (disch := first | exact dschL65 | fail) only [go_sem, ↓reduceIte, hsp, ← eG0, g0', hg, hlo, hlr, t1, t2, e1, g01, e2, e3, e4, ← eG4, gT4, hck, eq_self, e5, hln, u1, u2, gT5, gc5, hlc5, hrd, tu, gO, c2, gO1, c3, q1, q3, q4, q5, q6, gO2, gc2, eqB, decide_true, hlg, z00] | refine WP_drw ?_ | refine cnd_intro (fun hsp => ?_) fun hsp => ?_)
          exact fB rfl xh
      · rw [if_neg cn] at rv
        have u1 : (((fnd L).length : Int) = 1) = False := eq_false (by omega)
        obtain ⟨a0, fs, ad0, ld0, ow0⟩ := aA.at (A := G5) (by omega) (head_at cf)
        rw [Int.natCast_zero] at ad0
        have ofs := ow0.one
        have d0 := ld0 G5 .refl
        have hfo : (fnd L).headD [] ∈ fnd L := by
          cases q : fnd L with
          | nil => exact absurd q cf
          | cons a l => simp
        have hf5 : Ints G5 fs ((fnd L).headD []) := ownE_ints ow0 (ord_small (fnd_ord hfo) (by omega))
        by_cases co : ordL o L.C.length = 0
        · have hoo := ordL_iff.1 co
          rw [co] at hrd
          obtain ⟨_, Z, e6, x6, tw0, rfl, oT0⟩ := run_rturned (base := h.length) (h := G5) (by omega) (aT4.ext x5) hok (hO.ext (xh4.trans x5)) hoo (hG.ext (xh4.trans x5)) (by omega)
          have ot0 := oT0.one
          have xZ := x5.trans x6
          obtain ⟨lt, et, tv⟩ : ∃ lt et, trdE L o ring = (lt, et) := ⟨_, _, rfl⟩
          rw [tv] at e6 oT0
          have hT : Ints Z tw0 lt := own_ints oT0 (by have := @trdE_small L o ring; rw [tv] at this; exact this)
          have hf := hf5.ext x6
          have lZ := xZ.len
          have aO := aO4.ext xZ
          have iM := iM4.ext xZ
          have iN := iN4.ext xZ
          have gO := xZ.get gO4
          have gT := xZ.get gT4
          have gc := xZ.get gc4
          obtain ⟨_, Z1, c2, z1, gw, lg, rfl, oG, rP1, rP2⟩ := run_Ring (base := h.length) (h := Z) (by omega) aO
          have ogw := oG.one
          rw [rv] at c2 rP1 rP2
          have lz1 := z1.len
          obtain ⟨_, Z2, c3, z2, tw, rfl, oU⟩ := run_Turned (base := h.length) (h := Z1) (by omega) (aO.ext z1) (iM.ext z1) (iN.ext z1)
          have otw := oU.one
          rw [tv] at c3 oU
          have gO1 := z1.get gO
          have gO2 := z2.get gO1
          have z12 := z1.trans z2
          have gT2 := z12.get gT
          have gc2 := z12.get gc
          have slt : Small lt := by have := @trdE_small L o ring; rw [tv] at this; exact this
          have iT : Ints Z2 tw lt := own_ints oU slt
          have xh := xh4.trans (xZ.trans z12)
          have q1 := fun base => run_eqI (base := base) iT (hT.ext z12)
          have q3 := fun base => run_same (base := base) (aO.ext z12) (hL.ext xh) (by omega)
          have q4 := fun base => run_eqI (base := base) (iM.ext z12) (hO.ext xh)
          have q6 := fun base => run_eqI (base := base) (iN.ext z12) (hG.ext xh)
          rw [decide_eq_true rfl] at q1 q4 q6
          have q5 := fun base => run_awake (base := base) (h := Z2)
          unfold lacB at gO gO1 gO2 gc2
          obtain ⟨i1, i2, i3, i4⟩ := ring_is c (rP2 rfl)
          have hxo : (fnd L).headD [] ∈ fnd L := by
            cases q : fnd L with
            | nil => exact absurd q cf
            | cons a l => simp
          have lz2 := z2.len
          obtain ⟨_, Z3, c5, z3, uw, rfl, oV⟩ := run_rturned (base := h.length) (h := Z2) (by omega) (aT4.ext (xZ.trans z12)) hok (hf.ext z12) (fnd_ord hxo) (own_ints (oG.ext z2) i4) (ring_few c (rP2 rfl))
          have ouw := oV.one
          rw [i1] at c5
          have q7 := fun base => run_awake (base := base) (h := Z3)
          have hsp := @Nat.succ_ne_zero; repeat' (first | simp (disch := first | exact dschL65 | fail) only [go_sem, ↓reduceIte, hsp, ← eG0, g0', hg, hlo, hlr, t1, t2, e1, g01, e2, e3, e4, ← eG4, gT4, hck, eq_self, e5, hln, u0, u1, ad0, d0, gT5, gc5, hlc5, hrd, e6, gO, c2, gO1, c3, q1, q3, q4, q5, q6, gO2, gc2, eqB, decide_true, gT2, c5, q7] | refine WP_drw ?_ | refine cnd_intro (fun hsp => ?_) fun hsp => ?_)
          exact fB rfl (xh.trans z3)
        · have tu : (ordL o L.C.length = 0) = False := eq_false co
          obtain ⟨Z, eZ⟩ : ∃ Z, Z = G5 := ⟨_, rfl⟩
          have xZ : Ext G4 Z := by rw [eZ]; exact x5
          rw [← eZ] at e5 hln gT5 gc5 hlc5 hrd d0
          obtain ⟨lt, elt⟩ : ∃ lt : List Int, lt = [] := ⟨_, rfl⟩
          have hT : Ints Z (.slice none 0 0) lt := by rw [elt]; exact ints_nil
          have tv : trdE L o ring = (lt, ordL o L.C.length) := by
            have : lcdE L o = ordL o L.C.length := by unfold lcdE; rw [if_pos c]
            unfold trdE; rw [this, if_pos co, elt]
          have hf : Ints Z fs ((fnd L).headD []) := by rw [eZ]; exact hf5
          have lZ := xZ.len
          have aO := aO4.ext xZ
          have iM := iM4.ext xZ
          have iN := iN4.ext xZ
          have gO := xZ.get gO4
          have gT := xZ.get gT4
          have gc := xZ.get gc4
          obtain ⟨_, Z1, c2, z1, gw, lg, rfl, oG, rP1, rP2⟩ := run_Ring (base := h.length) (h := Z) (by omega) aO
          have ogw := oG.one
          rw [rv] at c2 rP1 rP2
          have lz1 := z1.len
          obtain ⟨_, Z2, c3, z2, tw, rfl, oU⟩ := run_Turned (base := h.length) (h := Z1) (by omega) (aO.ext z1) (iM.ext z1) (iN.ext z1)
          have otw := oU.one
          rw [tv] at c3 oU
          have gO1 := z1.get gO
          have gO2 := z2.get gO1
          have z12 := z1.trans z2
          have gT2 := z12.get gT
          have gc2 := z12.get gc
          have slt : Small lt := by have := @trdE_small L o ring; rw [tv] at this; exact this
          have iT : Ints Z2 tw lt := own_ints oU slt
          have xh := xh4.trans (xZ.trans z12)
          have q1 := fun base => run_eqI (base := base) iT (hT.ext z12)
          have q3 := fun base => run_same (base := base) (aO.ext z12) (hL.ext xh) (by omega)
          have q4 := fun base => run_eqI (base := base) (iM.ext z12) (hO.ext xh)
          have q6 := fun base => run_eqI (base := base) (iN.ext z12) (hG.ext xh)
          rw [decide_eq_true rfl] at q1 q4 q6
          have q5 := fun base => run_awake (base := base) (h := Z2)
          unfold lacB at gO gO1 gO2 gc2
          obtain ⟨i1, i2, i3, i4⟩ := ring_is c (rP2 rfl)
          have hxo : (fnd L).headD [] ∈ fnd L := by
            cases q : fnd L with
            | nil => exact absurd q cf
            | cons a l => simp
          have lz2 := z2.len
          obtain ⟨_, Z3, c5, z3, uw, rfl, oV⟩ := run_rturned (base := h.length) (h := Z2) (by omega) (aT4.ext (xZ.trans z12)) hok (hf.ext z12) (fnd_ord hxo) (own_ints (oG.ext z2) i4) (ring_few c (rP2 rfl))
          have ouw := oV.one
          rw [i1] at c5
          have q7 := fun base => run_awake (base := base) (h := Z3)
          have hsp := @Nat.succ_ne_zero; repeat' (first | simp (disch := first | exact dschL65 | fail) only [go_sem, ↓reduceIte, hsp, ← eG0, g0', hg, hlo, hlr, t1, t2, e1, g01, e2, e3, e4, ← eG4, gT4, hck, eq_self, e5, hln, u0, u1, ad0, d0, gT5, gc5, hlc5, hrd, tu, gO, c2, gO1, c3, q1, q3, q4, q5, q6, gO2, gc2, eqB, decide_true, gT2, c5, q7] | refine WP_drw ?_ | refine cnd_intro (fun hsp => ?_) fun hsp => ?_)
          exact fB rfl (xh.trans z3)
  · have tu : (chkL L = 0) = False := eq_false c
    obtain ⟨-, -, -, rv, -⟩ := found_bad c
    obtain ⟨Z, eZ⟩ : ∃ Z, Z = G4 := ⟨_, rfl⟩
    have xZ : Ext G4 Z := by rw [eZ]; exact .refl
    have gT4' := gT4
    rw [← eZ] at eG4 gT4' hck
    obtain ⟨lt, elt⟩ : ∃ lt : List Int, lt = [] := ⟨_, rfl⟩
    have hT : Ints Z (.slice none 0 0) lt := by rw [elt]; exact ints_nil
    have tv : trdE L o ring = (lt, chkL L) := by
      have : lcdE L o = chkL L := by unfold lcdE; rw [if_neg c]
      unfold trdE; rw [this, if_pos c, elt]
    have lZ := xZ.len
    have aO := aO4.ext xZ
    have iM := iM4.ext xZ
    have iN := iN4.ext xZ
    have gO := xZ.get gO4
    have gT := xZ.get gT4
    have gc := xZ.get gc4
    obtain ⟨_, Z1, c2, z1, gw, lg, rfl, oG, rP1, rP2⟩ := run_Ring (base := h.length) (h := Z) (by omega) aO
    have ogw := oG.one
    rw [rv] at c2 rP1 rP2
    have lz1 := z1.len
    obtain ⟨_, Z2, c3, z2, tw, rfl, oU⟩ := run_Turned (base := h.length) (h := Z1) (by omega) (aO.ext z1) (iM.ext z1) (iN.ext z1)
    have otw := oU.one
    rw [tv] at c3 oU
    have gO1 := z1.get gO
    have gO2 := z2.get gO1
    have z12 := z1.trans z2
    have gT2 := z12.get gT
    have gc2 := z12.get gc
    have slt : Small lt := by have := @trdE_small L o ring; rw [tv] at this; exact this
    have iT : Ints Z2 tw lt := own_ints oU slt
    have xh := xh4.trans (xZ.trans z12)
    have q1 := fun base => run_eqI (base := base) iT (hT.ext z12)
    have q3 := fun base => run_same (base := base) (aO.ext z12) (hL.ext xh) (by omega)
    have q4 := fun base => run_eqI (base := base) (iM.ext z12) (hO.ext xh)
    have q6 := fun base => run_eqI (base := base) (iN.ext z12) (hG.ext xh)
    rw [decide_eq_true rfl] at q1 q4 q6
    have q5 := fun base => run_awake (base := base) (h := Z2)
    unfold lacB at gO gO1 gO2 gc2
    have hlgz := rP1 (by omega)
    rw [hlgz] at oG
    have hlg := own_len (oG.ext z2) Fc.el25 (by simp)
    have z00 : ((([] : List Int).length : Nat) : Int) = 0 := rfl
    have hsp := @Nat.succ_ne_zero; repeat' (first | simp (disch := first | exact dschL65 | fail) only [go_sem, ↓reduceIte, hsp, ← eG0, g0', hg, hlo, hlr, t1, t2, e1, g01, e2, e3, e4, ← eG4, gT4', hck, eq_self, tu, gO, c2, gO1, c3, q1, q3, q4, q5, q6, gO2, gc2, eqB, decide_true, hlg, z00] | refine WP_drw ?_ | refine cnd_intro (fun hsp => ?_) fun hsp => ?_)
    exact fB rfl xh
end Go.AM
