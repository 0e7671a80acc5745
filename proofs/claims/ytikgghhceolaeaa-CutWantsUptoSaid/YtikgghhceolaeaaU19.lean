/-
  The reference: all cuts from a unit (All); a ribbon as the reference has it (theirs); copies.
-/
import Derived.Test.YtikgghhceolaeaaU18
import Derived.Test.YtikgghhceolaeaaU10
set_option linter.unusedSimpArgs false
set_option linter.unusedVariables false
namespace Go.AM
open Go.Proofs.Try
theorem dschN26 {p : Prop} (h : p := by first | exact Nat.ne_of_beq_eq_false rfl | assumption | (apply asOne; (first | exact One.int | exact One.bool | assumption | exact Ints.one (by assumption) | exact Rows.one (by assumption) | exact Own.one (by assumption) | exact One.lit ⟨rfl, rfl, rfl⟩)) | (apply asInts; (repeat first | assumption | exact ints_nil | apply Ints.app); done) | (apply asRows; (repeat first | assumption | exact Rows.nil | apply Rows.app); done) | (apply asScal; (first | apply allS1 | apply allS2 | apply allS3 | apply allS4) <;> (first | exact One.int | exact One.bool | assumption | exact Ints.one (by assumption) | exact Rows.one (by assumption) | exact Own.one (by assumption) | exact One.lit ⟨rfl, rfl, rfl⟩)) | exact litT rfl | exact litF rfl | omega | (simp only [List.length_append, List.length_cons, List.length_nil, List.length_set, List.length_reverse]; first | done | omega) | fail) : p := h
attribute [-go_sem] put_ne put_same
attribute [local go_sem ↓] put_if
theorem bsD1 {lit : Bool} {H : Heap} {a f : Int} {j : Bool} : bsA prog lit H 61 1 [(0, .agg [.int .i64 a, .int .i64 f, .bool j])] = some (.slice (some ⟨H.length, 0, 0⟩) 1 1, H ++ [rowE encC 80 [⟨a, f, j⟩] 0]) := by
  simp [bsA, rowOf, Fc.el61, fillA, repCells, AVal.isN, AVal.cells, splice, rowE, flat, encC]
theorem bsV1 {lit : Bool} {H : Heap} {w : Wnt} : bsA prog lit H 29 1 [(0, .agg [.int .i64 w.lg, .int .i64 w.pr, .int .i64 w.off, .int .i64 w.fl, .int .i64 w.jn])] = some (.slice (some ⟨H.length, 0, 0⟩) 1 1, H ++ [rowE encW 118 [w] 0]) := by
  simp [bsA, rowOf, Fc.el29, fillA, repCells, AVal.isN, AVal.cells, splice, rowE, flat, encW]
theorem snocD {b base : Nat} {A : Heap} {w : AVal} {l : List Ct} {r : Ct} (hO : Own encC 80 b A w l) (hb : base ≤ b) (hbh : b ≤ A.length) (hl : l.length ≤ 1000000) :
    ∃ w' H, appendA prog base (A ++ [rowE encC 80 [r] 0]) 61 w (.slice (some ⟨A.length, 0, 0⟩) 1 1) = some (w', H) ∧ Own encC 80 b H w' (l ++ [r]) ∧ A.length ≤ H.length ∧ (∀ G, G.length ≤ b → Ext G A → Ext G H) ∧ One w' ∧ KeepO encC 80 A H := by
  obtain ⟨B, eB⟩ : ∃ B, B = A ++ [rowE encC 80 [r] 0] := ⟨_, rfl⟩
  have xB : Ext A B := by rw [eB]; exact .app .refl
  have lB' : B.length = A.length + 1 := by rw [eB]; simp
  have hx : Rows encC B (.slice (some ⟨A.length, 0, 0⟩) 1 1) [r] := Rows.own (by rw [eB]; exact get_eq rfl) rfl (by simp)
  rw [← eB]
  obtain ⟨w', H, a1, a2, a3, a4, a5, a6⟩ := (hO.ext xB).appendRX (P := prog) (base := base) (t := 61) hx Fc.el61 encC_sc hb (by omega) (by simp) (by simp; omega)
  have a6 : KeepO encC 80 B H := a6
  exact ⟨w', H, a1, a2, by omega, fun G h1 h2 => a4 G h1 (h2.trans xB), a5, fun i y hi hy => a6 i y (xB.get hi) hy⟩
theorem snocV {b base : Nat} {A : Heap} {w : AVal} {l : List Wnt} {r : Wnt} (hO : Own encW 118 b A w l) (hb : base ≤ b) (hbh : b ≤ A.length) (hl : l.length ≤ 1000000) :
    ∃ w' H, appendA prog base (A ++ [rowE encW 118 [r] 0]) 29 w (.slice (some ⟨A.length, 0, 0⟩) 1 1) = some (w', H) ∧ Own encW 118 b H w' (l ++ [r]) ∧ A.length ≤ H.length ∧ (∀ G, G.length ≤ b → Ext G A → Ext G H) ∧ One w' ∧ KeepO encW 118 A H := by
  obtain ⟨B, eB⟩ : ∃ B, B = A ++ [rowE encW 118 [r] 0] := ⟨_, rfl⟩
  have xB : Ext A B := by rw [eB]; exact .app .refl
  have lB' : B.length = A.length + 1 := by rw [eB]; simp
  have hx : Rows encW B (.slice (some ⟨A.length, 0, 0⟩) 1 1) [r] := Rows.own (by rw [eB]; exact get_eq rfl) rfl (by simp)
  rw [← eB]
  obtain ⟨w', H, a1, a2, a3, a4, a5, a6⟩ := (hO.ext xB).appendRX (P := prog) (base := base) (t := 29) hx Fc.el29 encW_sc hb (by omega) (by simp) (by simp; omega)
  have a6 : KeepO encW 118 B H := a6
  exact ⟨w', H, a1, a2, by omega, fun G h1 h2 => a4 G h1 (h2.trans xB), a5, fun i y hi hy => a6 i y (xB.get hi) hy⟩
theorem run_own {base : Nat} {h : Heap} {v : AVal} {R : Rib} (hb : base ≤ h.length) (hA : RibAt h v R) (hf : R.F.length ≤ 1000) (hw : R.W.length ≤ 1000) :
    Ret prog raw base (.fn 17 [] []) [v] h (fun w H => Ext h H ∧ ∃ fw ww, w = .agg [.int .i64 R.L, fw, ww] ∧ OwnE encI 3 h.length H fw R.F ∧ OwnE encW 49 h.length H ww R.W) := by
  obtain ⟨fv, wv, rfl, hF, hW⟩ := hA
  have o1 := hF.one
  have o2 := hW.one
  obtain ⟨G, eG⟩ : ∃ G, G = h ++ [ribB R.L fv wv] ++ [ribB 0 (.slice none 0 0) (.slice none 0 0)] := ⟨_, rfl⟩
  have xG : Ext h G := by rw [eG]; exact .app (.app .refl)
  have lG : G.length = h.length + 2 := by rw [eG]; simp
  have g0 : G[h.length]? = some (ribB R.L fv wv) := by rw [eG]; exact get_app (get_eq rfl)
  have g00 : G[h.length + 1]? = some (ribB 0 (.slice none 0 0) (.slice none 0 0)) := by rw [eG]; exact get_eq (by simp)
  obtain ⟨fw, H1, e1, x1, oF⟩ := run_dupI (base := base) (by omega) (hF.ext xG) hf
  have l1 := x1.len
  obtain ⟨ww, H2, e2, x2, oW⟩ := run_dupW (base := base) (by omega) (hW.ext (xG.trans x1)) hw
  have l2 := x2.len
  have g1 := x1.get g0
  have g2 := x2.get g1
  have g12 := (x1.trans x2).get g00
  have ow1 := oF.one
  have ow2 := oW.one
  have xf : Ext h H2 := (xG.trans x1).trans x2
  unfold ribB at eG g0 g00 g1 g2 g12
  refine ret_raw func17 rfl (by kernel_rfl) ?_
  have hsp := @Nat.succ_ne_zero; repeat' (first | simp (disch := first | exact dschN26 | fail) only [go_sem, ↓reduceIte, hsp, ← eG, g0, e1, g1, e2, g2, g12] | refine WP_drw ?_ | refine cnd_intro (fun hsp => ?_) fun hsp => ?_)
  exact ⟨xf.set (by omega), fw, ww, rfl, ((oF.ext x2).setBox g12).low (by omega), (oW.setBox g12).low (by omega)⟩
/-- The same ribbon twice. -/
theorem run_same {base : Nat} {h : Heap} {v w : AVal} {R : Rib} (hv : RibAt h v R) (hw : RibAt h w R) (hl : R.W.length ≤ 1000) : callL prog raw base (.fn 24 [] []) [v, w] h = some (.bool true, h) := by
  obtain ⟨cv, rv, rfl, hC, hR⟩ := hv
  obtain ⟨cw, rw', rfl, hC2, hR2⟩ := hw
  have o1 := hC.one
  have o2 := hR.one
  have o3 := hC2.one
  have o4 := hR2.one
  obtain ⟨G, eG⟩ : ∃ G, G = h ++ [ribB R.L cv rv] ++ [ribB R.L cw rw'] := ⟨_, rfl⟩
  have xG : Ext h G := by rw [eG]; exact .app (.app .refl)
  have g0 : G[h.length]? = some (ribB R.L cv rv) := by rw [eG]; exact get_app (get_eq rfl)
  have g1 : G[h.length + 1]? = some (ribB R.L cw rw') := by rw [eG]; exact get_eq (by simp)
  have e1 := fun base => run_eqI (base := base) (hC.ext xG) (hC2.ext xG)
  rw [decide_eq_true rfl] at e1
  have e2 := fun base => run_eqW (base := base) (hR.ext xG) (hR2.ext xG) hl
  unfold ribB at eG g0 g1
  refine callL_run func24 rfl rfl ?_
  have hsp := @Nat.succ_ne_zero; repeat' (first | simp (disch := first | exact dschN26 | fail) only [go_sem, ↓reduceIte, hsp, ← eG, g0, g1, eq_self, decide_true, e1, e2] | refine WP_drw ?_ | refine cnd_intro (fun hsp => ?_) fun hsp => ?_)
  exact fB rfl xG
theorem run_great {base : Nat} {h : Heap} {v : AVal} {R : Rib} (hA : RibAt h v R) : callL prog raw base (.fn 31 [] []) [v] h = some (.bool (decide (20 < R.F.length ∨ 12 < R.W.length)), h) := by
  obtain ⟨cv, rv, rfl, hC, hR⟩ := hA
  have o1 := hC.one
  have o2 := hR.one
  obtain ⟨G, eG⟩ : ∃ G, G = h ++ [ribB R.L cv rv] := ⟨_, rfl⟩
  have xG : Ext h G := by rw [eG]; exact .app .refl
  have g0 : G[h.length]? = some (ribB R.L cv rv) := by rw [eG]; exact get_eq rfl
  have hn1 := lenI (hC.ext xG)
  have hn2 := (hR.ext xG).len (P := prog) Fc.el23
  unfold ribB at eG g0
  refine callL_run func31 rfl rfl ?_
  by_cases c : 20 < R.F.length
  · have t1 : ((R.F.length : Int) > 20) = True := eq_true (by omega)
    have hsp := @Nat.succ_ne_zero; repeat' (first | simp (disch := first | exact dschN26 | fail) only [go_sem, ↓reduceIte, hsp, ← eG, g0, hn1, t1] | refine WP_drw ?_ | refine cnd_intro (fun hsp => ?_) fun hsp => ?_)
    exact fB (by rw [decide_eq_true (.inl c)]) xG
  · have t1 : ((R.F.length : Int) > 20) = False := eq_false (by omega)
    by_cases d : 12 < R.W.length
    · have t2 : ((R.W.length : Int) > 12) = True := eq_true (by omega)
      have hsp := @Nat.succ_ne_zero; repeat' (first | simp (disch := first | exact dschN26 | fail) only [go_sem, ↓reduceIte, hsp, ← eG, g0, hn1, hn2, t1, t2] | refine WP_drw ?_ | refine cnd_intro (fun hsp => ?_) fun hsp => ?_)
      exact fB (by rw [decide_eq_true (.inr d)]) xG
    · have t2 : ((R.W.length : Int) > 12) = False := eq_false (by omega)
      have hsp := @Nat.succ_ne_zero; repeat' (first | simp (disch := first | exact dschN26 | fail) only [go_sem, ↓reduceIte, hsp, ← eG, g0, hn1, hn2, t1, t2] | refine WP_drw ?_ | refine cnd_intro (fun hsp => ?_) fun hsp => ?_)
      exact fB (by rw [decide_eq_false (by omega)]) xG
end Go.AM
/-
  The reference: a ribbon as the reference has it (theirs); cuts as the reference has them (cuts).
-/
namespace Go.AM
open Go.Proofs.Try
theorem dschN27 {p : Prop} (h : p := by first | exact Nat.ne_of_beq_eq_false rfl | assumption | (apply asOne; (first | exact One.int | exact One.bool | assumption | exact Ints.one (by assumption) | exact Rows.one (by assumption) | exact Own.one (by assumption) | exact One.lit ⟨rfl, rfl, rfl⟩)) | (apply asInts; (repeat first | assumption | exact ints_nil | apply Ints.app); done) | (apply asRows; (repeat first | assumption | exact Rows.nil | apply Rows.app); done) | (apply asScal; (first | apply allS1 | apply allS2 | apply allS3 | apply allS4) <;> (first | exact One.int | exact One.bool | assumption | exact Ints.one (by assumption) | exact Rows.one (by assumption) | exact Own.one (by assumption) | exact One.lit ⟨rfl, rfl, rfl⟩)) | exact litT rfl | exact litF rfl | omega | (simp only [List.length_append, List.length_cons, List.length_nil, List.length_set, List.length_reverse]; first | done | omega) | fail) : p := h
attribute [-go_sem] put_ne put_same
attribute [local go_sem ↓] put_if
set_option maxHeartbeats 2000000 in
theorem run_theirs {base : Nat} {h : Heap} {v : AVal} {R : Rib} (hb : base ≤ h.length) (hA : RibAt h v R) (hf : R.F.length ≤ 1000) (hl : R.W.length ≤ 1000) :
    Ret prog raw base (.fn 18 [] []) [v] h (fun w H => Ext h H ∧ RibAt H w R ∧ ∃ fw ww, w = .agg [.int .i64 R.L, fw, ww] ∧ One fw ∧ One ww) := by
  obtain ⟨fv, wv, rfl, hF, hW⟩ := hA
  have o1 := hF.one
  have o2 := hW.one
  obtain ⟨G1, eG1⟩ : ∃ G1, G1 = h ++ [ribB R.L fv wv] ++ [rrbB 0 (.slice none 0 0) (.slice none 0 0)] := ⟨_, rfl⟩
  have xG1 : Ext h G1 := by rw [eG1]; exact .app (.app .refl)
  have l1 : G1.length = h.length + 1 + 1 := by rw [eG1]; simp
  have g01 : G1[h.length]? = some (ribB R.L fv wv) := by rw [eG1]; exact get_app (get_eq rfl)
  have g11 : G1[h.length + 1]? = some (rrbB 0 (.slice none 0 0) (.slice none 0 0)) := by rw [eG1]; exact get_eq (by simp)
  obtain ⟨fw, G2, e2, x2, oF⟩ := run_dupI (base := base) (h := G1) (by omega) (hF.ext xG1) hf
  have l2 := x2.len
  have ofw := oF.one
  obtain ⟨G, eG⟩ : ∃ G, G = G2 ++ [rrbB R.L fw (.slice none 0 0)] := ⟨_, rfl⟩
  have xG2 : Ext G2 G := by rw [eG]; exact .app .refl
  have xG : Ext h G := (xG1.trans x2).trans xG2
  have lG : G.length = G2.length + 1 := by rw [eG]; simp
  have g02 := x2.get g01
  have g0 : G[h.length]? = some (ribB R.L fv wv) := xG2.get g02
  have g1 : G[h.length + 1]? = some (rrbB 0 (.slice none 0 0) (.slice none 0 0)) := xG2.get (x2.get g11)
  have g2 : G[G2.length]? = some (rrbB R.L fw (.slice none 0 0)) := by rw [eG]; exact get_eq rfl
  have hn := (hW.ext xG).len (P := prog) Fc.el23
  unfold ribB at eG1 g01 g02 g0
  unfold rrbB at eG1 eG
  refine ret_raw func18 rfl (by kernel_rfl) ?_
  have hsp := @Nat.succ_ne_zero; repeat' (first | simp (disch := first | exact dschN27 | fail) only [go_sem, ↓reduceIte, hsp, ← eG1, g01, e2, g02, ← eG, g0, hn] | refine WP_drw ?_ | refine cnd_intro (fun hsp => ?_) fun hsp => ?_)
  refine WP_count [(5, 5), (15, 25)] 0 R.W.length (Nat.zero_le _) (fun _ i fr K => fr 15 = .int .i64 (i : Int) ∧ Ext G2 K ∧ G2.length + 1 ≤ K.length ∧ ∃ w, K[G2.length]? = some (rrbB R.L fw w) ∧ Own encW 118 (G2.length + 1) K w (R.W.take i)) ?_ ?_ ?_
  · exact ⟨by (simp (disch := first | exact dschN27 | fail) only [go_sem, ↓reduceIte, Int.natCast_zero]; first | done | rfl), xG2, by omega, .slice none 0 0, g2, Own.nil⟩
  · rintro i fr K hi0 hi hAg ⟨r15, xK, lK, w, gK2, oW⟩
    have q2 := hAg 2 rfl
    have q3 := hAg 3 rfl
    have q13 := hAg 13 rfl
    have q14 := hAg 14 rfl
    try simp (disch := first | exact dschN27 | fail) only [go_sem, ↓reduceIte] at q2 q3 q13 q14
    have hlt : ((i : Int) < (R.W.length : Int)) = True := eq_true (by omega)
    have ow := oW.one
    obtain ⟨r, er⟩ : ∃ r, r = R.W[i] := ⟨_, rfl⟩
    have hx : R.W[i]? = some r := by rw [er]; exact List.getElem?_eq_getElem hi
    have iR := hW.ext ((xG1.trans x2).trans xK)
    have hbK : base ≤ K.length := by omega
    have ad := wnt_ad iR hi
    have ld := wnt_ld iR hx
    obtain ⟨K1, eK1⟩ : ∃ K1, K1 = K ++ [wntBk r] := ⟨_, rfl⟩
    have y1 : Ext K K1 := by rw [eK1]; exact .app .refl
    have gr : K1[K.length]? = some (wntBk r) := by rw [eK1]; exact get_eq rfl
    have st5 : ∀ (F : ABlk → Heap), stQ base K.length (some ⟨.cells [.int .i64 0, .int .i64 0, .int .i64 0, .int .i64 0, .int .i64 0] 49 false false, 0⟩) 0 0 [.int .i64 r.lg, .int .i64 r.pr, .int .i64 r.off, .int .i64 r.fl, .int .i64 r.jn] F = some (F (wntBk r)) := fun F => stQ_ok (by simp) rfl (by omega)
    have gK3 := y1.get gK2
    have ly1 : K1.length = K.length + 1 := by rw [eK1]; simp
    obtain ⟨w', K2, ea, oW', lW, eW, oneW, kW⟩ := snocV (base := base) (r := r) (oW.ext y1) (by omega) (by omega) (by rw [List.length_take]; omega)
    have gK5 := kW.box gK3
    have htk : R.W.take (i + 1) = R.W.take i ++ [r] := by rw [List.take_add_one, hx]; rfl
    unfold rrbB at gK2 gK3 gK5
    unfold wntBk at eK1 gr st5
    have hsp := @Nat.succ_ne_zero; repeat' (first | simp (disch := first | exact dschN27 | fail) only [go_sem, ↓reduceIte, hsp, r15, q2, q3, q13, q14, hlt, ad, ld, st5, ← eK1, gr, gK3, bsV1, ea, gK5] | refine WP_drw ?_ | refine cnd_intro (fun hsp => ?_) fun hsp => ?_)
    exact ⟨by (repeat first | exact Agree.refl | assumption | refine Agree.put rfl ?_ | refine Agree.put0 ?_ | refine Agree.sub rfl (by assumption) ?_), by omega, (eW G2 (by omega) (xK.trans y1)).set (by omega), by omega, w', by first | rfl | (rw [get_set (by omega)]; simp), by rw [htk]; exact oW'.setBox gK5⟩
  · rintro fr K hAg ⟨r15, xK, lK, w, gK2, oW⟩
    have q2 := hAg 2 rfl
    have q3 := hAg 3 rfl
    have q13 := hAg 13 rfl
    have q14 := hAg 14 rfl
    try simp (disch := first | exact dschN27 | fail) only [go_sem, ↓reduceIte] at q2 q3 q13 q14
    have hlt : ((R.W.length : Int) < (R.W.length : Int)) = False := eq_false (by omega)
    rw [List.take_length] at oW
    have ow := oW.one
    have gK1 := xK.get (x2.get g11)
    unfold rrbB at gK1 gK2
    have hsp := @Nat.succ_ne_zero; repeat' (first | simp (disch := first | exact dschN27 | fail) only [go_sem, ↓reduceIte, hsp, r15, q2, q3, q13, q14, hlt, gK2, gK1] | refine WP_drw ?_ | refine cnd_intro (fun hsp => ?_) fun hsp => ?_)
    have xf : Ext h (K.set (h.length + 1) ⟨.cells [.int .i64 R.L, fw, w] 31 false false, 0⟩) := ((xG1.trans x2).trans xK).set (by omega)
    have oW2 := oW.setBox (k := ⟨.cells [.int .i64 R.L, fw, w] 31 false false, 0⟩) gK1
    have oF2 := (oF.ext xK).setBox (k := ⟨.cells [.int .i64 R.L, fw, w] 31 false false, 0⟩) gK1
    exact ⟨xf, ⟨fw, w, rfl, ownE_ints oF2 ⟨by omega, hF.1.2⟩, oW2.rows (by omega)⟩, fw, w, rfl, ofw, ow⟩
end Go.AM
/-
  The reference: all cuts from a unit (All).
-/
namespace Go.AM
open Go.Proofs.Try
theorem dschN28 {p : Prop} (h : p := by first | exact Nat.ne_of_beq_eq_false rfl | assumption | (apply asOne; (first | exact One.int | exact One.bool | assumption | exact Ints.one (by assumption) | exact Rows.one (by assumption) | exact Own.one (by assumption) | exact One.lit ⟨rfl, rfl, rfl⟩)) | (apply asInts; (repeat first | assumption | exact ints_nil | apply Ints.app); done) | (apply asRows; (repeat first | assumption | exact Rows.nil | apply Rows.app); done) | (apply asScal; (first | apply allS1 | apply allS2 | apply allS3 | apply allS4) <;> (first | exact One.int | exact One.bool | assumption | exact Ints.one (by assumption) | exact Rows.one (by assumption) | exact Own.one (by assumption) | exact One.lit ⟨rfl, rfl, rfl⟩)) | exact litT rfl | exact litF rfl | omega | (simp only [List.length_append, List.length_cons, List.length_nil, List.length_set, List.length_reverse]; first | done | omega) | fail) : p := h
attribute [-go_sem] put_ne put_same
attribute [local go_sem ↓] put_if
theorem cutO_ev {R : Rib} {x k : Nat} {w : Wnt} (hw : R.W[k]? = some w) : cutO R x (2 * k) = (takL R w x false).map fun e => (⟨(k : Int), (x : Int), false⟩, e) := by
  unfold cutO
  rw [show (2 * k) / 2 = k by omega, hw, show decide ((2 * k) % 2 = 1) = false from decide_eq_false (by omega)]
theorem cutO_od {R : Rib} {x k : Nat} {w : Wnt} (hw : R.W[k]? = some w) : cutO R x (2 * k + 1) = (takL R w x true).map fun e => (⟨(k : Int), (x : Int), true⟩, e) := by
  unfold cutO
  rw [show (2 * k + 1) / 2 = k by omega, hw, show decide ((2 * k + 1) % 2 = 1) = true from decide_eq_true (by omega)]
theorem cutM_map {R : Rib} {x i : Nat} : (cutM R x (i + 1)).map (·.1) = (cutM R x i).map (·.1) ++ ((cutO R x i).map (·.1)).toList := by
  rw [cutM_succ, List.map_append]
  cases cutO R x i <;> rfl
theorem cutM_len {R : Rib} {x i : Nat} : (cutM R x i).length ≤ i := by
  unfold cutM
  exact Nat.le_trans (List.length_filterMap_le _ _) (by simp)
set_option maxRecDepth 100000 in
set_option maxHeartbeats 4000000 in
theorem run_rall {base : Nat} {h : Heap} {v : AVal} {R : Rib} {x : Nat} (hb : base ≤ h.length) (hA : RibAt h v R) (hR : RibOk R) (hx : x < R.L.toNat) :
    Ret prog raw base (.fn 45 [] []) [v, .int .i64 (x : Int)] h (fun u H => Ext h H ∧ Own encC 80 h.length H u ((cutL R x).map (·.1))) := by
  have hAe := fun H (e : Ext h H) => hA.ext e
  obtain ⟨fv, wv, rfl, hF, hW⟩ := hA
  have o1 := hF.one
  have o2 := hW.one
  have hnW := hR.nW
  obtain ⟨G, eG⟩ : ∃ G, G = h ++ [rrbB R.L fv wv] := ⟨_, rfl⟩
  have xG : Ext h G := by rw [eG]; exact .app .refl
  have g0 : G[h.length]? = some (rrbB R.L fv wv) := by rw [eG]; exact get_eq rfl
  have lG : G.length = h.length + 1 := by rw [eG]; simp
  unfold rrbB at eG
  refine ret_raw func45 rfl (by kernel_rfl) ?_
  have hsp := @Nat.succ_ne_zero; repeat' (first | simp (disch := first | exact dschN28 | fail) only [go_sem, ↓reduceIte, hsp, ← eG] | refine WP_drw ?_ | refine cnd_intro (fun hsp => ?_) fun hsp => ?_)
  refine WP_count [(5, 51)] 0 R.W.length (Nat.zero_le _) (fun _ k fr K => fr 6 = .int .i64 (k : Int) ∧ Ext G K ∧ ∃ w, fr 5 = w ∧ Own encC 80 G.length K w ((cutM R x (2 * k)).map (·.1))) ?_ ?_ ?_
  · exact ⟨by (simp (disch := first | exact dschN28 | fail) only [go_sem, ↓reduceIte, Int.natCast_zero]; first | done | rfl), .refl, .slice none 0 0, by (simp (disch := first | exact dschN28 | fail) only [go_sem, ↓reduceIte, Int.natCast_zero]; first | done | rfl), Own.nil⟩
  · rintro k fr K hk0 hk hAg ⟨r6, xK, w0, r5, oW⟩
    have p1 := hAg 1 rfl
    have p2 := hAg 2 rfl
    have p4 := hAg 4 rfl
    try simp (disch := first | exact dschN28 | fail) only [go_sem, ↓reduceIte] at p1 p2 p4
    have hlt : ((k : Int) < (R.W.length : Int)) = True := eq_true (by omega)
    have ow := oW.one
    have lK := xK.len
    have hn := rwn_len (hW.ext (xG.trans xK))
    have gK := xK.get g0
    have hw : R.W[k]? = some R.W[k] := List.getElem?_eq_getElem hk
    generalize R.W[k] = w at hw
    have cf := cutM_map (R := R) (x := x) (i := 2 * k)
    rw [cutO_ev hw] at cf
    have ct := cutM_map (R := R) (x := x) (i := 2 * k + 1)
    rw [cutO_od hw] at ct
    have h1 := fun base => run_allowed (base := base) (j := false) (hAe K (xG.trans xK)) hR hw hx
    unfold allV at h1
    cases q1 : takL R w x false with
    | none =>
      rw [q1] at h1 cf
      simp only [Option.map_none, Option.toList, List.append_nil] at cf
      obtain ⟨K1, eK1⟩ : ∃ K1, K1 = K := ⟨_, rfl⟩
      have xG1 : Ext G K1 := by rw [eK1]; exact xK
      have xK1 := xG.trans xG1
      have lK1 := xG1.len
      have oK1 : Own encC 80 G.length K1 w0 ((cutM R x (2 * k + 1)).map (·.1)) := by rw [cf, eK1]; exact oW
      have gK1 := xG1.get g0
      have ea := eK1
      unfold rrbB at gK
      subst eK1
      clear ea
      have ea : True := trivial
      have h2 := fun base => run_allowed (base := base) (j := true) (hAe K1 xK1) hR hw hx
      unfold allV at h2
      cases q2 : takL R w x true with
      | none =>
        rw [q2] at h2 ct
        simp only [Option.map_none, Option.toList, List.append_nil] at ct
        unfold rrbB at gK1
        have hsp := @Nat.succ_ne_zero; repeat' (first | simp (disch := first | exact dschN28 | fail) only [go_sem, ↓reduceIte, hsp, r6, r5, p1, p2, p4, hn, hlt, gK, gK1, h1, bsD1, ea, h2] | refine WP_drw ?_ | refine cnd_intro (fun hsp => ?_) fun hsp => ?_)
        exact ⟨by (repeat first | exact Agree.refl | assumption | refine Agree.put rfl ?_ | refine Agree.put0 ?_ | refine Agree.sub rfl (by assumption) ?_), by omega, xG1, _, rfl, by rw [show 2 * (k + 1) = 2 * k + 1 + 1 by omega, ct]; exact oK1⟩
      | some e2 =>
        rw [q2] at h2 ct
        simp only [Option.map_some, Option.toList] at ct
        obtain ⟨w2, K2, ea2, oK2, lK2, eK2, one2, kK2⟩ := snocD (base := base) (r := ⟨(k : Int), (x : Int), true⟩) oK1 (by omega) (by omega) (by rw [List.length_map]; have := cutM_len (R := R) (x := x) (i := 2 * k + 1); omega)
        unfold rrbB at gK1
        have hsp := @Nat.succ_ne_zero; repeat' (first | simp (disch := first | exact dschN28 | fail) only [go_sem, ↓reduceIte, hsp, r6, r5, p1, p2, p4, hn, hlt, gK, gK1, h1, bsD1, ea, h2, ea2] | refine WP_drw ?_ | refine cnd_intro (fun hsp => ?_) fun hsp => ?_)
        exact ⟨by (repeat first | exact Agree.refl | assumption | refine Agree.put rfl ?_ | refine Agree.put0 ?_ | refine Agree.sub rfl (by assumption) ?_), by omega, eK2 G (by omega) xG1, _, rfl, by rw [show 2 * (k + 1) = 2 * k + 1 + 1 by omega, ct]; exact oK2⟩
    | some e1 =>
      rw [q1] at h1 cf
      simp only [Option.map_some, Option.toList] at cf
      obtain ⟨w1, K1, ea, oK1, lK1', eK1, one1, kK1⟩ := snocD (base := base) (r := ⟨(k : Int), (x : Int), false⟩) oW (by omega) (by omega) (by rw [List.length_map]; have := cutM_len (R := R) (x := x) (i := 2 * k); omega)
      rw [← cf] at oK1
      have xG1 : Ext G K1 := eK1 G (by omega) xK
      have xK1 := xG.trans xG1
      have lK1 := xG1.len
      have gK1 := xG1.get g0
      unfold rrbB at gK
      have h2 := fun base => run_allowed (base := base) (j := true) (hAe K1 xK1) hR hw hx
      unfold allV at h2
      cases q2 : takL R w x true with
      | none =>
        rw [q2] at h2 ct
        simp only [Option.map_none, Option.toList, List.append_nil] at ct
        unfold rrbB at gK1
        have hsp := @Nat.succ_ne_zero; repeat' (first | simp (disch := first | exact dschN28 | fail) only [go_sem, ↓reduceIte, hsp, r6, r5, p1, p2, p4, hn, hlt, gK, gK1, h1, bsD1, ea, h2] | refine WP_drw ?_ | refine cnd_intro (fun hsp => ?_) fun hsp => ?_)
        exact ⟨by (repeat first | exact Agree.refl | assumption | refine Agree.put rfl ?_ | refine Agree.put0 ?_ | refine Agree.sub rfl (by assumption) ?_), by omega, xG1, _, rfl, by rw [show 2 * (k + 1) = 2 * k + 1 + 1 by omega, ct]; exact oK1⟩
      | some e2 =>
        rw [q2] at h2 ct
        simp only [Option.map_some, Option.toList] at ct
        obtain ⟨w2, K2, ea2, oK2, lK2, eK2, one2, kK2⟩ := snocD (base := base) (r := ⟨(k : Int), (x : Int), true⟩) oK1 (by omega) (by omega) (by rw [List.length_map]; have := cutM_len (R := R) (x := x) (i := 2 * k + 1); omega)
        unfold rrbB at gK1
        have hsp := @Nat.succ_ne_zero; repeat' (first | simp (disch := first | exact dschN28 | fail) only [go_sem, ↓reduceIte, hsp, r6, r5, p1, p2, p4, hn, hlt, gK, gK1, h1, bsD1, ea, h2, ea2] | refine WP_drw ?_ | refine cnd_intro (fun hsp => ?_) fun hsp => ?_)
        exact ⟨by (repeat first | exact Agree.refl | assumption | refine Agree.put rfl ?_ | refine Agree.put0 ?_ | refine Agree.sub rfl (by assumption) ?_), by omega, eK2 G (by omega) xG1, _, rfl, by rw [show 2 * (k + 1) = 2 * k + 1 + 1 by omega, ct]; exact oK2⟩
  · rintro fr K hAg ⟨r6, xK, w0, r5, oW⟩
    have p1 := hAg 1 rfl
    have p2 := hAg 2 rfl
    have p4 := hAg 4 rfl
    try simp (disch := first | exact dschN28 | fail) only [go_sem, ↓reduceIte] at p1 p2 p4
    have hlt : ((R.W.length : Int) < (R.W.length : Int)) = False := eq_false (by omega)
    have hn := rwn_len (hW.ext (xG.trans xK))
    have ow := oW.one
    have gK := xK.get g0
    unfold rrbB at gK
    have hsp := @Nat.succ_ne_zero; repeat' (first | simp (disch := first | exact dschN28 | fail) only [go_sem, ↓reduceIte, hsp, r6, r5, p1, p2, p4, hn, hlt, gK] | refine WP_drw ?_ | refine cnd_intro (fun hsp => ?_) fun hsp => ?_)
    exact ⟨xG.trans xK, by unfold cutL; exact oW.low (by omega)⟩
end Go.AM
/-
  CutRibbons, walked.
-/
namespace Go.AM
open Go.Proofs.Try
attribute [-go_sem] put_ne put_same
attribute [local go_sem ↓] put_if
/-- A ribbon that came in, its slices no longer than these. -/
def RibN (N : Nat) (H : Heap) (v : AVal) : Prop := ∃ R, RibAt H v R ∧ R.F.length ≤ N ∧ R.W.length ≤ N
theorem RibN.ext {N : Nat} {G H : Heap} {v : AVal} (h : RibN N G v) (e : Ext G H) : RibN N H v := by
  obtain ⟨L, h1, h2⟩ := h
  exact ⟨L, h1.ext e, h2⟩
def CutV (_ : Heap) (v : AVal) : Prop := ∃ c : Ct, v = .agg [.int .i64 c.w, .int .i64 c.f, .bool c.j]
def IntV (_ : Heap) (v : AVal) : Prop := ∃ n : Int, v = .int .i64 n
end Go.AM
/-
  Arguments that came in: ribbons, cuts, lists of numbers.
-/
namespace Go.AM
open Go.Proofs.Try Go.RowKit Go.ChangeShapes Go.WideShapes Go.ChangeAt
open Go.Proofs.Ytikgghhceolaeaa (Rows.uptoSmall Rows.uptoBulkAll Rows.uptoBulk)
set_option maxRecDepth 100000
def IntsN (N : Nat) (H : Heap) (v : AVal) : Prop := ∃ l, Ints H v l ∧ l.length ≤ N
def CtsN (N : Nat) (H : Heap) (v : AVal) : Prop := ∃ l, Rows encC H v l ∧ l.length ≤ N
section
variable {H : Type} {enc : TypeId × Value → H} {W : World} {n N : Nat}
theorem trod_struct5 {t : TypeId} {f0 f1 f2 f3 f4 : Field} {fuel : Nat} {cs : List Value} {x : DataW H × List MemPlace} (ht : prog.underlying t = some (.struct #[f0, f1, f2, f3, f4])) (h : DataW.trod enc prog W 0 (fun _ => true) true fuel t cs = some x) :
    ∃ y0 y1 y2 y3 y4 n, cs.length = prog.cellsOf t ∧ DataW.trod enc prog W 0 (fun _ => true) true n f0.type ((cs.drop f0.offset).take (prog.cellsOf f0.type)) = some y0 ∧
      DataW.trod enc prog W 0 (fun _ => true) true n f1.type ((cs.drop f1.offset).take (prog.cellsOf f1.type)) = some y1 ∧ DataW.trod enc prog W 0 (fun _ => true) true n f2.type ((cs.drop f2.offset).take (prog.cellsOf f2.type)) = some y2 ∧
      DataW.trod enc prog W 0 (fun _ => true) true n f3.type ((cs.drop f3.offset).take (prog.cellsOf f3.type)) = some y3 ∧ DataW.trod enc prog W 0 (fun _ => true) true n f4.type ((cs.drop f4.offset).take (prog.cellsOf f4.type)) = some y4 := by
  obtain ⟨xs, n, _, rfl, hl, hlen, hf⟩ := DataW.trod_struct ht h
  match xs, hlen with
  | [y0, y1, y2, y3, y4], _ => exact ⟨y0, y1, y2, y3, y4, n, hl, by simpa using hf 0 f0 rfl, by simpa using hf 1 f1 rfl, by simpa using hf 2 f2 rfl, by simpa using hf 3 f3 rfl, by simpa using hf 4 f4 rfl⟩
theorem one_cell {f : Field} {cs : List Value} {c : Value} {i : Nat} (ho : f.offset = i) (hk : prog.cellsOf f.type = 1) (hc : cs[i]? = some c) : (cs.drop f.offset).take (prog.cellsOf f.type) = [c] := by
  rw [ho, hk]
  have hi := (List.getElem?_eq_some_iff.1 hc)
  rw [List.drop_eq_getElem_cons hi.1, hi.2]
  rfl
theorem opens_want {cs : List Value} {y : DataW H × List MemPlace} (h : DataW.trod enc prog W 0 (fun _ => true) true n 49 cs = some y) :
    ∃ w : Wnt, cs = [.int .i64 w.lg, .int .i64 w.pr, .int .i64 w.off, .int .i64 w.fl, .int .i64 w.jn] := by
  obtain ⟨y0, y1, y2, y3, y4, m, hl, h0, h1, h2, h3, h4⟩ := trod_struct5 underlying49 h
  have hl5 : cs.length = 5 := hl.trans (by kernel_rfl)
  match cs, hl5 with
  | [c0, c1, c2, c3, c4], _ =>
    rw [one_cell (i := 0) rfl (by kernel_rfl) rfl] at h0
    rw [one_cell (i := 1) rfl (by kernel_rfl) rfl] at h1
    rw [one_cell (i := 2) rfl (by kernel_rfl) rfl] at h2
    rw [one_cell (i := 3) rfl (by kernel_rfl) rfl] at h3
    rw [one_cell (i := 4) rfl (by kernel_rfl) rfl] at h4
    obtain ⟨z0, q0, -, -⟩ := DataW.trod_int underlying3 h0
    obtain ⟨z1, q1, -, -⟩ := DataW.trod_int underlying3 h1
    obtain ⟨z2, q2, -, -⟩ := DataW.trod_int underlying3 h2
    obtain ⟨z3, q3, -, -⟩ := DataW.trod_int underlying3 h3
    obtain ⟨z4, q4, -, -⟩ := DataW.trod_int underlying3 h4
    simp only [List.cons.injEq, and_true] at q0 q1 q2 q3 q4
    exact ⟨⟨z0, z1, z2, z3, z4⟩, by rw [q0, q1, q2, q3, q4]⟩
theorem opens_ints5 {a b c d e : Int} : Opens W [.int .i64 a, .int .i64 b, .int .i64 c, .int .i64 d, .int .i64 e] (fun _ vs => vs = [.int .i64 a, .int .i64 b, .int .i64 c, .int .i64 d, .int .i64 e]) :=
  (opens_cons opens_int (opens_cons opens_int (opens_cons opens_int (opens_cons opens_int (opens_cons opens_int opens_nil fun _ _ _ h _ => h) fun _ _ _ h _ => h) fun _ _ _ h _ => h) fun _ _ _ h _ => h) fun _ _ _ h _ => h).mono fun _ vs ⟨v0, _, h0, h1, v1, _, h2, h3, v2, _, h4, h5, v3, _, h6, h7, v4, _, h8, h9, h10⟩ => by
    subst h10 h9 h8 h7 h6 h5 h4 h3 h2 h1 h0; rfl
theorem opens_rib {base : Nat} {V : Value} {d : DataW H} {p : List MemPlace} (hN : N < 2 ^ 60) (hval : Value.okWide prog W .any base 25 V) (h : DataW.Trod enc prog W 0 (fun _ => true) true 25 V d p) (hb : Rows.uptoBulk d ≤ N) :
    OpensV W V (RibN N) := by
  obtain ⟨v0, v1, v2, y0, y1, y2, m, rfl, rfl, rfl, h0, h1, h2⟩ := Go.Joins.open_agg3 underlying25 (by kernel_rfl) (by kernel_rfl) hval h
  obtain ⟨z0, q0, -, -⟩ := DataW.trod_int underlying3 h0
  simp only [List.cons.injEq, and_true] at q0
  subst q0
  have hC := opens_ints underlying22 underlying3 (by kernel_rfl) hN h1 (Nat.le_trans (bulk_agg (by simp)) hb)
  have hR := opens_slice encW (Q := fun _ _ => True) (fun _ _ _ h _ => h) underlying23 (by kernel_rfl) hN h2 (Nat.le_trans (bulk_agg (by simp)) hb) fun cs k y hy hyb => by
    obtain ⟨s, rfl⟩ := opens_want hy
    exact opens_ints5.mono fun _ _ h => ⟨s, h, trivial⟩
  refine (Opens.agg (A := #[.int .i64 z0, v1, v2]) (opens_cons opens_int (opens_cons hC (opens_cons hR opens_nil fun _ _ _ h e => ⟨h.choose, h.choose_spec.1.ext e, h.choose_spec.2⟩)
    fun _ _ _ h e => ⟨h.choose, h.choose_spec.1.ext e, h.choose_spec.2⟩) fun _ _ _ h _ => h)).mono fun K v hv => ?_
  obtain ⟨_, rfl, u0, _, rfl, rfl, u1, _, rfl, ⟨c, k1, k2⟩, u2, _, rfl, ⟨s, j1, -, j3⟩, rfl⟩ := hv
  exact ⟨⟨z0, c, s⟩, ⟨u1, u2, rfl, k1, j1⟩, k2, j3⟩
theorem opens_intV {base : Nat} {V : Value} {d : DataW H} {p : List MemPlace} (hval : Value.okWide prog W .any base 3 V) (h : DataW.Trod enc prog W 0 (fun _ => true) true 3 V d p) : OpensV W V IntV := by
  obtain ⟨x, rfl, -, -, -⟩ := open_int underlying3 hval h
  exact opens_int.mono fun _ v hv => ⟨x, hv⟩
end
end Go.AM
