/-
  Contracts: the chapter's example is as it should be (Ten, awake).
-/
import Derived.Test.YtikgghhceolaeaaU18
import Derived.Test.YtikgghhceolaeaaU12
import Derived.Test.YtikgghhceolaeaaU10
import Derived.Test.YtikgghhceolaeaaU9
import Derived.Test.YtikgghhceolaeaaU11
set_option linter.unusedSimpArgs false
set_option linter.unusedVariables false
namespace Go.AM
open Go.Proofs.Try
theorem dschN22 {p : Prop} (h : p := by first | exact Nat.ne_of_beq_eq_false rfl | assumption | (apply asOne; (first | exact One.int | exact One.bool | assumption | exact Ints.one (by assumption) | exact Rows.one (by assumption) | exact Own.one (by assumption) | exact One.lit ⟨rfl, rfl, rfl⟩)) | (apply asInts; (repeat first | assumption | exact ints_nil | apply Ints.app); done) | (apply asRows; (repeat first | assumption | exact Rows.nil | apply Rows.app); done) | (apply asScal; (first | apply allS1 | apply allS2 | apply allS3 | apply allS4) <;> (first | exact One.int | exact One.bool | assumption | exact Ints.one (by assumption) | exact Rows.one (by assumption) | exact Own.one (by assumption) | exact One.lit ⟨rfl, rfl, rfl⟩)) | exact litT rfl | exact litF rfl | omega | (simp only [List.length_append, List.length_cons, List.length_nil, List.length_set, List.length_reverse]; first | done | omega) | fail) : p := h
attribute [-go_sem] put_ne put_same
attribute [local go_sem ↓] put_if
theorem bs2I {lit : Bool} {H : Heap} {a b : Int} (hl : lit = false) : bsA prog lit H 22 2 [(0, .int .i64 a), (1, .int .i64 b)] = some (.slice (some ⟨H.length, 0, 0⟩) 2 2, H ++ [rowB [a, b] 0]) := by
  subst hl; simp [bsA, rowOf, Fc.el22, fillA, repCells, AVal.isN, AVal.cells, splice, rowB, ints]
theorem bs2W {lit : Bool} {H : Heap} {a b : Wnt} : bsA prog lit H 23 2 [(0, .agg [.int .i64 a.lg, .int .i64 a.pr, .int .i64 a.off, .int .i64 a.fl, .int .i64 a.jn]), (1, .agg [.int .i64 b.lg, .int .i64 b.pr, .int .i64 b.off, .int .i64 b.fl, .int .i64 b.jn])] = some (.slice (some ⟨H.length, 0, 0⟩) 2 2, H ++ [rowE encW 49 [a, b] 0]) := by
  simp [bsA, rowOf, Fc.el23, fillA, repCells, AVal.isN, AVal.cells, splice, rowE, flat, encW]
theorem bs2C {lit : Bool} {H : Heap} {a b : Ct} : bsA prog lit H 43 2 [(0, .agg [.int .i64 a.w, .int .i64 a.f, .bool a.j]), (1, .agg [.int .i64 b.w, .int .i64 b.f, .bool b.j])] = some (.slice (some ⟨H.length, 0, 0⟩) 2 2, H ++ [rowE encC 58 [a, b] 0]) := by
  simp [bsA, rowOf, Fc.el43, fillA, repCells, AVal.isN, AVal.cells, splice, rowE, flat, encC]
theorem bs2S {lit : Bool} {H : Heap} {a b : Int × Int} : bsA prog lit H 59 2 [(0, .agg [.int .i64 a.1, .int .i64 a.2]), (1, .agg [.int .i64 b.1, .int .i64 b.2])] = some (.slice (some ⟨H.length, 0, 0⟩) 2 2, H ++ [rowE encS 69 [a, b] 0]) := by
  simp [bsA, rowOf, Fc.el59, fillA, repCells, AVal.isN, AVal.cells, splice, rowE, flat, encS]
theorem app_non {base id : Nat} {H : Heap} {l : List Int} {n : Nat} (hg : H[id]? = some (rowB l 0)) (hn : n = l.length) : appendA prog base H 22 (.slice (some ⟨id, 0, 0⟩) n n) (.slice none 0 0) = some (.slice (some ⟨id, 0, 0⟩) n n, H) := by
  subst hn
  have hst : storeN base H (ARef.add ⟨id, 0, 0⟩ l.length) [] = some H := by
    unfold storeN
    simp only [ARef.add, hg, rowB]
    rw [if_pos ⟨trivial, by simp [ints_length], rfl, .inr rfl⟩]
    simp only [splice]
    rw [show (⟨.cells (ints l) 3 true false, 0⟩ : ABlk) = rowB l 0 from rfl, set_id hg]
  simp [appendA, Fc.el22, lenA, firstN, hst]
theorem run_Ten {base : Nat} {h : Heap} (hb : base ≤ h.length) : Ret prog raw base (.fn 80 [] []) [.slice none 0 0] h (fun w H => Ext h H ∧ RibAt H w tenR) := by
  obtain ⟨G, eG⟩ : ∃ G, G = h ++ [ribB 0 (.slice none 0 0) (.slice none 0 0)] := ⟨_, rfl⟩
  have xG : Ext h G := by rw [eG]; exact .app .refl
  have gG : G[h.length]? = some (ribB 0 (.slice none 0 0) (.slice none 0 0)) := by rw [eG]; exact get_eq rfl
  have lG : G.length = h.length + 1 := by rw [eG]; simp
  obtain ⟨H1, eH1⟩ : ∃ H1, H1 = G ++ [rowB [3, 5] 0] := ⟨_, rfl⟩
  have x1 : Ext G H1 := by rw [eH1]; exact .app .refl
  have g1 : H1[G.length]? = some (rowB [3, 5] 0) := by rw [eH1]; exact get_eq rfl
  have l1 : H1.length = h.length + 2 := by rw [eH1]; simp [lG]
  obtain ⟨H2, eH2⟩ : ∃ H2, H2 = H1 ++ [rowE encW 49 [⟨4, 10, 3, 1, 1⟩, ⟨3, 6, 1, 0, 2⟩] 0] := ⟨_, rfl⟩
  have x2 : Ext H1 H2 := by rw [eH2]; exact .app .refl
  have g2 : H2[H1.length]? = some (rowE encW 49 [⟨4, 10, 3, 1, 1⟩, ⟨3, 6, 1, 0, 2⟩] 0) := by rw [eH2]; exact get_eq rfl
  have l2 : H2.length = h.length + 3 := by rw [eH2]; simp [l1]
  have g02 := (x1.trans x2).get gG
  have b1 := fun lit (hl : lit = false) => bs2I (lit := lit) (H := G) (a := 3) (b := 5) hl
  rw [← eH1] at b1
  have b2 := fun lit => bs2W (lit := lit) (H := H1) (a := ⟨4, 10, 3, 1, 1⟩) (b := ⟨3, 6, 1, 0, 2⟩)
  rw [← eH2] at b2
  have ap := app_non (base := base) (id := G.length) (n := 2) (H := H1) g1 rfl
  unfold ribB at eG gG g02
  refine ret_raw func80 rfl (by kernel_rfl) ?_
  have hsp := @Nat.succ_ne_zero; repeat' (first | simp (disch := first | exact dschN22 | fail) only [go_sem, ↓reduceIte, hsp, ← eG, b1, ap, b2, g02] | refine WP_drw ?_ | refine cnd_intro (fun hsp => ?_) fun hsp => ?_)
  have xf : Ext h (H2.set h.length (ribB 10 (.slice (some ⟨G.length, 0, 0⟩) 2 2) (.slice (some ⟨H1.length, 0, 0⟩) 2 2))) := Ext.set ((xG.trans x1).trans x2) (Nat.le_refl _)
  refine ⟨xf, _, _, rfl, ints_rowB (l := [3, 5]) ?_ ⟨by simp, fun y hy => ?_⟩ rfl, Rows.own (l := ([⟨4, 10, 3, 1, 1⟩, ⟨3, 6, 1, 0, 2⟩] : List Wnt)) (e := 49) ?_ rfl (by simp)⟩
  · rw [List.getElem?_set_ne (by omega)]; exact x2.get g1
  · simp at hy; omega
  · rw [List.getElem?_set_ne (by omega)]; exact g2
set_option maxRecDepth 100000 in
set_option maxHeartbeats 4000000 in
theorem run_awake {base : Nat} {h : Heap} : callL prog raw base (.fn 16 [] []) [] h = some (.bool true, h) := by
  have hsm : tenR.F.length ≤ 1048576 := by decide
  obtain ⟨v1, A1, e1, x1, T1⟩ := run_Ten (base := h.length) (h := h) (Nat.le_refl _)
  have k1 := fun base => run_Take (base := base) (c := ⟨0, 0, true⟩) T1 hsm
  rw [ten_t1] at k1
  have l1 := x1.len
  obtain ⟨v2, A2, e2, x2, T2⟩ := run_Ten (base := h.length) (h := A1) l1
  have k2 := fun base => run_Take (base := base) (c := ⟨0, 2, false⟩) T2 hsm
  rw [ten_t2] at k2
  have l2 := x2.len
  obtain ⟨v3, A3, e3, x3, T3⟩ := run_Ten (base := h.length) (h := A2) (by omega)
  have l3 := x3.len
  obtain ⟨w3, B3, f3, y3, u3, rfl, O3⟩ := run_Best (base := h.length) (by omega) T3 hsm
  have m3 := y3.len
  obtain ⟨v4, A4, e4, x4, T4⟩ := run_Ten (base := h.length) (h := B3) (by omega)
  have l4 := x4.len
  obtain ⟨w4, B4, f4, y4, u4, rfl, O4⟩ := run_Made (base := h.length) (by omega) T4 hsm
  have m4 := y4.len
  obtain ⟨v5, A5, e5, x5, T5⟩ := run_Ten (base := h.length) (h := B4) (by omega)
  have l5 := x5.len
  obtain ⟨A5', eA5⟩ : ∃ A5', A5' = A5 ++ [rowE encC 58 [⟨0, 0, true⟩, ⟨0, 6, false⟩] 0] := ⟨_, rfl⟩
  have x5' : Ext A5 A5' := by rw [eA5]; exact .app .refl
  have P5 : Rows encC A5' (.slice (some ⟨A5.length, 0, 0⟩) 2 2) [⟨0, 0, true⟩, ⟨0, 6, false⟩] := Rows.own (by rw [eA5]; exact get_eq rfl) rfl (by simp)
  have l5' := x5'.len
  have bs5 := fun lit => bs2C (lit := lit) (H := A5) (a := ⟨0, 0, true⟩) (b := ⟨0, 6, false⟩)
  rw [← eA5] at bs5
  obtain ⟨w5, B5, f5, y5, u5, rfl, O5⟩ := run_Rest (base := h.length) (by omega) (T5.ext x5') hsm P5
  rw [ten_rst] at f5 O5
  have m5 := y5.len
  obtain ⟨v6, A6, e6, x6, T6⟩ := run_Ten (base := h.length) (h := B5) (by omega)
  have l6 := x6.len
  obtain ⟨w6, B6, f6, y6, u6, rfl, O6⟩ := run_Used (base := h.length) (by omega) T6 hsm
  rw [ten_usd] at O6
  have m6 := y6.len
  obtain ⟨v7, A7, e7, x7, T7⟩ := run_Ten (base := h.length) (h := B6) (by omega)
  have k7 := fun base => run_Raise (base := base) (want := 1) T7 hsm
  rw [ten_rse] at k7
  have l7 := x7.len
  obtain ⟨v8, A8, e8, x8, T8⟩ := run_Ten (base := h.length) (h := A7) (by omega)
  have k8 := fun base => run_Damage (base := base) (u := 8) T8 hsm (by omega)
  rw [ten_dmg] at k8
  have l8 := x8.len
  obtain ⟨v9, A9, e9, x9, T9⟩ := run_Ten (base := h.length) (h := A8) (by omega)
  have k9 := fun base => run_Mended (base := base) (u := 3) T9 hsm
  rw [ten_men] at k9
  rw [ten_chk, ten_all] at f3
  rw [ten_chk] at f4 f6
  simp only at k1 k2 k7 k8 k9 f5
  have z4 := x4.trans y4
  have n3 := own_len (O3.ext z4) Fc.el43 (by rw [ten_bst]; decide)
  rw [ten_bst] at n3
  have I4 := ownE_ints O4 (by unfold madE; rw [if_neg (by simp [ten_chk])]; exact val_small ten_ok (by decide))
  have n4 := lenI I4
  have a40 := adrI (i := 0) (by omega) I4 (by rw [ten_madl]; omega)
  have a46 := adrI (i := 6) (by omega) I4 (by rw [ten_madl]; omega)
  have a47 := adrI (i := 7) (by omega) I4 (by rw [ten_madl]; omega)
  have d40 := loadI I4 (i := 0) (by rw [ten_madl]; omega)
  have d46 := loadI I4 (i := 6) (by rw [ten_madl]; omega)
  have d47 := loadI I4 (i := 7) (by rw [ten_madl]; omega)
  rw [ten_madl] at n4
  rw [ten_mad0] at d40
  rw [ten_mad6] at d46
  rw [ten_mad7] at d47
  have z69 : Ext B6 A9 := (x7.trans x8).trans x9
  have z59 : Ext B5 A9 := (x6.trans y6).trans z69
  have l9 := x9.len
  obtain ⟨C1, eC1⟩ : ∃ C1, C1 = A9 ++ [rowE encS 69 [(3, 3), (5, 5)] 0] := ⟨_, rfl⟩
  have xc1 : Ext A9 C1 := by rw [eC1]; exact .app .refl
  have bs6 := fun lit => bs2S (lit := lit) (H := A9) (a := (3, 3)) (b := (5, 5))
  rw [← eC1] at bs6
  simp only at bs6
  have q5 := fun base => run_eqS (base := base) ((O5.rows (by simp)).ext (z59.trans xc1)) (Rows.own (E := encS) (e := 69) (id := A9.length) (ver := 0) (n := 2) (l := [(3, 3), (5, 5)]) (by rw [eC1]; exact get_eq rfl) rfl (by simp)) (by simp)
  obtain ⟨C2, eC2⟩ : ∃ C2, C2 = C1 ++ [rowB [0] 0] := ⟨_, rfl⟩
  have xc2 : Ext C1 C2 := by rw [eC2]; exact .app .refl
  have s0 : Small [(0 : Int)] := ⟨by simp, fun y hy => by simp at hy; omega⟩
  have I6 := own_ints (O6.ext ((z69.trans xc1).trans xc2)) s0
  have I6' : Ints C2 (.slice (some ⟨C1.length, 0, 0⟩) 1 1) [0] := ints_rowB (by rw [eC2]; exact get_eq rfl) s0 rfl
  have q6 := fun base => run_eqI (base := base) I6 I6'
  have o3 := O3.one
  have o4 := O4.one
  have o5 := O5.one
  have o6 := O6.one
  have xf : Ext h C2 := (((((((x1.trans x2).trans x3).trans y3).trans z4).trans x5).trans x5').trans y5).trans ((z59.trans xc1).trans xc2)
  refine callL_run func16 rfl rfl ?_
  have hsp := @Nat.succ_ne_zero; repeat' (first | simp (disch := first | exact dschN22 | fail) only [go_sem, ↓reduceIte, hsp, e1, k1, e2, k2, e3, f3, e4, f4, n3, n4, a40, a46, a47, d40, d46, d47, e5, bs5, f5, e6, f6, e7, k7, e8, k8, e9, k9, bs6, ← eC1, q5, ← eC2, q6, decide_true] | refine WP_drw ?_ | refine cnd_intro (fun hsp => ?_) fun hsp => ?_)
  exact fB rfl xf
end Go.AM
/-
  The reference: all cuts from a unit (All); a ribbon as the reference has it (theirs); copies.
-/
namespace Go.AM
open Go.Proofs.Try
theorem dschN26 {p : Prop} (h : p := by first | exact Nat.ne_of_beq_eq_false rfl | assumption | (apply asOne; (first | exact One.int | exact One.bool | assumption | exact Ints.one (by assumption) | exact Rows.one (by assumption) | exact Own.one (by assumption) | exact One.lit ⟨rfl, rfl, rfl⟩)) | (apply asInts; (repeat first | assumption | exact ints_nil | apply Ints.app); done) | (apply asRows; (repeat first | assumption | exact Rows.nil | apply Rows.app); done) | (apply asScal; (first | apply allS1 | apply allS2 | apply allS3 | apply allS4) <;> (first | exact One.int | exact One.bool | assumption | exact Ints.one (by assumption) | exact Rows.one (by assumption) | exact Own.one (by assumption) | exact One.lit ⟨rfl, rfl, rfl⟩)) | exact litT rfl | exact litF rfl | omega | (simp only [List.length_append, List.length_cons, List.length_nil, List.length_set, List.length_reverse]; first | done | omega) | fail) : p := h
attribute [-go_sem] put_ne put_same
attribute [local go_sem ↓] put_if
theorem run_own {base : Nat} {h : Heap} {v : AVal} {R : Rib} (hb : base ≤ h.length) (hA : RibAt h v R) (hf : R.F.length ≤ 1000) (hw : R.W.length ≤ 1000) :
    Ret prog raw base (.fn 17 [] []) [v] h (fun w H => Ext h H ∧ ∃ fw ww, w = .agg [.int .i64 R.L, fw, ww] ∧ OwnE encI 3 h.length H fw R.F ∧ OwnE encW 49 h.length H ww R.W) := by
  obtain ⟨fv, wv, rfl, hF, hW⟩ := hA
  have o1 := hF.one
  have o2 := hW.one
  obtain ⟨G, eG⟩ : ∃ G, G = h ++ [ribB R.L fv wv] ++ [ribB 0 (.slice none 0 0) (.slice none 0 0)] := ⟨_, rfl⟩
  have xG : Ext h G := by rw [eG]; exact .app (.app .refl)
  have lG : G.length = h.length + 2 := by rw [eG]; simp
  have g0 : G[h.length]? = some (ribB R.L fv wv) := by rw [eG]; exact get_app (get_eq rfl)
  have g00 : G[h.length + 1]? = some (ribB 0 (.slice none 0 0) (.slice none 0 0)) := by rw [eG]; exact get_eq (by simp)
  obtain ⟨fw, H1, e1, x1, oF⟩ := run_dupI (base := base) (by omega) (hF.ext xG) hf
  have l1 := x1.len
  obtain ⟨ww, H2, e2, x2, oW⟩ := run_dupW (base := base) (by omega) (hW.ext (xG.trans x1)) hw
  have l2 := x2.len
  have g1 := x1.get g0
  have g2 := x2.get g1
  have g12 := (x1.trans x2).get g00
  have ow1 := oF.one
  have ow2 := oW.one
  have xf : Ext h H2 := (xG.trans x1).trans x2
  unfold ribB at eG g0 g00 g1 g2 g12
  refine ret_raw func17 rfl (by kernel_rfl) ?_
  have hsp := @Nat.succ_ne_zero; repeat' (first | simp (disch := first | exact dschN26 | fail) only [go_sem, ↓reduceIte, hsp, ← eG, g0, e1, g1, e2, g2, g12] | refine WP_drw ?_ | refine cnd_intro (fun hsp => ?_) fun hsp => ?_)
  exact ⟨xf.set (by omega), fw, ww, rfl, ((oF.ext x2).setBox g12).low (by omega), (oW.setBox g12).low (by omega)⟩
end Go.AM
/-
  The reference: a ribbon as the reference has it (theirs); cuts as the reference has them (cuts).
-/
namespace Go.AM
open Go.Proofs.Try
attribute [-go_sem] put_ne put_same
attribute [local go_sem ↓] put_if
end Go.AM
/-
  The reference: all cuts from a unit (All).
-/
namespace Go.AM
open Go.Proofs.Try
attribute [-go_sem] put_ne put_same
attribute [local go_sem ↓] put_if
end Go.AM
/-
  The reference: what a plan earns (Plan).
-/
namespace Go.AM
open Go.Proofs.Try
attribute [-go_sem] put_ne put_same
attribute [local go_sem ↓] put_if
section
variable {h : Heap} {pv : AVal} {P : List Ct} {i : Nat} {c : Ct}
end
end Go.AM
/-
  Marks; the units that are left over, as the reference tells them: run by run.
-/
namespace Go.AM
open Go.Proofs.Try
attribute [-go_sem] put_ne put_same
attribute [local go_sem ↓] put_if
def encO : Enc Bool := ⟨1, fun b => [.bool b], fun _ => rfl, by decide⟩
def mrk (n : Nat) (S : List Int) : List Bool := (List.range n).map fun k : Nat => decide ((k : Int) ∈ S)
abbrev mkB (n : Nat) (S : List Int) : ABlk := rowE encO 4 (mrk n S) 0
/-- How far the reference's list reaches. -/
structure Rch (t : List Int) (n u m : Nat) : Prop where
  le : u ≤ m ∧ m ≤ n
  fr : ∀ y : Nat, u ≤ y → y < m → (y : Int) ∉ t
  pr : u < m → 0 < u ∧ (u : Int) - 1 ∉ t
  ed : m < n → (m : Int) ∈ t ∨ (m = u ∧ (u = 0 ∨ (u : Int) - 1 ∈ t))
end Go.AM
/-
  The reference: the units that no cut takes (Rest).
-/
namespace Go.AM
open Go.Proofs.Try
attribute [-go_sem] put_ne put_same
attribute [local go_sem ↓] put_if
end Go.AM
/-
  Plain: what is earned at most and with how few cuts, forwards, in two rows.
-/
namespace Go.AM
def upS (s : List Int × List Int) (y : Nat) (a c : Int) : List Int × List Int := if thB true (a, c) (s.1.getD y 0, s.2.getD y 0) = true then (s.1.set y a, s.2.set y c) else s
def upC (x : Nat) (t : List Int × List Int) (c : Ct × Int × Int) : List Int × List Int := upS t c.2.1.toNat (t.1.getD x 0 + c.2.2) (t.2.getD x 0 + 1)
def upX (R : Rib) (x : Nat) (s : List Int × List Int) : List Int × List Int := (cutL R x).foldl (upC x) (upS s (x + 1) (s.1.getD x 0) (s.2.getD x 0))
def upN (R : Rib) (f : Nat) : Nat → List Int × List Int
  | 0 => (List.replicate (R.L.toNat + 1) 0, List.replicate (R.L.toNat + 1) 0)
  | n + 1 => upX R (f + n) (upN R f n)
/-- What is known of the rows. -/
structure UpK (n : Nat) (s : List Int × List Int) : Prop where
  l1 : s.1.length = n + 1
  l2 : s.2.length = n + 1
  b1 : ∀ y : Nat, 0 ≤ s.1.getD y 0 ∧ s.1.getD y 0 ≤ 100 * (y : Int)
  b2 : ∀ y : Nat, 0 ≤ s.2.getD y 0 ∧ s.2.getD y 0 ≤ (y : Int)
def keyS (s : List Int × List Int) : Nat → Int := fun i => key true (s.1.getD i 0, s.2.getD i 0)
section
variable {R : Rib} {x : Nat}
end
end Go.AM
/-
  The reference: what is earned at most, and with how few cuts, forwards (Up).
-/
namespace Go.AM
open Go.Proofs.Try
attribute [-go_sem] put_ne put_same
attribute [local go_sem ↓] put_if
end Go.AM
/-
  The reference: what is earned at most (Earned); wide.
-/
namespace Go.AM
open Go.Proofs.Try
attribute [-go_sem] put_ne put_same
attribute [local go_sem ↓] put_if
end Go.AM
/-
  Arguments that came in, slices of structs that hold slices among them: rows of memory whose cells stand for each other.
-/
namespace Go.AM
open Go.Proofs.Try Go.RowKit Go.ChangeShapes Go.WideShapes Go.ChangeAt
open Go.Proofs.Ytikgghhceolaeaa (Rows.uptoSmall Rows.uptoBulkAll Rows.uptoBulk)
set_option maxRecDepth 100000
def Rw.okG (μ : Mu) (w : World) (r : Rw) : Prop := ∃ (C : Array Value) (T : TypeId) (fz : Nat × Nat), w.heap[r.blk]? = some (.cells C T fz) ∧ r.off + r.cs.length ≤ C.size ∧
  ∀ (i : Nat) (x : AVal) (y : Value), r.cs[i]? = some x → C[r.off + i]? = some y → VR μ x y
/-- All rows stand. -/
def RsOk (w : World) (R : List Rw) : Prop := ∀ r ∈ R, r.okG (muR R) w
/-- What came in can be opened behind any rows: cells, and what holds of them. -/
def Opens (W : World) (cs : List Value) (Q : Heap → List AVal → Prop) : Prop := ∀ R, RsOk W R → ∃ S vs, RsOk W (R ++ S) ∧ VRs (muR (R ++ S)) vs cs ∧ Q (heapR (R ++ S)) vs
/-- .. one value. -/
def OpensV (W : World) (V : Value) (Q : Heap → AVal → Prop) : Prop := ∀ R, RsOk W R → ∃ S v, RsOk W (R ++ S) ∧ VR (muR (R ++ S)) v V ∧ Q (heapR (R ++ S)) v
/-! ### Bulk -/
/-! ### Slices -/
end Go.AM
/-
  CutRibbons, walked.
-/
namespace Go.AM
open Go.Proofs.Try
attribute [-go_sem] put_ne put_same
attribute [local go_sem ↓] put_if
/-- A ribbon that came in, its slices no longer than these. -/
def RibN (N : Nat) (H : Heap) (v : AVal) : Prop := ∃ R, RibAt H v R ∧ R.F.length ≤ N ∧ R.W.length ≤ N
def CutV (_ : Heap) (v : AVal) : Prop := ∃ c : Ct, v = .agg [.int .i64 c.w, .int .i64 c.f, .bool c.j]
def IntV (_ : Heap) (v : AVal) : Prop := ∃ n : Int, v = .int .i64 n
end Go.AM
/-
  Arguments that came in: ribbons, cuts, lists of numbers.
-/
namespace Go.AM
open Go.Proofs.Try Go.RowKit Go.ChangeShapes Go.WideShapes Go.ChangeAt
open Go.Proofs.Ytikgghhceolaeaa (Rows.uptoSmall Rows.uptoBulkAll Rows.uptoBulk)
set_option maxRecDepth 100000
def IntsN (N : Nat) (H : Heap) (v : AVal) : Prop := ∃ l, Ints H v l ∧ l.length ≤ N
def CtsN (N : Nat) (H : Heap) (v : AVal) : Prop := ∃ l, Rows encC H v l ∧ l.length ≤ N
section
variable {H : Type} {enc : TypeId × Value → H} {W : World} {n N : Nat}
end
end Go.AM
/-
  CutMost, walked.
-/
namespace Go.AM
open Go.Proofs.Try
attribute [-go_sem] put_ne put_same
attribute [local go_sem ↓] put_if
end Go.AM
/-
  Contracts: arrays that are compared; a ribbon without one want (without).
-/
namespace Go.AM
open Go.Proofs.Try
theorem dschN46 {p : Prop} (h : p := by first | exact Nat.ne_of_beq_eq_false rfl | assumption | (apply asOne; (first | exact One.int | exact One.bool | assumption | exact Ints.one (by assumption) | exact Rows.one (by assumption) | exact Own.one (by assumption) | exact One.lit ⟨rfl, rfl, rfl⟩)) | (apply asInts; (repeat first | assumption | exact ints_nil | apply Ints.app); done) | (apply asRows; (repeat first | assumption | exact Rows.nil | apply Rows.app); done) | (apply asScal; (first | apply allS1 | apply allS2 | apply allS3 | apply allS4) <;> (first | exact One.int | exact One.bool | assumption | exact Ints.one (by assumption) | exact Rows.one (by assumption) | exact Own.one (by assumption) | exact One.lit ⟨rfl, rfl, rfl⟩)) | exact litT rfl | exact litF rfl | omega | (simp only [List.length_append, List.length_cons, List.length_nil, List.length_set, List.length_reverse]; first | done | omega) | fail) : p := h
attribute [-go_sem] put_ne put_same
attribute [local go_sem ↓] put_if
/-! ### Arrays -/
theorem eqI5 {x y : Int} : eqT prog 5 3 (.int .i64 x) (.int .i64 y) = some (decide (x = y)) := by
  by_cases h : x = y <;> simp [eqT, h]
theorem fold61 {a b : List Int} (ha : a.length = 61) (hb : b.length = 61) : ∀ l : List Nat, (∀ i ∈ l, i < 61) →
    l.foldr (fun i acc => match partQ (false, 1) (ints a) (i * (false, 1).2), partQ (false, 1) (ints b) (i * (false, 1).2) with
      | some x, some y => match eqT prog 5 3 x y with | some true => acc | r => r
      | _, _ => .none) (some true) = some (l.all fun i => decide (a.getD i 0 = b.getD i 0))
  | [], _ => rfl
  | i :: l, h => by
    have hi := h i (by simp)
    have e1 : partQ (false, 1) (ints a) (i * (false, 1).2) = some (.int .i64 (a.getD i 0)) := by
      simp only [partQ, Nat.mul_one]
      rw [if_neg (by simp)]
      exact ints_get (by omega)
    have e2 : partQ (false, 1) (ints b) (i * (false, 1).2) = some (.int .i64 (b.getD i 0)) := by
      simp only [partQ, Nat.mul_one]
      rw [if_neg (by simp)]
      exact ints_get (by omega)
    have e3 : eqT prog 5 3 (.int .i64 (a.getD i 0)) (.int .i64 (b.getD i 0)) = some (decide (a.getD i 0 = b.getD i 0)) := eqI5
    rw [List.foldr_cons, fold61 ha hb l (fun j hj => h j (by simp [hj])), e1, e2]
    simp only [e3, List.all_cons]
    cases decide (a.getD i 0 = b.getD i 0) <;> simp
theorem ne61 {a b : List Int} (ha : a.length = 61) (hb : b.length = 61) : binA prog .neq 136 (.agg (ints a)) (.agg (ints b)) = some (.bool (!(List.range 61).all fun i => decide (a.getD i 0 = b.getD i 0))) := by
  have hg : prog.eqGuardType prog.depth 136 = false := by kernel_rfl
  have ht : tyA prog 3 = some (false, 1) := Fc.ty3
  have hf := fold61 ha hb (List.range 61) (fun i hi => List.mem_range.1 hi)
  have he : eqT prog eqDepth 136 (.agg (ints a)) (.agg (ints b)) = some ((List.range 61).all fun i => decide (a.getD i 0 = b.getD i 0)) := by
    rw [← hf]
    unfold eqDepth
    rw [eqT.eq_def]
    simp only [underlying136, ht]
    generalize List.range 61 = l
    generalize eqT prog 5 3 = f
    rfl
  simp only [binA, hg, he]
  rfl
theorem ne_lt {a b : List Int} (h : a.getD 0 0 < b.getD 0 0) : (!(List.range 61).all fun i => decide (a.getD i 0 = b.getD i 0)) = true := by
  cases q : (List.range 61).all fun i => decide (a.getD i 0 = b.getD i 0) with
  | false => rfl
  | true =>
    have := of_decide_eq_true (List.all_eq_true.1 q 0 (by simp))
    omega
/-! ### Wants -/
section
variable {base id : Nat} {h : Heap} {m : List Wnt}
abbrev wB (m : List Wnt) : ABlk := rowE encW 49 m 0
theorem stW {o : Nat} {z : List Wnt} (hg : h[id]? = some (wB m)) (hb : base ≤ id) (ho : o + z.length ≤ m.length) : storeN base h ⟨id, 0, o * 5⟩ (flat encW z) = some (h.set id (wB (m.take o ++ z ++ m.drop (o + z.length)))) := by
  have e : flat encW m = flat encW (m.take o) ++ flat encW ((m.drop o).take z.length) ++ flat encW (m.drop (o + z.length)) := by
    rw [← flat_app, ← flat_app]
    congr 1
    rw [List.append_assoc, ← List.drop_drop, List.take_append_drop, List.take_append_drop]
  have hz : encW.z = 5 := rfl
  have hlo : (flat encW (m.take o)).length = o * 5 := by rw [flat_len, hz, List.length_take]; congr 1; omega
  have h1 := splice_mid (flat encW z) (flat encW (m.take o)) (flat encW ((m.drop o).take z.length)) (flat encW (m.drop (o + z.length))) (by rw [flat_len, flat_len, List.length_take, List.length_drop]; congr 1; omega)
  rw [← e, ← flat_app, ← flat_app, hlo] at h1
  have hle : o * 5 + z.length * 5 ≤ m.length * 5 := by omega
  rw [store_eq, hg]
  show stQ base id (some ⟨.cells (flat encW m) 49 true false, 0⟩) 0 (o * 5) (flat encW z) _ = _
  rw [stQ_ok (by rw [flat_len, flat_len, hz]; exact hle) (List.all_eq_true.2 fun x hx => by
    obtain ⟨w, _, hw⟩ := List.mem_flatMap.1 hx
    exact List.all_eq_true.1 (encW_sc w) x hw) hb, h1]
  rfl
theorem slW_to {n k : Nat} {hi : Int} (h0 : 0 ≤ hi) (h1 : hi ≤ k) : sliceA prog 23 (.slice (some ⟨id, 0, 0⟩) n k) none (some (.int .i64 hi)) none = some (.slice (some ⟨id, 0, 0⟩) hi.toNat k) := by
  have e1 : hi ≤ (k : Int) := h1
  simp [sliceA, Fc.ar23, Fc.el23, optB, boundA, ARef.add, h0, e1]
theorem slW_from {n k : Nat} {lo : Int} (h0 : 0 ≤ lo) (h1 : lo ≤ n) (h2 : n ≤ k) : sliceA prog 23 (.slice (some ⟨id, 0, 0⟩) n k) (some (.int .i64 lo)) none none = some (.slice (some ⟨id, 0, lo.toNat * 5⟩) (n - lo.toNat) (k - lo.toNat)) := by
  have e1 : lo ≤ (n : Int) := h1
  simp [sliceA, Fc.ar23, Fc.el23, optB, boundA, ARef.add, h0, e1]
theorem slW_two {n k : Nat} {lo hi : Int} (h0 : 0 ≤ lo) (h1 : lo ≤ hi) (h2 : hi ≤ k) : sliceA prog 23 (.slice (some ⟨id, 0, 0⟩) n k) (some (.int .i64 lo)) (some (.int .i64 hi)) none = some (.slice (some ⟨id, 0, lo.toNat * 5⟩) (hi.toNat - lo.toNat) (k - lo.toNat)) := by
  simp only [sliceA, Fc.ar23, Fc.el23, optB, boundI (show 0 ≤ hi by omega) h2, boundI h0 (show lo ≤ (hi.toNat : Int) by omega)]
  simp [ARef.add]
theorem slW_three {n k : Nat} {lo hi mx : Int} (h0 : 0 ≤ lo) (h1 : lo ≤ hi) (h2 : hi ≤ mx) (h3 : mx ≤ k) : ∃ v, sliceA prog 23 (.slice (some ⟨id, 0, 0⟩) n k) (some (.int .i64 lo)) (some (.int .i64 hi)) (some (.int .i64 mx)) = some v := by
  simp only [sliceA, Fc.ar23, Fc.el23, optB, boundI (show 0 ≤ mx by omega) h3, boundI (show 0 ≤ hi by omega) (show hi ≤ (mx.toNat : Int) by omega), boundI h0 (show lo ≤ (hi.toNat : Int) by omega)]
  exact ⟨_, rfl⟩
def wnt0 : Wnt := ⟨0, 0, 0, 0, 0⟩
/-- slices.Delete, of one want. -/
theorem run_deleteW {l : List Wnt} {i : Nat} (hg : h[id]? = some (wB l)) (hb : base ≤ id) (hi : i < l.length) (hl : l.length ≤ 1000) :
    Ret prog raw base (.fn 67 [] []) [.slice (some ⟨id, 0, 0⟩) l.length l.length, .int .i64 (i : Int), .int .i64 ((i : Int) + 1)] h (fun w H => w = .slice (some ⟨id, 0, 0⟩) (l.length - 1) l.length ∧ H = h.set id (wB (l.eraseIdx i ++ [wnt0]))) := by
  obtain ⟨n, en⟩ : ∃ n, l.length = n := ⟨_, rfl⟩
  rw [en] at hi hl ⊢
  have hid := lt_of_get hg
  obtain ⟨v3, e3⟩ := slW_three (id := id) (n := n) (k := n) (lo := (i : Int)) (hi := (i : Int) + 1) (mx := (n : Int)) (by omega) (by omega) (by omega) (by omega)
  have t1 : ((i : Int) = (i : Int) + 1) = False := eq_false (by omega)
  have s1 := slW_to (id := id) (n := n) (k := n) (hi := (i : Int)) (by omega) (by omega)
  have s2 := slW_from (id := id) (n := n) (k := n) (lo := (i : Int) + 1) (by omega) (by omega) (by omega)
  rw [Int.toNat_natCast] at s1
  rw [show ((i : Int) + 1).toNat = i + 1 by omega] at s2
  obtain ⟨m, em⟩ : ∃ m, m = l.eraseIdx i ++ l.drop (n - 1) := ⟨_, rfl⟩
  have hel : (l.eraseIdx i).length = n - 1 := by rw [List.length_eraseIdx, if_pos (by omega)]; omega
  have hml : m.length = n := by rw [em, List.length_append, hel, List.length_drop]; omega
  have hld : (l.drop (i + 1)).length = n - (i + 1) := by rw [List.length_drop, en]
  have hRd : Rows encW h (.slice (some ⟨id, 0, (i + 1) * 5⟩) (n - (i + 1)) (n - (i + 1))) (l.drop (i + 1)) := by
    refine ⟨by omega, .inr (.inr ⟨⟨id, 0, (i + 1) * 5⟩, n - (i + 1), flat encW l, 49, true, false, by rw [hld], hg, ?_, ?_, by omega⟩)⟩
    · have e : flat encW l = flat encW (l.take (i + 1)) ++ flat encW (l.drop (i + 1)) := by rw [← flat_app, List.take_append_drop]
      have hlo : (flat encW (l.take (i + 1))).length = (i + 1) * 5 := by
        rw [flat_len, List.length_take, Nat.min_eq_left (by omega)]; rfl
      show ((flat encW l).drop ((i + 1) * 5)).take _ = _
      rw [e, ← hlo, List.drop_left, List.take_of_length_le (by rw [flat_len]; exact Nat.le_refl _)]
    · rw [hld, flat_len, show encW.z = 5 from rfl]; simp only; omega
  have hfn := hRd.firstN
  rw [hld, show encW.z = 5 from rfl] at hfn
  have hap : appendA prog base h 23 (.slice (some ⟨id, 0, 0⟩) i n) (.slice (some ⟨id, 0, (i + 1) * 5⟩) (n - (i + 1)) (n - (i + 1))) = some (.slice (some ⟨id, 0, 0⟩) (n - 1) n, h.set id (wB m)) := by
    have hsc : (flat encW (l.drop (i + 1))).all AVal.scalar = true := List.all_eq_true.2 fun x hx => by
      obtain ⟨w, _, hw⟩ := List.mem_flatMap.1 hx
      exact List.all_eq_true.1 (encW_sc w) x hw
    simp only [appendA, Fc.el23, lenA, hfn, hsc, if_true]
    rw [if_pos (by omega)]
    have : (ARef.mk id 0 0).add (i * 5) = ⟨id, 0, i * 5⟩ := by simp [ARef.add]
    rw [this, stW hg hb (by rw [hld]; omega)]
    simp only [hld]
    rw [show i + (n - (i + 1)) = n - 1 by omega, ← List.eraseIdx_eq_take_drop_succ, em]
  obtain ⟨G, eG⟩ : ∃ G, G = h.set id (wB m) := ⟨_, rfl⟩
  rw [← eG] at hap
  have gG : G[id]? = some (wB m) := by rw [eG, List.getElem?_set_self hid]
  have s3 := slW_two (id := id) (n := n - 1) (k := n) (lo := ((n - 1 : Nat) : Int)) (hi := (n : Int)) (by omega) (by omega) (by omega)
  rw [Int.toNat_natCast, Int.toNat_natCast, show n - (n - 1) = 1 by omega] at s3
  have hcl : clearA prog base G 23 (.slice (some ⟨id, 0, (n - 1) * 5⟩) 1 1) = some (.tuple [], G.set id (wB (l.eraseIdx i ++ [wnt0]))) := by
    have hs := stW (z := [wnt0]) (o := n - 1) gG hb (by simp; omega)
    have e : m.take (n - 1) ++ [wnt0] ++ m.drop (n - 1 + [wnt0].length) = l.eraseIdx i ++ [wnt0] := by
      rw [em, List.take_left' hel, List.drop_of_length_le (by simp [hel]; omega), List.append_nil]
    rw [e] at hs
    have hr : repCells [AVal.int .i64 0, .int .i64 0, .int .i64 0, .int .i64 0, .int .i64 0] (0 + 1) = flat encW [wnt0] := rfl
    simp only [clearA, Fc.el23, hr, hs]
  refine ret_raw func67 rfl (by kernel_rfl) ?_
  have hsp := @Nat.succ_ne_zero; repeat' (first | simp (disch := first | exact dschN46 | fail) only [go_sem, ↓reduceIte, hsp, e3, t1, s1, s2, hap, s3, hcl] | refine WP_drw ?_ | refine cnd_intro (fun hsp => ?_) fun hsp => ?_)
  rw [eG, List.set_set]
end
set_option maxRecDepth 100000 in
set_option maxHeartbeats 4000000 in
theorem run_without {base : Nat} {h : Heap} {v : AVal} {R : Rib} {k : Nat} (hb : base ≤ h.length) (hA : RibAt h v R) (hR : RibOk R) (hk : k < R.W.length) :
    Ret prog raw base (.fn 116 [] []) [v, .int .i64 (k : Int)] h (fun w H => Ext h H ∧ RibAt H w (witR R k)) := by
  have hAe := fun H (e : Ext h H) => hA.ext e
  obtain ⟨fv, wv, rfl, hF, hW⟩ := hA
  have o1 := hF.one
  have o2 := hW.one
  have hnW := hR.nW
  obtain ⟨G0, eG0⟩ : ∃ G0, G0 = h ++ [ribB R.L fv wv] ++ [ribB 0 (.slice none 0 0) (.slice none 0 0)] := ⟨_, rfl⟩
  have x0 : Ext h G0 := by rw [eG0]; exact .app (.app .refl)
  have g0 : G0[h.length]? = some (ribB R.L fv wv) := by rw [eG0]; exact get_app (get_eq rfl)
  have g00 : G0[h.length + 1]? = some (ribB 0 (.slice none 0 0) (.slice none 0 0)) := by rw [eG0]; exact get_eq (by simp)
  have l0 : G0.length = h.length + 2 := by rw [eG0]; simp
  obtain ⟨w1, H1, e1, x1, -, hne⟩ := run_cloneW (base := base) (hW.ext x0) (by omega)
  obtain ⟨rfl, eH1⟩ := hne (fun q => by rw [q] at hk; simp at hk)
  have l1 : H1.length = G0.length + 1 := by rw [eH1]; simp
  have gw : H1[G0.length]? = some (wB R.W) := by rw [eH1]; exact get_eq rfl
  obtain ⟨_, H2, e2, rfl, eH2⟩ := run_deleteW (base := base) gw (by omega) hk (by omega)
  have l2 : H2.length = H1.length := by rw [eH2, List.length_set]
  have g1 := x1.get g0
  have g2 : H2[h.length]? = some (ribB R.L fv wv) := by rw [eH2, List.getElem?_set_ne (by omega)]; exact g1
  have g3 : H2[h.length + 1]? = some (ribB 0 (.slice none 0 0) (.slice none 0 0)) := by rw [eH2, List.getElem?_set_ne (by omega)]; exact x1.get g00
  have gw2 : H2[G0.length]? = some (wB (R.W.eraseIdx k ++ [wnt0])) := by rw [eH2, List.getElem?_set_self (by omega)]
  have xH2 : Ext h H2 := by rw [eH2]; exact (x0.trans x1).set (by omega)
  have hel : (R.W.eraseIdx k).length = R.W.length - 1 := by rw [List.length_eraseIdx, if_pos hk]
  unfold ribB at eG0 g0 g1 g2 g3
  refine ret_raw func116 rfl (by kernel_rfl) ?_
  have hsp := @Nat.succ_ne_zero; repeat' (first | simp (disch := first | exact dschN46 | fail) only [go_sem, ↓reduceIte, hsp, ← eG0, g0, e1, g1, e2, g2, g3] | refine WP_drw ?_ | refine cnd_intro (fun hsp => ?_) fun hsp => ?_)
  obtain ⟨Y, eY⟩ : ∃ Y, Y = (List.set H2 h.length ⟨.cells [.int .i64 R.L, fv, .slice (some ⟨G0.length, 0, 0⟩) (R.W.length - 1) R.W.length] 25 false false, 0⟩).set (h.length + 1) ⟨.cells [.int .i64 R.L, fv, .slice (some ⟨G0.length, 0, 0⟩) (R.W.length - 1) R.W.length] 25 false false, 0⟩ := ⟨_, rfl⟩
  have xf : Ext h Y := by rw [eY]; exact (xH2.set (Nat.le_refl _)).set (by omega)
  have gY : Y[G0.length]? = some (wB (R.W.eraseIdx k ++ [wnt0])) := by rw [eY, List.getElem?_set_ne (by omega), List.getElem?_set_ne (by omega)]; exact gw2
  rw [← eY]
  refine ⟨xf, fv, _, rfl, hF.ext xf, ?_⟩
  show Rows encW Y _ (R.W.eraseIdx k)
  refine ⟨by omega, .inr (.inr ⟨⟨G0.length, 0, 0⟩, R.W.length, flat encW (R.W.eraseIdx k ++ [wnt0]), 49, true, false, by rw [hel], gY, ?_, ?_, by omega⟩)⟩
  · show ((flat encW (R.W.eraseIdx k ++ [wnt0])).drop 0).take _ = _
    rw [List.drop_zero, flat_app, ← flat_len, List.take_left]
  · rw [flat_len, List.length_append, Nat.add_mul]; simp only; omega
end Go.AM
/-
  Contracts: the wants without which less is earned (Needed).
-/
namespace Go.AM
open Go.Proofs.Try
theorem dschN47 {p : Prop} (h : p := by first | exact Nat.ne_of_beq_eq_false rfl | assumption | (apply asOne; (first | exact One.int | exact One.bool | assumption | exact Ints.one (by assumption) | exact Rows.one (by assumption) | exact Own.one (by assumption) | exact One.lit ⟨rfl, rfl, rfl⟩)) | (apply asInts; (repeat first | assumption | exact ints_nil | apply Ints.app); done) | (apply asRows; (repeat first | assumption | exact Rows.nil | apply Rows.app); done) | (apply asScal; (first | apply allS1 | apply allS2 | apply allS3 | apply allS4) <;> (first | exact One.int | exact One.bool | assumption | exact Ints.one (by assumption) | exact Rows.one (by assumption) | exact Own.one (by assumption) | exact One.lit ⟨rfl, rfl, rfl⟩)) | exact litT rfl | exact litF rfl | omega | (simp only [List.length_append, List.length_cons, List.length_nil, List.length_set, List.length_reverse]; first | done | omega) | fail) : p := h
attribute [-go_sem] put_ne put_same
attribute [local go_sem ↓] put_if
def nedE (R : Rib) : List Int := if chkR R ≠ 0 then [] else nedL R
def nedN (R : Rib) (n : Nat) : List Int := (upto n).filter fun k => decide (valD (witR R k.toNat) 0 < valD R 0)
theorem nedN_succ {R : Rib} {n : Nat} : nedN R (n + 1) = nedN R n ++ if valD (witR R n) 0 < valD R 0 then [(n : Int)] else [] := by
  unfold nedN
  rw [upto_succ, List.filter_append, List.filter_cons, List.filter_nil, Int.toNat_natCast]
  by_cases c : valD (witR R n) 0 < valD R 0
  · rw [decide_eq_true c, if_pos rfl, if_pos c]
  · rw [decide_eq_false c, if_neg (by simp), if_neg c]
theorem nedN_len {R : Rib} {n : Nat} : (nedN R n).length ≤ n := by
  unfold nedN
  exact Nat.le_trans (List.length_filter_le _ _) (by rw [upto_len]; exact Nat.le_refl _)
set_option maxRecDepth 100000 in
set_option maxHeartbeats 4000000 in
theorem run_Needed {base : Nat} {h : Heap} {v : AVal} {R : Rib} (hb : base ≤ h.length) (hA : RibAt h v R) (hsm : R.F.length ≤ 1048576) :
    Ret prog raw base (.fn 61 [] []) [v] h (fun w H => Ext h H ∧ ∃ u, w = .tuple [u, .int .i64 (chkR R)] ∧ Own encI 3 h.length H u (nedE R)) := by
  have hAe := fun H (e : Ext h H) => hA.ext e
  obtain ⟨fv, wv, rfl, hF, hW⟩ := hA
  have o1 := hF.one
  have o2 := hW.one
  obtain ⟨G0, eG0⟩ : ∃ G0, G0 = h ++ [ribB R.L fv wv] := ⟨_, rfl⟩
  have x0 : Ext h G0 := by rw [eG0]; exact .app .refl
  have g0 : G0[h.length]? = some (ribB R.L fv wv) := by rw [eG0]; exact get_eq rfl
  have l0 : G0.length = h.length + 1 := by rw [eG0]; simp
  obtain ⟨w1, H1, e1, x1, r1, r2⟩ := run_opened (base := base) (h := G0) (by omega) (hAe G0 x0) hsm
  have l1 := x1.len
  have xx := x0.trans x1
  have p0 := x1.get g0
  unfold ribB at eG0 g0
  by_cases c0 : chkR R = 0
  · obtain ⟨id, rfl, hid, hD⟩ := r2 c0
    have hR := chkR_iff.1 c0
    have hL := hR.L
    have hnW := hR.nW
    have hm := fun base => run_made (base := base) hD hR
    have hz : zer61.length = 61 := by decide
    have ml := mdS_len (R := R) (x := 0)
    have mv := mdS_at (R := R) (x := 0) (y := 0) (by omega) (Nat.le_refl _)
    obtain ⟨H2, eH2⟩ : ∃ H2, H2 = H1 ++ [valBk (mdS R 0)] := ⟨_, rfl⟩
    have x2 : Ext H1 H2 := by rw [eH2]; exact .app .refl
    have l2 : H2.length = H1.length + 1 := by rw [eH2]; simp
    have gq : H2[H1.length]? = some (valBk (mdS R 0)) := by rw [eH2]; exact get_eq rfl
    have stV := stV61 (base := base) (id := H1.length) (H := H1 ++ [valBk zer61]) (l := mdS R 0) (m := zer61) (get_eq rfl) ml hz
    rw [set_eq rfl, ← eH2] at stV
    have re : nedE R = nedN R R.W.length := by unfold nedE; rw [if_neg (fun q => q c0)]; rfl
    rw [re, c0]
    have hn := (hW.ext (xx.trans x2)).len (P := prog) Fc.el23
    have p2 := x2.get p0
    unfold ribB at p0 p2
    unfold valBk zer61 at stV
    refine ret_raw func61 rfl (by kernel_rfl) ?_
    have hsp := @Nat.succ_ne_zero; repeat' (first | simp (disch := first | exact dschN47 | fail) only [go_sem, ↓reduceIte, hsp, ← eG0, g0, e1, eq_self, hm, stV, p2, hn] | refine WP_drw ?_ | refine cnd_intro (fun hsp => ?_) fun hsp => ?_)
    refine WP_count [(7, 9), (23, 45)] 0 R.W.length (Nat.zero_le _) (fun _ k fr K => fr 23 = .int .i64 (k : Int) ∧ Ext H2 K ∧ ∃ w, fr 7 = w ∧ Own encI 3 H2.length K w (nedN R k)) ?_ ?_ ?_
    · exact ⟨by (simp (disch := first | exact dschN47 | fail) only [go_sem, ↓reduceIte, Int.natCast_zero]; first | done | rfl), .refl, .slice none 0 0, by (simp (disch := first | exact dschN47 | fail) only [go_sem, ↓reduceIte, Int.natCast_zero]; first | done | rfl), Own.nil⟩
    · rintro k fr K hk0 hk hAg ⟨r23, xK, w, r7, oW⟩
      have q1 := hAg 1 rfl
      have q2 := hAg 2 rfl
      have q3 := hAg 3 rfl
      have q6 := hAg 6 rfl
      have q22 := hAg 22 rfl
      try simp (disch := first | exact dschN47 | fail) only [go_sem, ↓reduceIte] at q1 q2 q3 q6 q22
      have hlt : ((k : Int) < (R.W.length : Int)) = True := eq_true (by omega)
      have ow := oW.one
      have lK := xK.len
      have xh := (xx.trans x2).trans xK
      have pK := xK.get p2
      have qK := xK.get gq
      have hnl := nedN_len (R := R) (n := k)
      have hR2 := hR.wit k
      obtain ⟨wr, K1, f1, y1, aW⟩ := run_without (base := base) (h := K) (k := k) (by omega) (hAe K xh) hR hk
      have k1 := y1.len
      have aW' := aW
      obtain ⟨fw2, ww2, rfl, hF2, hW2⟩ := aW'
      have ofw2 := hF2.one
      have oww2 := hW2.one
      obtain ⟨_, K2, f2, y2, id2, rfl, hid2, hD2⟩ := run_worked (base := base) (h := K1) (by omega) aW hR2
      have k2 := y2.len
      have hm2 := fun base => run_made (base := base) hD2 hR2
      have ml2 := mdS_len (R := witR R k) (x := 0)
      have mv2 := mdS_at (R := witR R k) (x := 0) (y := 0) (by omega) (Nat.le_refl _)
      obtain ⟨K3, eK3⟩ : ∃ K3, K3 = K2 ++ [valBk (mdS (witR R k) 0)] := ⟨_, rfl⟩
      have y3 : Ext K2 K3 := by rw [eK3]; exact .app .refl
      have k3 : K3.length = K2.length + 1 := by rw [eK3]; simp
      have qK3 : K3[K2.length]? = some (valBk (mdS (witR R k) 0)) := by rw [eK3]; exact get_eq rfl
      have stW := stV61 (base := base) (id := K2.length) (H := K2 ++ [valBk zer61]) (l := mdS (witR R k) 0) (m := zer61) (get_eq rfl) ml2 hz
      rw [set_eq rfl, ← eK3] at stW
      have y13 := (y1.trans y2).trans y3
      have q13 := y13.get qK
      have ne := ne61 (a := mdS (witR R k) 0) (b := mdS R 0) ml2 ml
      have ldA := ldA61 (l := mdS R 0) (e := 136) (row := false) (ro := false) ml
      have ldB' := ldA61 (l := mdS (witR R k) 0) (e := 136) (row := false) (ro := false) ml2
      have ld0 : ∀ z, ldB (some (false, z)) (some (valBk (mdS R 0))) 0 0 = some (.int .i64 (valD R 0)) := fun z => by rw [← mv]; exact ldB_ints (by omega)
      have ld1 : ∀ z, ldB (some (false, z)) (some (valBk (mdS (witR R k) 0))) 0 0 = some (.int .i64 (valD (witR R k) 0)) := fun z => by rw [← mv2]; exact ldB_ints (by omega)
      have hsuc := nedN_succ (R := R) (n := k)
      unfold ribB at pK
      unfold valBk zer61 at stW
      unfold valBk at q13 qK3 ld0 ld1
      obtain ⟨a0, ea0⟩ : ∃ a0, a0 = valD R 0 := ⟨_, rfl⟩
      obtain ⟨a1, ea1⟩ : ∃ a1, a1 = valD (witR R k) 0 := ⟨_, rfl⟩
      by_cases c1 : a1 < a0
      · rw [ne_lt (by rw [mv, mv2, ← ea0, ← ea1]; exact c1)] at ne
        rw [← ea0] at ld0
        rw [← ea1] at ld1
        rw [← ea0, ← ea1, if_pos c1] at hsuc
        have t1 : (a1 < a0) = True := eq_true c1
        obtain ⟨w', K4, ea, oW', lW, eW, oneW⟩ := (oW.ext y13).append1 (P := prog) (y := (k : Int)) (a := .int .i64 (k : Int)) (base := base) (t := 22) rfl rfl Fc.el22 encI_sc (by omega) (by omega) (by omega)
        have hsp := @Nat.succ_ne_zero; repeat' (first | simp (disch := first | exact dschN47 | fail) only [go_sem, ↓reduceIte, hsp, r23, r7, q1, q2, q3, q6, q22, hlt, pK, f1, f2, hm2, stW, q13, qK3, ldA, ldB', ne, ld0, ld1, t1, ea] | refine WP_drw ?_ | refine cnd_intro (fun hsp => ?_) fun hsp => ?_)
        exact ⟨by (repeat first | exact Agree.refl | assumption | refine Agree.put rfl ?_ | refine Agree.put0 ?_ | refine Agree.sub rfl (by assumption) ?_), by omega, eW H2 (Nat.le_refl _) (xK.trans y13), w', rfl, by rw [hsuc]; exact oW'⟩
      · rw [← ea0] at ld0
        rw [← ea1] at ld1
        rw [← ea0, ← ea1, if_neg c1, List.append_nil] at hsuc
        have t1 : (a1 < a0) = False := eq_false c1
        obtain ⟨bb, ebb⟩ : ∃ bb, bb = (!(List.range 61).all fun i => decide ((mdS (witR R k) 0).getD i 0 = (mdS R 0).getD i 0)) := ⟨_, rfl⟩
        rw [← ebb] at ne
        cases bb with
        | false =>
          have hsp := @Nat.succ_ne_zero; repeat' (first | simp (disch := first | exact dschN47 | fail) only [go_sem, ↓reduceIte, hsp, r23, r7, q1, q2, q3, q6, q22, hlt, pK, f1, f2, hm2, stW, q13, qK3, ldA, ldB', ne] | refine WP_drw ?_ | refine cnd_intro (fun hsp => ?_) fun hsp => ?_)
          exact ⟨by (repeat first | exact Agree.refl | assumption | refine Agree.put rfl ?_ | refine Agree.put0 ?_ | refine Agree.sub rfl (by assumption) ?_), by omega, xK.trans y13, w, rfl, by rw [hsuc]; exact oW.ext y13⟩
        | true =>
          have hsp := @Nat.succ_ne_zero; repeat' (first | simp (disch := first | exact dschN47 | fail) only [go_sem, ↓reduceIte, hsp, r23, r7, q1, q2, q3, q6, q22, hlt, pK, f1, f2, hm2, stW, q13, qK3, ldA, ldB', ne, ld0, ld1, t1] | refine WP_drw ?_ | refine cnd_intro (fun hsp => ?_) fun hsp => ?_)
          exact ⟨by (repeat first | exact Agree.refl | assumption | refine Agree.put rfl ?_ | refine Agree.put0 ?_ | refine Agree.sub rfl (by assumption) ?_), by omega, xK.trans y13, w, rfl, by rw [hsuc]; exact oW.ext y13⟩
    · rintro fr K hAg ⟨r23, xK, w, r7, oW⟩
      have q1 := hAg 1 rfl
      have q2 := hAg 2 rfl
      have q3 := hAg 3 rfl
      have q6 := hAg 6 rfl
      have q22 := hAg 22 rfl
      try simp (disch := first | exact dschN47 | fail) only [go_sem, ↓reduceIte] at q1 q2 q3 q6 q22
      have hlt : ((R.W.length : Int) < (R.W.length : Int)) = False := eq_false (by omega)
      have ow := oW.one
      have hsp := @Nat.succ_ne_zero; repeat' (first | simp (disch := first | exact dschN47 | fail) only [go_sem, ↓reduceIte, hsp, r23, r7, q1, q2, q3, q6, q22, hlt] | refine WP_drw ?_ | refine cnd_intro (fun hsp => ?_) fun hsp => ?_)
      exact ⟨(xx.trans x2).trans xK, w, rfl, oW.low (by omega)⟩
  · have t0 : (chkR R = 0) = False := eq_false c0
    have r := r1 c0
    subst r
    have re : nedE R = [] := by unfold nedE; rw [if_pos c0]
    rw [re]
    refine ret_raw func61 rfl (by kernel_rfl) ?_
    have hsp := @Nat.succ_ne_zero; repeat' (first | simp (disch := first | exact dschN47 | fail) only [go_sem, ↓reduceIte, hsp, ← eG0, g0, e1, t0] | refine WP_drw ?_ | refine cnd_intro (fun hsp => ?_) fun hsp => ?_)
    exact ⟨xx, _, rfl, Own.nil⟩
end Go.AM
/-
  Contracts: whether values hold (holds).
-/
namespace Go.AM
open Go.Proofs.Try
attribute [-go_sem] put_ne put_same
attribute [local go_sem ↓] put_if
/-- No choice earns more than is said. -/
structure Hld (R : Rib) (V : List Int) : Prop where
  up : ∀ x, x < R.L.toNat → V.getD (x + 1) 0 ≤ V.getD x 0
  cut : ∀ x, x < R.L.toNat → ∀ c ∈ cutL R x, c.2.2 + V.getD c.2.1.toNat 0 ≤ V.getD x 0
  fin : 0 ≤ V.getD R.L.toNat 0
abbrev boB (b : Bool) : ABlk := ⟨.cells [.bool b] 4 false false, 0⟩
end Go.AM
/-
  Contracts: values that are given (valued), whether they hold (Holds), what they say (Bound).
-/
namespace Go.AM
open Go.Proofs.Try
attribute [-go_sem] put_ne put_same
attribute [local go_sem ↓] put_if
def padV (l : List Int) : List Int := l ++ List.replicate (61 - l.length) 0
def vldE (R : Rib) (l : List Int) : Int := if chkR R ≠ 0 then chkR R else if (l.length : Int) ≠ R.L + 1 then 2 else if ¬ (l.all fun y => decide (-10000 ≤ y ∧ y ≤ 10000)) = true then 3 else 0
end Go.AM
/-
  Contracts: whether values hold (Holds), what they say (Bound).
-/
namespace Go.AM
open Go.Proofs.Try
attribute [-go_sem] put_ne put_same
attribute [local go_sem ↓] put_if
noncomputable def hldB (R : Rib) (V : List Int) : Bool := @decide (Hld R V) (Classical.propDecidable _)
/-- What is said of values: whether they hold, the error, what they say. -/
noncomputable def hldE (R : Rib) (l : List Int) : Bool := decide (vldE R l = 0) && hldB R l
noncomputable def bndE (R : Rib) (l : List Int) : Int × Int := if vldE R l ≠ 0 then (0, vldE R l) else if hldB R l = true then (l.getD 0 0, 0) else (0, 8)
end Go.AM
/-
  The reference: what is earned from each position on (Made); whether values hold (Values, Holds).
-/
namespace Go.AM
open Go.Proofs.Try
attribute [-go_sem] put_ne put_same
attribute [local go_sem ↓] put_if
end Go.AM
/-
  The reference: whether values hold (Holds).
-/
namespace Go.AM
open Go.Proofs.Try
attribute [-go_sem] put_ne put_same
attribute [local go_sem ↓] put_if
end Go.AM
/-
  Plain: what is earned before a position, in the reference's row.
-/
namespace Go.AM
section
variable {R : Rib} {x : Nat}
end
end Go.AM
/-
  The reference: whether a best plan may use a want (Uses).
-/
namespace Go.AM
open Go.Proofs.Try
attribute [-go_sem] put_ne put_same
attribute [local go_sem ↓] put_if
end Go.AM
/-
  The reference: whether a want is needed (Needs), from which price on it is used (Raise).
-/
namespace Go.AM
open Go.Proofs.Try
attribute [-go_sem] put_ne put_same
attribute [local go_sem ↓] put_if
def lssN (R : Rib) (k i : Nat) : List Wnt := (R.W.take i).eraseIdx k
end Go.AM
/-
  CutWants, walked.
-/
namespace Go.AM
open Go.Proofs.Try
attribute [-go_sem] put_ne put_same
attribute [local go_sem ↓] put_if
def usP (R : Rib) (n : Nat) : List Int := (upto n).filter fun k => decide (k ∈ usN R R.L.toNat)
theorem filt_small {n : Nat} {p : Int → Bool} (h : n ≤ 1000) : Small ((upto n).filter p) :=
  ⟨Nat.lt_of_le_of_lt (Nat.le_trans (List.length_filter_le _ _) (by rw [upto_len]; exact Nat.le_refl n)) (by omega), fun y hy => by have := upto_mem.1 (List.mem_filter.1 hy).1; omega⟩
end Go.AM
/-
  The law's own reckoning of one cut (taken).
-/
namespace Go.AM
open Go.Proofs.Try
attribute [-go_sem] put_ne put_same
attribute [local go_sem ↓] put_if
/-- What the law says of a cut: its end, what it earns, whether it is allowed. -/
def tknW (R : Rib) (w : Wnt) (x : Nat) (j : Bool) : Int × Int × Bool :=
  if j = true then (if okT R w x true = true then ((uniP R w x true).1.getD ((uniP R w x true).1.length - 1) 0 + 1, max 0 (w.pr - w.off * (uniP R w x true).2), decide ((uniP R w x true).2 ≤ w.jn)) else (0, 0, false))
  else ((x : Int) + w.lg, max 0 (w.pr - w.off * cntB (badF R) x w.lg.toNat), decide ((x : Int) + w.lg ≤ R.L) && decide (cntB (badF R) x w.lg.toNat ≤ w.fl))
def tknR (R : Rib) (c : Ct) : Int × Int × Bool := if (0 ≤ c.w ∧ c.w ≤ (R.W.length : Int) - 1) ∧ (0 ≤ c.f ∧ c.f ≤ R.L - 1) then (match R.W[c.w.toNat]? with | none => (0, 0, false) | some w => tknW R w c.f.toNat c.j) else (0, 0, false)
theorem tknW_f {R : Rib} {w : Wnt} {x : Nat} : tknW R w x false = ((x : Int) + w.lg, max 0 (w.pr - w.off * cntB (badF R) x w.lg.toNat), decide ((x : Int) + w.lg ≤ R.L) && decide (cntB (badF R) x w.lg.toNat ≤ w.fl)) := rfl
def gpI (o : List Int) (u : Nat) : Int := if gapB o u = true then 1 else 0
/-- What holds in the joined cut's loop. -/
structure Jn (R : Rib) (w : Wnt) (x u : Nat) (o : List Int) (f : Int) : Prop where
  k : UnK x 0 w.lg u o f
  un : unL (badF R) true w.lg (R.L.toNat - u) u o f = uniP R w x true
  st : o = [] → u = x
  hd : x < u → badF R x = false
  ls : o ≠ [] → if badF R (u - 1) = true then o.getD (o.length - 1) 0 < (u : Int) - 1 else o.getD (o.length - 1) 0 = (u : Int) - 1
  en : (o.length : Int) = w.lg → o.getD (o.length - 1) 0 = (u : Int) - 1
end Go.AM
/-
  The law's own reckoning of a plan (earned).
-/
namespace Go.AM
open Go.Proofs.Try
attribute [-go_sem] put_ne put_same
attribute [local go_sem ↓] put_if
end Go.AM
/-
  (The heap behind a spool that was turned, own rows: G1.)
-/
