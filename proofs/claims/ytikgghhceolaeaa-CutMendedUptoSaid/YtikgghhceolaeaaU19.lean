/-
  Contracts: the chapter's example is as it should be (Ten, awake).
-/
import Derived.Test.YtikgghhceolaeaaU18
import Derived.Test.YtikgghhceolaeaaU12
import Derived.Test.YtikgghhceolaeaaU10
import Derived.Test.YtikgghhceolaeaaU9
import Derived.Test.YtikgghhceolaeaaU11
import Derived.Test.YtikgghhceolaeaaU0
import Derived.Shelf.Spec.SlicesInsert
import Derived.Shelf.Spec.SlicesInsertGrow
set_option linter.unusedSimpArgs false
set_option linter.unusedVariables false
namespace Go.AM
open Go.Proofs.Try
theorem dschN22 {p : Prop} (h : p := by first | exact Nat.ne_of_beq_eq_false rfl | assumption | (apply asOne; (first | exact One.int | exact One.bool | assumption | exact Ints.one (by assumption) | exact Rows.one (by assumption) | exact Own.one (by assumption) | exact One.lit ⟨rfl, rfl, rfl⟩)) | (apply asInts; (repeat first | assumption | exact ints_nil | apply Ints.app); done) | (apply asRows; (repeat first | assumption | exact Rows.nil | apply Rows.app); done) | (apply asScal; (first | apply allS1 | apply allS2 | apply allS3 | apply allS4) <;> (first | exact One.int | exact One.bool | assumption | exact Ints.one (by assumption) | exact Rows.one (by assumption) | exact Own.one (by assumption) | exact One.lit ⟨rfl, rfl, rfl⟩)) | exact litT rfl | exact litF rfl | omega | (simp only [List.length_append, List.length_cons, List.length_nil, List.length_set, List.length_reverse]; first | done | omega) | fail) : p := h
attribute [-go_sem] put_ne put_same
attribute [local go_sem ↓] put_if
theorem bs2I {lit : Bool} {H : Heap} {a b : Int} (hl : lit = false) : bsA prog lit H 22 2 [(0, .int .i64 a), (1, .int .i64 b)] = some (.slice (some ⟨H.length, 0, 0⟩) 2 2, H ++ [rowB [a, b] 0]) := by
  subst hl; simp [bsA, rowOf, Fc.el22, fillA, repCells, AVal.isN, AVal.cells, splice, rowB, ints]
theorem bs2W {lit : Bool} {H : Heap} {a b : Wnt} : bsA prog lit H 23 2 [(0, .agg [.int .i64 a.lg, .int .i64 a.pr, .int .i64 a.off, .int .i64 a.fl, .int .i64 a.jn]), (1, .agg [.int .i64 b.lg, .int .i64 b.pr, .int .i64 b.off, .int .i64 b.fl, .int .i64 b.jn])] = some (.slice (some ⟨H.length, 0, 0⟩) 2 2, H ++ [rowE encW 49 [a, b] 0]) := by
  simp [bsA, rowOf, Fc.el23, fillA, repCells, AVal.isN, AVal.cells, splice, rowE, flat, encW]
theorem bs2C {lit : Bool} {H : Heap} {a b : Ct} : bsA prog lit H 43 2 [(0, .agg [.int .i64 a.w, .int .i64 a.f, .bool a.j]), (1, .agg [.int .i64 b.w, .int .i64 b.f, .bool b.j])] = some (.slice (some ⟨H.length, 0, 0⟩) 2 2, H ++ [rowE encC 58 [a, b] 0]) := by
  simp [bsA, rowOf, Fc.el43, fillA, repCells, AVal.isN, AVal.cells, splice, rowE, flat, encC]
theorem bs2S {lit : Bool} {H : Heap} {a b : Int × Int} : bsA prog lit H 59 2 [(0, .agg [.int .i64 a.1, .int .i64 a.2]), (1, .agg [.int .i64 b.1, .int .i64 b.2])] = some (.slice (some ⟨H.length, 0, 0⟩) 2 2, H ++ [rowE encS 69 [a, b] 0]) := by
  simp [bsA, rowOf, Fc.el59, fillA, repCells, AVal.isN, AVal.cells, splice, rowE, flat, encS]
theorem app_non {base id : Nat} {H : Heap} {l : List Int} {n : Nat} (hg : H[id]? = some (rowB l 0)) (hn : n = l.length) : appendA prog base H 22 (.slice (some ⟨id, 0, 0⟩) n n) (.slice none 0 0) = some (.slice (some ⟨id, 0, 0⟩) n n, H) := by
  subst hn
  have hst : storeN base H (ARef.add ⟨id, 0, 0⟩ l.length) [] = some H := by
    unfold storeN
    simp only [ARef.add, hg, rowB]
    rw [if_pos ⟨trivial, by simp [ints_length], rfl, .inr rfl⟩]
    simp only [splice]
    rw [show (⟨.cells (ints l) 3 true false, 0⟩ : ABlk) = rowB l 0 from rfl, set_id hg]
  simp [appendA, Fc.el22, lenA, firstN, hst]
theorem run_Ten {base : Nat} {h : Heap} (hb : base ≤ h.length) : Ret prog raw base (.fn 80 [] []) [.slice none 0 0] h (fun w H => Ext h H ∧ RibAt H w tenR) := by
  obtain ⟨G, eG⟩ : ∃ G, G = h ++ [ribB 0 (.slice none 0 0) (.slice none 0 0)] := ⟨_, rfl⟩
  have xG : Ext h G := by rw [eG]; exact .app .refl
  have gG : G[h.length]? = some (ribB 0 (.slice none 0 0) (.slice none 0 0)) := by rw [eG]; exact get_eq rfl
  have lG : G.length = h.length + 1 := by rw [eG]; simp
  obtain ⟨H1, eH1⟩ : ∃ H1, H1 = G ++ [rowB [3, 5] 0] := ⟨_, rfl⟩
  have x1 : Ext G H1 := by rw [eH1]; exact .app .refl
  have g1 : H1[G.length]? = some (rowB [3, 5] 0) := by rw [eH1]; exact get_eq rfl
  have l1 : H1.length = h.length + 2 := by rw [eH1]; simp [lG]
  obtain ⟨H2, eH2⟩ : ∃ H2, H2 = H1 ++ [rowE encW 49 [⟨4, 10, 3, 1, 1⟩, ⟨3, 6, 1, 0, 2⟩] 0] := ⟨_, rfl⟩
  have x2 : Ext H1 H2 := by rw [eH2]; exact .app .refl
  have g2 : H2[H1.length]? = some (rowE encW 49 [⟨4, 10, 3, 1, 1⟩, ⟨3, 6, 1, 0, 2⟩] 0) := by rw [eH2]; exact get_eq rfl
  have l2 : H2.length = h.length + 3 := by rw [eH2]; simp [l1]
  have g02 := (x1.trans x2).get gG
  have b1 := fun lit (hl : lit = false) => bs2I (lit := lit) (H := G) (a := 3) (b := 5) hl
  rw [← eH1] at b1
  have b2 := fun lit => bs2W (lit := lit) (H := H1) (a := ⟨4, 10, 3, 1, 1⟩) (b := ⟨3, 6, 1, 0, 2⟩)
  rw [← eH2] at b2
  have ap := app_non (base := base) (id := G.length) (n := 2) (H := H1) g1 rfl
  unfold ribB at eG gG g02
  refine ret_raw func80 rfl (by kernel_rfl) ?_
  have hsp := @Nat.succ_ne_zero; repeat' (first | simp (disch := first | exact dschN22 | fail) only [go_sem, ↓reduceIte, hsp, ← eG, b1, ap, b2, g02] | refine WP_drw ?_ | refine cnd_intro (fun hsp => ?_) fun hsp => ?_)
  have xf : Ext h (H2.set h.length (ribB 10 (.slice (some ⟨G.length, 0, 0⟩) 2 2) (.slice (some ⟨H1.length, 0, 0⟩) 2 2))) := Ext.set ((xG.trans x1).trans x2) (Nat.le_refl _)
  refine ⟨xf, _, _, rfl, ints_rowB (l := [3, 5]) ?_ ⟨by simp, fun y hy => ?_⟩ rfl, Rows.own (l := ([⟨4, 10, 3, 1, 1⟩, ⟨3, 6, 1, 0, 2⟩] : List Wnt)) (e := 49) ?_ rfl (by simp)⟩
  · rw [List.getElem?_set_ne (by omega)]; exact x2.get g1
  · simp at hy; omega
  · rw [List.getElem?_set_ne (by omega)]; exact g2
set_option maxRecDepth 100000 in
set_option maxHeartbeats 4000000 in
theorem run_awake {base : Nat} {h : Heap} : callL prog raw base (.fn 16 [] []) [] h = some (.bool true, h) := by
  have hsm : tenR.F.length ≤ 1048576 := by decide
  obtain ⟨v1, A1, e1, x1, T1⟩ := run_Ten (base := h.length) (h := h) (Nat.le_refl _)
  have k1 := fun base => run_Take (base := base) (c := ⟨0, 0, true⟩) T1 hsm
  rw [ten_t1] at k1
  have l1 := x1.len
  obtain ⟨v2, A2, e2, x2, T2⟩ := run_Ten (base := h.length) (h := A1) l1
  have k2 := fun base => run_Take (base := base) (c := ⟨0, 2, false⟩) T2 hsm
  rw [ten_t2] at k2
  have l2 := x2.len
  obtain ⟨v3, A3, e3, x3, T3⟩ := run_Ten (base := h.length) (h := A2) (by omega)
  have l3 := x3.len
  obtain ⟨w3, B3, f3, y3, u3, rfl, O3⟩ := run_Best (base := h.length) (by omega) T3 hsm
  have m3 := y3.len
  obtain ⟨v4, A4, e4, x4, T4⟩ := run_Ten (base := h.length) (h := B3) (by omega)
  have l4 := x4.len
  obtain ⟨w4, B4, f4, y4, u4, rfl, O4⟩ := run_Made (base := h.length) (by omega) T4 hsm
  have m4 := y4.len
  obtain ⟨v5, A5, e5, x5, T5⟩ := run_Ten (base := h.length) (h := B4) (by omega)
  have l5 := x5.len
  obtain ⟨A5', eA5⟩ : ∃ A5', A5' = A5 ++ [rowE encC 58 [⟨0, 0, true⟩, ⟨0, 6, false⟩] 0] := ⟨_, rfl⟩
  have x5' : Ext A5 A5' := by rw [eA5]; exact .app .refl
  have P5 : Rows encC A5' (.slice (some ⟨A5.length, 0, 0⟩) 2 2) [⟨0, 0, true⟩, ⟨0, 6, false⟩] := Rows.own (by rw [eA5]; exact get_eq rfl) rfl (by simp)
  have l5' := x5'.len
  have bs5 := fun lit => bs2C (lit := lit) (H := A5) (a := ⟨0, 0, true⟩) (b := ⟨0, 6, false⟩)
  rw [← eA5] at bs5
  obtain ⟨w5, B5, f5, y5, u5, rfl, O5⟩ := run_Rest (base := h.length) (by omega) (T5.ext x5') hsm P5
  rw [ten_rst] at f5 O5
  have m5 := y5.len
  obtain ⟨v6, A6, e6, x6, T6⟩ := run_Ten (base := h.length) (h := B5) (by omega)
  have l6 := x6.len
  obtain ⟨w6, B6, f6, y6, u6, rfl, O6⟩ := run_Used (base := h.length) (by omega) T6 hsm
  rw [ten_usd] at O6
  have m6 := y6.len
  obtain ⟨v7, A7, e7, x7, T7⟩ := run_Ten (base := h.length) (h := B6) (by omega)
  have k7 := fun base => run_Raise (base := base) (want := 1) T7 hsm
  rw [ten_rse] at k7
  have l7 := x7.len
  obtain ⟨v8, A8, e8, x8, T8⟩ := run_Ten (base := h.length) (h := A7) (by omega)
  have k8 := fun base => run_Damage (base := base) (u := 8) T8 hsm (by omega)
  rw [ten_dmg] at k8
  have l8 := x8.len
  obtain ⟨v9, A9, e9, x9, T9⟩ := run_Ten (base := h.length) (h := A8) (by omega)
  have k9 := fun base => run_Mended (base := base) (u := 3) T9 hsm
  rw [ten_men] at k9
  rw [ten_chk, ten_all] at f3
  rw [ten_chk] at f4 f6
  simp only at k1 k2 k7 k8 k9 f5
  have z4 := x4.trans y4
  have n3 := own_len (O3.ext z4) Fc.el43 (by rw [ten_bst]; decide)
  rw [ten_bst] at n3
  have I4 := ownE_ints O4 (by unfold madE; rw [if_neg (by simp [ten_chk])]; exact val_small ten_ok (by decide))
  have n4 := lenI I4
  have a40 := adrI (i := 0) (by omega) I4 (by rw [ten_madl]; omega)
  have a46 := adrI (i := 6) (by omega) I4 (by rw [ten_madl]; omega)
  have a47 := adrI (i := 7) (by omega) I4 (by rw [ten_madl]; omega)
  have d40 := loadI I4 (i := 0) (by rw [ten_madl]; omega)
  have d46 := loadI I4 (i := 6) (by rw [ten_madl]; omega)
  have d47 := loadI I4 (i := 7) (by rw [ten_madl]; omega)
  rw [ten_madl] at n4
  rw [ten_mad0] at d40
  rw [ten_mad6] at d46
  rw [ten_mad7] at d47
  have z69 : Ext B6 A9 := (x7.trans x8).trans x9
  have z59 : Ext B5 A9 := (x6.trans y6).trans z69
  have l9 := x9.len
  obtain ⟨C1, eC1⟩ : ∃ C1, C1 = A9 ++ [rowE encS 69 [(3, 3), (5, 5)] 0] := ⟨_, rfl⟩
  have xc1 : Ext A9 C1 := by rw [eC1]; exact .app .refl
  have bs6 := fun lit => bs2S (lit := lit) (H := A9) (a := (3, 3)) (b := (5, 5))
  rw [← eC1] at bs6
  simp only at bs6
  have q5 := fun base => run_eqS (base := base) ((O5.rows (by simp)).ext (z59.trans xc1)) (Rows.own (E := encS) (e := 69) (id := A9.length) (ver := 0) (n := 2) (l := [(3, 3), (5, 5)]) (by rw [eC1]; exact get_eq rfl) rfl (by simp)) (by simp)
  obtain ⟨C2, eC2⟩ : ∃ C2, C2 = C1 ++ [rowB [0] 0] := ⟨_, rfl⟩
  have xc2 : Ext C1 C2 := by rw [eC2]; exact .app .refl
  have s0 : Small [(0 : Int)] := ⟨by simp, fun y hy => by simp at hy; omega⟩
  have I6 := own_ints (O6.ext ((z69.trans xc1).trans xc2)) s0
  have I6' : Ints C2 (.slice (some ⟨C1.length, 0, 0⟩) 1 1) [0] := ints_rowB (by rw [eC2]; exact get_eq rfl) s0 rfl
  have q6 := fun base => run_eqI (base := base) I6 I6'
  have o3 := O3.one
  have o4 := O4.one
  have o5 := O5.one
  have o6 := O6.one
  have xf : Ext h C2 := (((((((x1.trans x2).trans x3).trans y3).trans z4).trans x5).trans x5').trans y5).trans ((z59.trans xc1).trans xc2)
  refine callL_run func16 rfl rfl ?_
  have hsp := @Nat.succ_ne_zero; repeat' (first | simp (disch := first | exact dschN22 | fail) only [go_sem, ↓reduceIte, hsp, e1, k1, e2, k2, e3, f3, e4, f4, n3, n4, a40, a46, a47, d40, d46, d47, e5, bs5, f5, e6, f6, e7, k7, e8, k8, e9, k9, bs6, ← eC1, q5, ← eC2, q6, decide_true] | refine WP_drw ?_ | refine cnd_intro (fun hsp => ?_) fun hsp => ?_)
  exact fB rfl xf
end Go.AM
/-
  The reference: all cuts from a unit (All); a ribbon as the reference has it (theirs); copies.
-/
namespace Go.AM
open Go.Proofs.Try
theorem dschN26 {p : Prop} (h : p := by first | exact Nat.ne_of_beq_eq_false rfl | assumption | (apply asOne; (first | exact One.int | exact One.bool | assumption | exact Ints.one (by assumption) | exact Rows.one (by assumption) | exact Own.one (by assumption) | exact One.lit ⟨rfl, rfl, rfl⟩)) | (apply asInts; (repeat first | assumption | exact ints_nil | apply Ints.app); done) | (apply asRows; (repeat first | assumption | exact Rows.nil | apply Rows.app); done) | (apply asScal; (first | apply allS1 | apply allS2 | apply allS3 | apply allS4) <;> (first | exact One.int | exact One.bool | assumption | exact Ints.one (by assumption) | exact Rows.one (by assumption) | exact Own.one (by assumption) | exact One.lit ⟨rfl, rfl, rfl⟩)) | exact litT rfl | exact litF rfl | omega | (simp only [List.length_append, List.length_cons, List.length_nil, List.length_set, List.length_reverse]; first | done | omega) | fail) : p := h
attribute [-go_sem] put_ne put_same
attribute [local go_sem ↓] put_if
theorem run_own {base : Nat} {h : Heap} {v : AVal} {R : Rib} (hb : base ≤ h.length) (hA : RibAt h v R) (hf : R.F.length ≤ 1000) (hw : R.W.length ≤ 1000) :
    Ret prog raw base (.fn 17 [] []) [v] h (fun w H => Ext h H ∧ ∃ fw ww, w = .agg [.int .i64 R.L, fw, ww] ∧ OwnE encI 3 h.length H fw R.F ∧ OwnE encW 49 h.length H ww R.W) := by
  obtain ⟨fv, wv, rfl, hF, hW⟩ := hA
  have o1 := hF.one
  have o2 := hW.one
  obtain ⟨G, eG⟩ : ∃ G, G = h ++ [ribB R.L fv wv] ++ [ribB 0 (.slice none 0 0) (.slice none 0 0)] := ⟨_, rfl⟩
  have xG : Ext h G := by rw [eG]; exact .app (.app .refl)
  have lG : G.length = h.length + 2 := by rw [eG]; simp
  have g0 : G[h.length]? = some (ribB R.L fv wv) := by rw [eG]; exact get_app (get_eq rfl)
  have g00 : G[h.length + 1]? = some (ribB 0 (.slice none 0 0) (.slice none 0 0)) := by rw [eG]; exact get_eq (by simp)
  obtain ⟨fw, H1, e1, x1, oF⟩ := run_dupI (base := base) (by omega) (hF.ext xG) hf
  have l1 := x1.len
  obtain ⟨ww, H2, e2, x2, oW⟩ := run_dupW (base := base) (by omega) (hW.ext (xG.trans x1)) hw
  have l2 := x2.len
  have g1 := x1.get g0
  have g2 := x2.get g1
  have g12 := (x1.trans x2).get g00
  have ow1 := oF.one
  have ow2 := oW.one
  have xf : Ext h H2 := (xG.trans x1).trans x2
  unfold ribB at eG g0 g00 g1 g2 g12
  refine ret_raw func17 rfl (by kernel_rfl) ?_
  have hsp := @Nat.succ_ne_zero; repeat' (first | simp (disch := first | exact dschN26 | fail) only [go_sem, ↓reduceIte, hsp, ← eG, g0, e1, g1, e2, g2, g12] | refine WP_drw ?_ | refine cnd_intro (fun hsp => ?_) fun hsp => ?_)
  exact ⟨xf.set (by omega), fw, ww, rfl, ((oF.ext x2).setBox g12).low (by omega), (oW.setBox g12).low (by omega)⟩
end Go.AM
/-
  The reference: a ribbon as the reference has it (theirs); cuts as the reference has them (cuts).
-/
namespace Go.AM
open Go.Proofs.Try
attribute [-go_sem] put_ne put_same
attribute [local go_sem ↓] put_if
end Go.AM
/-
  The reference: all cuts from a unit (All).
-/
namespace Go.AM
open Go.Proofs.Try
attribute [-go_sem] put_ne put_same
attribute [local go_sem ↓] put_if
end Go.AM
/-
  The reference: what a plan earns (Plan).
-/
namespace Go.AM
open Go.Proofs.Try
attribute [-go_sem] put_ne put_same
attribute [local go_sem ↓] put_if
section
variable {h : Heap} {pv : AVal} {P : List Ct} {i : Nat} {c : Ct}
end
end Go.AM
/-
  Marks; the units that are left over, as the reference tells them: run by run.
-/
namespace Go.AM
open Go.Proofs.Try
attribute [-go_sem] put_ne put_same
attribute [local go_sem ↓] put_if
def encO : Enc Bool := ⟨1, fun b => [.bool b], fun _ => rfl, by decide⟩
def mrk (n : Nat) (S : List Int) : List Bool := (List.range n).map fun k : Nat => decide ((k : Int) ∈ S)
abbrev mkB (n : Nat) (S : List Int) : ABlk := rowE encO 4 (mrk n S) 0
/-- How far the reference's list reaches. -/
structure Rch (t : List Int) (n u m : Nat) : Prop where
  le : u ≤ m ∧ m ≤ n
  fr : ∀ y : Nat, u ≤ y → y < m → (y : Int) ∉ t
  pr : u < m → 0 < u ∧ (u : Int) - 1 ∉ t
  ed : m < n → (m : Int) ∈ t ∨ (m = u ∧ (u = 0 ∨ (u : Int) - 1 ∈ t))
end Go.AM
/-
  The reference: the units that no cut takes (Rest).
-/
namespace Go.AM
open Go.Proofs.Try
attribute [-go_sem] put_ne put_same
attribute [local go_sem ↓] put_if
end Go.AM
/-
  Plain: what is earned at most and with how few cuts, forwards, in two rows.
-/
namespace Go.AM
def upS (s : List Int × List Int) (y : Nat) (a c : Int) : List Int × List Int := if thB true (a, c) (s.1.getD y 0, s.2.getD y 0) = true then (s.1.set y a, s.2.set y c) else s
def upC (x : Nat) (t : List Int × List Int) (c : Ct × Int × Int) : List Int × List Int := upS t c.2.1.toNat (t.1.getD x 0 + c.2.2) (t.2.getD x 0 + 1)
def upX (R : Rib) (x : Nat) (s : List Int × List Int) : List Int × List Int := (cutL R x).foldl (upC x) (upS s (x + 1) (s.1.getD x 0) (s.2.getD x 0))
def upN (R : Rib) (f : Nat) : Nat → List Int × List Int
  | 0 => (List.replicate (R.L.toNat + 1) 0, List.replicate (R.L.toNat + 1) 0)
  | n + 1 => upX R (f + n) (upN R f n)
/-- What is known of the rows. -/
structure UpK (n : Nat) (s : List Int × List Int) : Prop where
  l1 : s.1.length = n + 1
  l2 : s.2.length = n + 1
  b1 : ∀ y : Nat, 0 ≤ s.1.getD y 0 ∧ s.1.getD y 0 ≤ 100 * (y : Int)
  b2 : ∀ y : Nat, 0 ≤ s.2.getD y 0 ∧ s.2.getD y 0 ≤ (y : Int)
def keyS (s : List Int × List Int) : Nat → Int := fun i => key true (s.1.getD i 0, s.2.getD i 0)
section
variable {R : Rib} {x : Nat}
end
end Go.AM
/-
  The reference: what is earned at most, and with how few cuts, forwards (Up).
-/
namespace Go.AM
open Go.Proofs.Try
attribute [-go_sem] put_ne put_same
attribute [local go_sem ↓] put_if
end Go.AM
/-
  The reference: what is earned at most (Earned); wide.
-/
namespace Go.AM
open Go.Proofs.Try
attribute [-go_sem] put_ne put_same
attribute [local go_sem ↓] put_if
end Go.AM
/-
  Arguments that came in, slices of structs that hold slices among them: rows of memory whose cells stand for each other.
-/
namespace Go.AM
open Go.Proofs.Try Go.RowKit Go.ChangeShapes Go.WideShapes Go.ChangeAt
open Go.Proofs.Ytikgghhceolaeaa (Rows.uptoSmall Rows.uptoBulkAll Rows.uptoBulk)
set_option maxRecDepth 100000
def Rw.okG (μ : Mu) (w : World) (r : Rw) : Prop := ∃ (C : Array Value) (T : TypeId) (fz : Nat × Nat), w.heap[r.blk]? = some (.cells C T fz) ∧ r.off + r.cs.length ≤ C.size ∧
  ∀ (i : Nat) (x : AVal) (y : Value), r.cs[i]? = some x → C[r.off + i]? = some y → VR μ x y
/-- All rows stand. -/
def RsOk (w : World) (R : List Rw) : Prop := ∀ r ∈ R, r.okG (muR R) w
/-- What came in can be opened behind any rows: cells, and what holds of them. -/
def Opens (W : World) (cs : List Value) (Q : Heap → List AVal → Prop) : Prop := ∀ R, RsOk W R → ∃ S vs, RsOk W (R ++ S) ∧ VRs (muR (R ++ S)) vs cs ∧ Q (heapR (R ++ S)) vs
/-- .. one value. -/
def OpensV (W : World) (V : Value) (Q : Heap → AVal → Prop) : Prop := ∀ R, RsOk W R → ∃ S v, RsOk W (R ++ S) ∧ VR (muR (R ++ S)) v V ∧ Q (heapR (R ++ S)) v
/-! ### Bulk -/
/-! ### Slices -/
end Go.AM
/-
  CutRibbons, walked.
-/
namespace Go.AM
open Go.Proofs.Try
attribute [-go_sem] put_ne put_same
attribute [local go_sem ↓] put_if
/-- A ribbon that came in, its slices no longer than these. -/
def RibN (N : Nat) (H : Heap) (v : AVal) : Prop := ∃ R, RibAt H v R ∧ R.F.length ≤ N ∧ R.W.length ≤ N
def CutV (_ : Heap) (v : AVal) : Prop := ∃ c : Ct, v = .agg [.int .i64 c.w, .int .i64 c.f, .bool c.j]
def IntV (_ : Heap) (v : AVal) : Prop := ∃ n : Int, v = .int .i64 n
end Go.AM
/-
  Arguments that came in: ribbons, cuts, lists of numbers.
-/
namespace Go.AM
open Go.Proofs.Try Go.RowKit Go.ChangeShapes Go.WideShapes Go.ChangeAt
open Go.Proofs.Ytikgghhceolaeaa (Rows.uptoSmall Rows.uptoBulkAll Rows.uptoBulk)
set_option maxRecDepth 100000
def IntsN (N : Nat) (H : Heap) (v : AVal) : Prop := ∃ l, Ints H v l ∧ l.length ≤ N
def CtsN (N : Nat) (H : Heap) (v : AVal) : Prop := ∃ l, Rows encC H v l ∧ l.length ≤ N
section
variable {H : Type} {enc : TypeId × Value → H} {W : World} {n N : Nat}
end
end Go.AM
/-
  CutMost, walked.
-/
namespace Go.AM
open Go.Proofs.Try
attribute [-go_sem] put_ne put_same
attribute [local go_sem ↓] put_if
end Go.AM
/-
  Contracts: arrays that are compared; a ribbon without one want (without).
-/
namespace Go.AM
open Go.Proofs.Try
attribute [-go_sem] put_ne put_same
attribute [local go_sem ↓] put_if
/-! ### Arrays -/
/-! ### Wants -/
section
variable {base id : Nat} {h : Heap} {m : List Wnt}
abbrev wB (m : List Wnt) : ABlk := rowE encW 49 m 0
def wnt0 : Wnt := ⟨0, 0, 0, 0, 0⟩
end
end Go.AM
/-
  Contracts: the wants without which less is earned (Needed).
-/
namespace Go.AM
open Go.Proofs.Try
attribute [-go_sem] put_ne put_same
attribute [local go_sem ↓] put_if
def nedE (R : Rib) : List Int := if chkR R ≠ 0 then [] else nedL R
def nedN (R : Rib) (n : Nat) : List Int := (upto n).filter fun k => decide (valD (witR R k.toNat) 0 < valD R 0)
end Go.AM
/-
  Contracts: whether values hold (holds).
-/
namespace Go.AM
open Go.Proofs.Try
attribute [-go_sem] put_ne put_same
attribute [local go_sem ↓] put_if
/-- No choice earns more than is said. -/
structure Hld (R : Rib) (V : List Int) : Prop where
  up : ∀ x, x < R.L.toNat → V.getD (x + 1) 0 ≤ V.getD x 0
  cut : ∀ x, x < R.L.toNat → ∀ c ∈ cutL R x, c.2.2 + V.getD c.2.1.toNat 0 ≤ V.getD x 0
  fin : 0 ≤ V.getD R.L.toNat 0
abbrev boB (b : Bool) : ABlk := ⟨.cells [.bool b] 4 false false, 0⟩
end Go.AM
/-
  Contracts: values that are given (valued), whether they hold (Holds), what they say (Bound).
-/
namespace Go.AM
open Go.Proofs.Try
attribute [-go_sem] put_ne put_same
attribute [local go_sem ↓] put_if
def padV (l : List Int) : List Int := l ++ List.replicate (61 - l.length) 0
def vldE (R : Rib) (l : List Int) : Int := if chkR R ≠ 0 then chkR R else if (l.length : Int) ≠ R.L + 1 then 2 else if ¬ (l.all fun y => decide (-10000 ≤ y ∧ y ≤ 10000)) = true then 3 else 0
end Go.AM
/-
  Contracts: whether values hold (Holds), what they say (Bound).
-/
namespace Go.AM
open Go.Proofs.Try
attribute [-go_sem] put_ne put_same
attribute [local go_sem ↓] put_if
noncomputable def hldB (R : Rib) (V : List Int) : Bool := @decide (Hld R V) (Classical.propDecidable _)
/-- What is said of values: whether they hold, the error, what they say. -/
noncomputable def hldE (R : Rib) (l : List Int) : Bool := decide (vldE R l = 0) && hldB R l
noncomputable def bndE (R : Rib) (l : List Int) : Int × Int := if vldE R l ≠ 0 then (0, vldE R l) else if hldB R l = true then (l.getD 0 0, 0) else (0, 8)
end Go.AM
/-
  The reference: what is earned from each position on (Made); whether values hold (Values, Holds).
-/
namespace Go.AM
open Go.Proofs.Try
attribute [-go_sem] put_ne put_same
attribute [local go_sem ↓] put_if
end Go.AM
/-
  The reference: whether values hold (Holds).
-/
namespace Go.AM
open Go.Proofs.Try
attribute [-go_sem] put_ne put_same
attribute [local go_sem ↓] put_if
end Go.AM
/-
  Plain: what is earned before a position, in the reference's row.
-/
namespace Go.AM
section
variable {R : Rib} {x : Nat}
end
end Go.AM
/-
  The reference: whether a best plan may use a want (Uses).
-/
namespace Go.AM
open Go.Proofs.Try
attribute [-go_sem] put_ne put_same
attribute [local go_sem ↓] put_if
end Go.AM
/-
  The reference: whether a want is needed (Needs), from which price on it is used (Raise).
-/
namespace Go.AM
open Go.Proofs.Try
attribute [-go_sem] put_ne put_same
attribute [local go_sem ↓] put_if
def lssN (R : Rib) (k i : Nat) : List Wnt := (R.W.take i).eraseIdx k
end Go.AM
/-
  CutWants, walked.
-/
namespace Go.AM
open Go.Proofs.Try
attribute [-go_sem] put_ne put_same
attribute [local go_sem ↓] put_if
def usP (R : Rib) (n : Nat) : List Int := (upto n).filter fun k => decide (k ∈ usN R R.L.toNat)
end Go.AM
/-
  The law's own reckoning of one cut (taken).
-/
namespace Go.AM
open Go.Proofs.Try
attribute [-go_sem] put_ne put_same
attribute [local go_sem ↓] put_if
/-- What the law says of a cut: its end, what it earns, whether it is allowed. -/
def tknW (R : Rib) (w : Wnt) (x : Nat) (j : Bool) : Int × Int × Bool :=
  if j = true then (if okT R w x true = true then ((uniP R w x true).1.getD ((uniP R w x true).1.length - 1) 0 + 1, max 0 (w.pr - w.off * (uniP R w x true).2), decide ((uniP R w x true).2 ≤ w.jn)) else (0, 0, false))
  else ((x : Int) + w.lg, max 0 (w.pr - w.off * cntB (badF R) x w.lg.toNat), decide ((x : Int) + w.lg ≤ R.L) && decide (cntB (badF R) x w.lg.toNat ≤ w.fl))
def tknR (R : Rib) (c : Ct) : Int × Int × Bool := if (0 ≤ c.w ∧ c.w ≤ (R.W.length : Int) - 1) ∧ (0 ≤ c.f ∧ c.f ≤ R.L - 1) then (match R.W[c.w.toNat]? with | none => (0, 0, false) | some w => tknW R w c.f.toNat c.j) else (0, 0, false)
theorem tknW_f {R : Rib} {w : Wnt} {x : Nat} : tknW R w x false = ((x : Int) + w.lg, max 0 (w.pr - w.off * cntB (badF R) x w.lg.toNat), decide ((x : Int) + w.lg ≤ R.L) && decide (cntB (badF R) x w.lg.toNat ≤ w.fl)) := rfl
def gpI (o : List Int) (u : Nat) : Int := if gapB o u = true then 1 else 0
/-- What holds in the joined cut's loop. -/
structure Jn (R : Rib) (w : Wnt) (x u : Nat) (o : List Int) (f : Int) : Prop where
  k : UnK x 0 w.lg u o f
  un : unL (badF R) true w.lg (R.L.toNat - u) u o f = uniP R w x true
  st : o = [] → u = x
  hd : x < u → badF R x = false
  ls : o ≠ [] → if badF R (u - 1) = true then o.getD (o.length - 1) 0 < (u : Int) - 1 else o.getD (o.length - 1) 0 = (u : Int) - 1
  en : (o.length : Int) = w.lg → o.getD (o.length - 1) 0 = (u : Int) - 1
end Go.AM
/-
  The law's own reckoning of a plan (earned).
-/
namespace Go.AM
open Go.Proofs.Try
attribute [-go_sem] put_ne put_same
attribute [local go_sem ↓] put_if
end Go.AM
/-
  (The heap behind a spool that was turned, own rows: G1.)
-/
/-
  Contracts: a ribbon that is made (Made).
-/
namespace Go.AM
open Go.Proofs.Try
theorem dschN53 {p : Prop} (h : p := by first | exact Nat.ne_of_beq_eq_false rfl | assumption | (apply asOne; (first | exact One.int | exact One.bool | assumption | exact Ints.one (by assumption) | exact Rows.one (by assumption) | exact Own.one (by assumption) | exact One.lit ⟨rfl, rfl, rfl⟩)) | (apply asSp; (repeat first | assumption | apply SpAt.set | (refine SpAt.new ?_ (by (first | rfl | (simp only [List.length_append, List.length_cons, List.length_nil, List.length_set]; done) | (simp only [List.length_append, List.length_cons, List.length_nil, List.length_set]; omega)))) | apply SpAt.app | apply Bytes.app); done) | (apply asBytes; (repeat first | assumption | apply Bytes.app); done) | (apply asInts; (repeat first | assumption | exact ints_nil | apply Ints.app); done) | (apply asRows; (repeat first | assumption | exact Rows.nil | apply Rows.app); done) | (apply asScal; (first | apply allS1 | apply allS2 | apply allS3 | apply allS4) <;> (first | exact One.int | exact One.bool | assumption | exact Ints.one (by assumption) | exact Rows.one (by assumption) | exact Own.one (by assumption) | exact One.lit ⟨rfl, rfl, rfl⟩)) | exact litT rfl | exact litF rfl | omega | (simp only [List.length_append, List.length_cons, List.length_nil, List.length_set, List.length_reverse]; first | done | omega) | fail) : p := h
attribute [-go_sem] put_ne put_same
attribute [local go_sem ↓] put_if
theorem bsWW1 {lit : Bool} {H : Heap} {w : Wnt} : bsA prog lit H 23 1 [(0, .agg [.int .i64 w.lg, .int .i64 w.pr, .int .i64 w.off, .int .i64 w.fl, .int .i64 w.jn])] = some (.slice (some ⟨H.length, 0, 0⟩) 1 1, H ++ [rowE encW 49 [w] 0]) := by
  simp [bsA, rowOf, Fc.el23, fillA, repCells, AVal.isN, AVal.cells, splice, rowE, flat, encW]
theorem snocWW {b base : Nat} {A : Heap} {w : AVal} {l : List Wnt} {r : Wnt} (hO : Own encW 49 b A w l) (hb : base ≤ b) (hbh : b ≤ A.length) (hl : l.length ≤ 1000000) :
    ∃ w' H, appendA prog base (A ++ [rowE encW 49 [r] 0]) 23 w (.slice (some ⟨A.length, 0, 0⟩) 1 1) = some (w', H) ∧ Own encW 49 b H w' (l ++ [r]) ∧ A.length ≤ H.length ∧ (∀ G, G.length ≤ b → Ext G A → Ext G H) ∧ One w' ∧ KeepO encW 49 A H := by
  obtain ⟨B, eB⟩ : ∃ B, B = A ++ [rowE encW 49 [r] 0] := ⟨_, rfl⟩
  have xB : Ext A B := by rw [eB]; exact .app .refl
  have lB' : B.length = A.length + 1 := by rw [eB]; simp
  have hx : Rows encW B (.slice (some ⟨A.length, 0, 0⟩) 1 1) [r] := Rows.own (by rw [eB]; exact get_eq rfl) rfl (by simp)
  rw [← eB]
  obtain ⟨w', H, a1, a2, a3, a4, a5, a6⟩ := (hO.ext xB).appendRX (P := prog) (base := base) (t := 23) hx Fc.el23 encW_sc hb (by omega) (by simp) (by simp; omega)
  have a6 : KeepO encW 49 B H := a6
  exact ⟨w', H, a1, a2, by omega, fun G h1 h2 => a4 G h1 (h2.trans xB), a5, fun i y hi hy => a6 i y (xB.get hi) hy⟩
theorem stN53 {base : Nat} {l : List Oper} {s : St} {Q : AExit → St → Prop} : WP prog raw base (.region 11 l.toArray true) s Q = WPS prog raw base (.region 11 l.toArray true) s Q := WP_stop
attribute [local go_sem ↓ 3000] stN53
set_option maxRecDepth 100000 in
set_option maxHeartbeats 4000000 in
theorem run_LMadeD {base id k0 : Nat} {h : Heap} {v : AVal} {silk : List Int} {A B D : Int} (hb : base ≤ h.length) (hS : SpAt h id v silk k0) (hk : k0 ≤ 100000) (hA : 1 ≤ A ∧ A ≤ 60) (hB : 0 ≤ B ∧ B ≤ 12) (hD : 0 ≤ D ∧ D ≤ 6) :
    Ret prog raw base (.fn 26 [] []) [.ptr (some ⟨id, 0, 0⟩), .int .i64 A, .int .i64 B, .int .i64 D] h (fun w H => ∃ L F W fv wv k', w = .agg [.int .i64 L, fv, wv] ∧ (k0 ≤ k' ∧ k' ≤ k0 + 100) ∧ SpE h id v silk k' H ∧ Own encI 3 h.length H fv F ∧ Own encW 49 h.length H wv W ∧ RibOk ⟨L, F, W⟩ ∧ L ≤ A ∧ (F.length : Int) ≤ B ∧ (W.length : Int) ≤ D) := by
  have hid := lt_of_get hS.1
  have hS0 : SpAt (h ++ [ribB 0 (.slice none 0 0) (.slice none 0 0)]) id v silk k0 := hS.app
  have b1 := up_bd (silk := silk) (k := k0) (n := A - 1) (by omega)
  have b2 := up_bd (silk := silk) (k := k0 + 1) (n := B) (by omega)
  obtain ⟨G, eG⟩ : ∃ G, G = h ++ [ribB 0 (.slice none 0 0) (.slice none 0 0)] := ⟨_, rfl⟩
  rw [← eG] at hS0
  have lG : G.length = h.length + 1 := by rw [eG]; simp
  have xG : Ext h G := by rw [eG]; exact .app .refl
  have g0 : G[h.length]? = some (ribB 0 (.slice none 0 0) (.slice none 0 0)) := by rw [eG]; exact get_eq rfl
  have f1 := fun base => run_from (base := base) (lo := 1) (hi := A) hS0 (by omega) (by omega) (by omega)
  obtain ⟨L, eL⟩ : ∃ L, L = 1 + up silk k0 (A - 1) := ⟨_, rfl⟩
  have hL : 1 ≤ L ∧ L ≤ A := by omega
  rw [← eL] at f1
  obtain ⟨G1, eG1⟩ : ∃ G1, G1 = G.set id (spB v silk (k0 + 1)) := ⟨_, rfl⟩
  rw [← eG1] at f1
  have q1 : SpE h id v silk (k0 + 1) G1 := by rw [eG1]; exact ((SpE.refl hS).ext xG).step hid
  have l1 : G1.length = h.length + 1 := by rw [eG1, List.length_set, lG]
  have g1 : G1[h.length]? = some (ribB 0 (.slice none 0 0) (.slice none 0 0)) := by rw [eG1, List.getElem?_set_ne (by omega)]; exact g0
  obtain ⟨G2, eG2⟩ : ∃ G2, G2 = G1 ++ [ribB L (.slice none 0 0) (.slice none 0 0)] := ⟨_, rfl⟩
  have q2 : SpE h id v silk (k0 + 1) G2 := by rw [eG2]; exact q1.app
  have l2 : G2.length = h.length + 2 := by rw [eG2]; simp [l1]
  have g2 : G2[h.length]? = some (ribB 0 (.slice none 0 0) (.slice none 0 0)) := by rw [eG2]; exact get_app g1
  have c2 : G2[h.length + 1]? = some (ribB L (.slice none 0 0) (.slice none 0 0)) := by rw [eG2]; exact get_eq (by rw [l1])
  have f2 := fun base => run_upto (base := base) (n := B) (q2.at hS) (by omega) (by omega)
  obtain ⟨m, em⟩ : ∃ m, m = up silk (k0 + 1) B := ⟨_, rfl⟩
  rw [← em] at b2 f2
  obtain ⟨G3, eG3⟩ : ∃ G3, G3 = G2.set id (spB v silk (k0 + 1 + 1)) := ⟨_, rfl⟩
  rw [← eG3] at f2
  have q3 : SpE h id v silk (k0 + 1 + 1) G3 := by rw [eG3]; exact q2.step hid
  have l3 : G3.length = h.length + 2 := by rw [eG3, List.length_set, l2]
  have g3 : G3[h.length]? = some (ribB 0 (.slice none 0 0) (.slice none 0 0)) := by rw [eG3, List.getElem?_set_ne (by omega)]; exact g2
  have c3 : G3[h.length + 1]? = some (ribB L (.slice none 0 0) (.slice none 0 0)) := by rw [eG3, List.getElem?_set_ne (by omega)]; exact c2
  have hq : 0 ≤ L.tdiv (max 1 m) ∧ L.tdiv (max 1 m) ≤ 60 := by
    rw [Int.tdiv_eq_ediv_of_nonneg (by omega)]
    have h1 : 0 < max 1 m := by omega
    refine ⟨Int.ediv_nonneg (by omega) (by omega), ?_⟩
    exact Int.le_trans (Int.ediv_le_self _ (by omega)) (by omega)
  have hm0 : max 1 m ≠ 0 := by omega
  have hm1 : (max 1 m = 0) = False := eq_false hm0
  obtain ⟨X, eX⟩ : ∃ X, X = max 2 (L.tdiv (max 1 m)) := ⟨_, rfl⟩
  have hX : 2 ≤ X ∧ X ≤ 60 := by omega
  clear eL b1
  rw [show h.length + 1 = G1.length from l1.symm] at c2 c3
  unfold ribB at eG eG2
  have c3' := c3
  unfold ribB at c3'
  refine ret_raw func26 rfl (by kernel_rfl) ?_
  have hsp := @Nat.succ_ne_zero; repeat' (first | simp (disch := first | exact dschN53 | fail) only [go_sem, ↓reduceIte, hsp, ← eG, f1, ← eG2, f2, c3'] | refine WP_drw ?_ | refine cnd_intro (fun hsp => ?_) fun hsp => ?_)
  obtain ⟨n, en⟩ := Int.eq_ofNat_of_zero_le (show 0 ≤ L by omega)
  refine WP_count [(11, 11), (21, 45)] 0 n (Nat.zero_le _) (fun _ i fr K => fr 21 = .int .i64 (i : Int) ∧ ∃ F fv k', (k0 ≤ k' ∧ k' ≤ k0 + 2 + i) ∧ SpE h id v silk k' K ∧ K[h.length]? = some (ribB 0 (.slice none 0 0) (.slice none 0 0)) ∧ K[G1.length]? = some (ribB L fv (.slice none 0 0)) ∧ Own encI 3 (h.length + 2) K fv F ∧ (F.length : Int) ≤ m ∧ (∀ y ∈ F, 0 ≤ y ∧ y < (i : Int)) ∧ F.Pairwise (· < ·) ∧ h.length + 2 ≤ K.length) ?_ ?_ ?_
  · exact ⟨by (simp (disch := first | exact dschN53 | fail) only [go_sem, ↓reduceIte, Int.natCast_zero]; first | done | rfl), [], _, k0 + 1 + 1, by omega, q3, g3, c3, Own.nil, by simp; omega, by simp, by simp, by omega⟩
  · rintro i fr K hi0 hi hAg ⟨r21, F, fv, k', hk', xK, gK, cK, oF, hFl, hFb, hFs, lK⟩
    have q0 := hAg 0 rfl
    have q3 := hAg 3 rfl
    have q8 := hAg 8 rfl
    have q9 := hAg 9 rfl
    have q10 := hAg 10 rfl
    have q20 := hAg 20 rfl
    try simp (disch := first | exact dschN53 | fail) only [go_sem, ↓reduceIte] at q0 q3 q8 q9 q10 q20
    have hlt : ((i : Int) < L) = True := eq_true (by omega)
    have of1 := oF.one
    have hSK := xK.at hS
    have iF : Ints K fv F := own_ints oF ⟨by omega, fun y hy => by have := hFb y hy; omega⟩
    have hn := lenI iF
    have cK' := cK
    unfold ribB at cK'
    by_cases c1 : (F.length : Int) < m
    · have t1 : ((F.length : Int) < m) = True := eq_true c1
      have e1 := fun base => run_once (base := base) (n := X) hSK (by omega) (by omega)
      rw [eX] at e1
      obtain ⟨K1, eK1⟩ : ∃ K1, K1 = K.set id (spB v silk (k' + 1)) := ⟨_, rfl⟩
      rw [← eK1] at e1
      have xK1 : SpE h id v silk (k' + 1) K1 := by rw [eK1]; exact xK.step hid
      have gK1 : K1[h.length]? = some (ribB 0 (.slice none 0 0) (.slice none 0 0)) := by rw [eK1, List.getElem?_set_ne (by omega)]; exact gK
      have cK1 : K1[G1.length]? = some (ribB L fv (.slice none 0 0)) := by rw [eK1, List.getElem?_set_ne (by omega)]; exact cK
      have oF1 : Own encI 3 (h.length + 2) K1 fv F := by rw [eK1]; exact oF.set (by omega)
      have lK1 : K1.length = K.length := by rw [eK1, List.length_set]
      have cK1' := cK1
      unfold ribB at cK1'
      rcases Bool.eq_false_or_eq_true (decide (up silk k' (max 2 (L.tdiv (max 1 m)) - 1) = 0)) with qb | qb
      · rw [qb] at e1
        obtain ⟨w', K3, ea, oW, lW, eW2, oneW, kW⟩ := oF1.append1X (P := prog) (y := (i : Int)) (a := .int .i64 (i : Int)) (base := base) (t := 22) rfl rfl Fc.el22 encI_sc (by omega) (by omega) (by omega)
        have kW : KeepO encI 3 K1 K3 := kW
        have cK3 := kW.box cK1'
        have gK3 := kW.box gK1
        have xK3 : SpE h id v silk (k' + 1) K3 := eW2 _ (by rw [List.length_set]; omega) xK1
        have hsp := @Nat.succ_ne_zero; repeat' (first | simp (disch := first | exact dschN53 | fail) only [go_sem, ↓reduceIte, hsp, r21, q0, q3, q8, q9, q10, q20, hlt, cK', hn, t1, hm1, hm0, e1, cK1', ea, cK3] | refine WP_drw ?_ | refine cnd_intro (fun hsp => ?_) fun hsp => ?_)
        refine ⟨by (repeat first | exact Agree.refl | assumption | refine Agree.put rfl ?_ | refine Agree.put0 ?_ | refine Agree.sub rfl (by assumption) ?_), by omega, F ++ [(i : Int)], w', k' + 1, by omega, Ext.set xK3 (by rw [List.length_set]; omega), gK3, rfl, Own.setBox oW cK3, by simp; omega, fun y hy => ?_, ?_, by omega⟩
        · rcases List.mem_append.1 hy with hy | hy
          · have := hFb y hy; omega
          · rw [List.mem_singleton] at hy; omega
        · refine List.pairwise_append.2 ⟨hFs, by simp, fun a ha b hb => ?_⟩
          have := hFb a ha
          rw [List.mem_singleton] at hb; omega
      · rw [qb] at e1
        have hsp := @Nat.succ_ne_zero; repeat' (first | simp (disch := first | exact dschN53 | fail) only [go_sem, ↓reduceIte, hsp, r21, q0, q3, q8, q9, q10, q20, hlt, cK', hn, t1, hm1, hm0, e1] | refine WP_drw ?_ | refine cnd_intro (fun hsp => ?_) fun hsp => ?_)
        exact ⟨by (repeat first | exact Agree.refl | assumption | refine Agree.put rfl ?_ | refine Agree.put0 ?_ | refine Agree.sub rfl (by assumption) ?_), by omega, F, fv, k' + 1, by omega, xK1, gK1, cK1, oF1, hFl, fun y hy => by have := hFb y hy; omega, hFs, by omega⟩
    · have t1 : ((F.length : Int) < m) = False := eq_false c1
      have hsp := @Nat.succ_ne_zero; repeat' (first | simp (disch := first | exact dschN53 | fail) only [go_sem, ↓reduceIte, hsp, r21, q0, q3, q8, q9, q10, q20, hlt, cK', hn, t1] | refine WP_drw ?_ | refine cnd_intro (fun hsp => ?_) fun hsp => ?_)
      exact ⟨by (repeat first | exact Agree.refl | assumption | refine Agree.put rfl ?_ | refine Agree.put0 ?_ | refine Agree.sub rfl (by assumption) ?_), by omega, F, fv, k', by omega, xK, gK, rfl, oF, hFl, fun y hy => by have := hFb y hy; omega, hFs, lK⟩
  · rintro fr K hAg ⟨r21, F, fv, k', hk', xK, gK, cK, oF, hFl, hFb, hFs, lK⟩
    have q0 := hAg 0 rfl
    have q3 := hAg 3 rfl
    have q8 := hAg 8 rfl
    have q9 := hAg 9 rfl
    have q10 := hAg 10 rfl
    have q20 := hAg 20 rfl
    try simp (disch := first | exact dschN53 | fail) only [go_sem, ↓reduceIte] at q0 q3 q8 q9 q10 q20
    have hlt : ((n : Int) < L) = False := eq_false (by omega)
    have of1 := oF.one
    have hSK := xK.at hS
    have ubz := up_bd (silk := silk) (k := k') (n := D) (by omega)
    have ez := fun base => run_upto (base := base) (n := D) hSK (by omega) (by omega)
    obtain ⟨z, ezz⟩ := Int.eq_ofNat_of_zero_le ubz.1
    rw [ezz] at ez ubz
    obtain ⟨K0, eK0⟩ : ∃ K0, K0 = K.set id (spB v silk (k' + 1)) := ⟨_, rfl⟩
    rw [← eK0] at ez
    have xK0 : SpE h id v silk (k' + 1) K0 := by rw [eK0]; exact xK.step hid
    have gK0 : K0[h.length]? = some (ribB 0 (.slice none 0 0) (.slice none 0 0)) := by rw [eK0, List.getElem?_set_ne (by omega)]; exact gK
    have cK0 : K0[G1.length]? = some (ribB L fv (.slice none 0 0)) := by rw [eK0, List.getElem?_set_ne (by omega)]; exact cK
    have oF0 : Own encI 3 (h.length + 2) K0 fv F := by rw [eK0]; exact oF.set (by omega)
    have lK0 : K0.length = K.length := by rw [eK0, List.length_set]
    have hsp := @Nat.succ_ne_zero; repeat' (first | simp (disch := first | exact dschN53 | fail) only [go_sem, ↓reduceIte, hsp, r21, q0, q3, q8, q9, q10, q20, hlt, ez] | refine WP_drw ?_ | refine cnd_intro (fun hsp => ?_) fun hsp => ?_)
    refine WP_count [(49, 67)] 0 z (Nat.zero_le _) (fun _ j fr K' => fr 49 = .int .i64 (j : Int) ∧ ∃ W wv k2, (k0 ≤ k2 ∧ k2 ≤ k' + 1 + 5 * j) ∧ SpE h id v silk k2 K' ∧ K'[h.length]? = some (ribB 0 (.slice none 0 0) (.slice none 0 0)) ∧ K'[G1.length]? = some (ribB L fv wv) ∧ Own encI 3 (h.length + 2) K' fv F ∧ Own encW 49 (h.length + 2) K' wv W ∧ W.length ≤ j ∧ (∀ w ∈ W, WntOk w) ∧ h.length + 2 ≤ K'.length) ?_ ?_ ?_
    · exact ⟨by (simp (disch := first | exact dschN53 | fail) only [go_sem, ↓reduceIte, Int.natCast_zero]; first | done | rfl), [], .slice none 0 0, k' + 1, by omega, xK0, gK0, cK0, oF0, Own.nil, by simp, by simp, by omega⟩
    · rintro j fr2 K' hj0 hj hA2 ⟨r49, W, wv, k2, hk2, xK2, gK2, cK2, oF2, oW2, hWl, hWo, lK2⟩
      have d0 := hA2 0 rfl
      have d8 := hA2 8 rfl
      have d9 := hA2 9 rfl
      have d48 := hA2 48 rfl
      try simp (disch := first | exact dschN53 | fail) only [go_sem, ↓reduceIte, q0, q8, q9] at d0 d8 d9 d48
      have hlt2 : ((j : Int) < (z : Int)) = True := eq_true (by omega)
      have owv := oW2.one
      have ub1 := up_bd (silk := silk) (k := k2) (n := (9 - 1)) (by omega)
      have e1 := fun base => run_from (base := base) (lo := 1) (hi := 9) (xK2.at hS) (by omega) (by omega) (by omega)
      obtain ⟨w1, ew1⟩ : ∃ w1, w1 = 1 + up silk k2 (9 - 1) := ⟨_, rfl⟩
      rw [← ew1] at e1
      obtain ⟨M1, eM1⟩ : ∃ M1, M1 = K'.set id (spB v silk (k2 + 1)) := ⟨_, rfl⟩
      rw [← eM1] at e1
      have xM1 : SpE h id v silk (k2 + 1) M1 := by rw [eM1]; exact xK2.step hid
      have gM1 : M1[h.length]? = some (ribB 0 (.slice none 0 0) (.slice none 0 0)) := by rw [eM1, List.getElem?_set_ne (by omega)]; exact gK2
      have cM1 : M1[G1.length]? = some (ribB L fv wv) := by rw [eM1, List.getElem?_set_ne (by omega)]; exact cK2
      have fM1 : Own encI 3 (h.length + 2) M1 fv F := by rw [eM1]; exact oF2.set (by omega)
      have wM1 : Own encW 49 (h.length + 2) M1 wv W := by rw [eM1]; exact oW2.set (by omega)
      have lM1 : M1.length = K'.length := by rw [eM1, List.length_set]
      have ub2 := up_bd (silk := silk) (k := (k2 + 1)) (n := 40) (by omega)
      have e2 := fun base => run_upto (base := base) (n := 40) (xM1.at hS) (by omega) (by omega)
      obtain ⟨w2, ew2⟩ : ∃ w2, w2 = up silk ((k2 + 1)) 40 := ⟨_, rfl⟩
      rw [← ew2] at e2
      obtain ⟨M2, eM2⟩ : ∃ M2, M2 = M1.set id (spB v silk ((k2 + 1) + 1)) := ⟨_, rfl⟩
      rw [← eM2] at e2
      have xM2 : SpE h id v silk ((k2 + 1) + 1) M2 := by rw [eM2]; exact xM1.step hid
      have gM2 : M2[h.length]? = some (ribB 0 (.slice none 0 0) (.slice none 0 0)) := by rw [eM2, List.getElem?_set_ne (by omega)]; exact gM1
      have cM2 : M2[G1.length]? = some (ribB L fv wv) := by rw [eM2, List.getElem?_set_ne (by omega)]; exact cM1
      have fM2 : Own encI 3 (h.length + 2) M2 fv F := by rw [eM2]; exact fM1.set (by omega)
      have wM2 : Own encW 49 (h.length + 2) M2 wv W := by rw [eM2]; exact wM1.set (by omega)
      have lM2 : M2.length = M1.length := by rw [eM2, List.length_set]
      have ub3 := up_bd (silk := silk) (k := ((k2 + 1) + 1)) (n := 8) (by omega)
      have e3 := fun base => run_upto (base := base) (n := 8) (xM2.at hS) (by omega) (by omega)
      obtain ⟨w3, ew3⟩ : ∃ w3, w3 = up silk (((k2 + 1) + 1)) 8 := ⟨_, rfl⟩
      rw [← ew3] at e3
      obtain ⟨M3, eM3⟩ : ∃ M3, M3 = M2.set id (spB v silk (((k2 + 1) + 1) + 1)) := ⟨_, rfl⟩
      rw [← eM3] at e3
      have xM3 : SpE h id v silk (((k2 + 1) + 1) + 1) M3 := by rw [eM3]; exact xM2.step hid
      have gM3 : M3[h.length]? = some (ribB 0 (.slice none 0 0) (.slice none 0 0)) := by rw [eM3, List.getElem?_set_ne (by omega)]; exact gM2
      have cM3 : M3[G1.length]? = some (ribB L fv wv) := by rw [eM3, List.getElem?_set_ne (by omega)]; exact cM2
      have fM3 : Own encI 3 (h.length + 2) M3 fv F := by rw [eM3]; exact fM2.set (by omega)
      have wM3 : Own encW 49 (h.length + 2) M3 wv W := by rw [eM3]; exact wM2.set (by omega)
      have lM3 : M3.length = M2.length := by rw [eM3, List.length_set]
      have ub4 := up_bd (silk := silk) (k := (((k2 + 1) + 1) + 1)) (n := 2) (by omega)
      have e4 := fun base => run_upto (base := base) (n := 2) (xM3.at hS) (by omega) (by omega)
      obtain ⟨w4, ew4⟩ : ∃ w4, w4 = up silk ((((k2 + 1) + 1) + 1)) 2 := ⟨_, rfl⟩
      rw [← ew4] at e4
      obtain ⟨M4, eM4⟩ : ∃ M4, M4 = M3.set id (spB v silk ((((k2 + 1) + 1) + 1) + 1)) := ⟨_, rfl⟩
      rw [← eM4] at e4
      have xM4 : SpE h id v silk ((((k2 + 1) + 1) + 1) + 1) M4 := by rw [eM4]; exact xM3.step hid
      have gM4 : M4[h.length]? = some (ribB 0 (.slice none 0 0) (.slice none 0 0)) := by rw [eM4, List.getElem?_set_ne (by omega)]; exact gM3
      have cM4 : M4[G1.length]? = some (ribB L fv wv) := by rw [eM4, List.getElem?_set_ne (by omega)]; exact cM3
      have fM4 : Own encI 3 (h.length + 2) M4 fv F := by rw [eM4]; exact fM3.set (by omega)
      have wM4 : Own encW 49 (h.length + 2) M4 wv W := by rw [eM4]; exact wM3.set (by omega)
      have lM4 : M4.length = M3.length := by rw [eM4, List.length_set]
      have ub5 := up_bd (silk := silk) (k := ((((k2 + 1) + 1) + 1) + 1)) (n := 2) (by omega)
      have e5 := fun base => run_upto (base := base) (n := 2) (xM4.at hS) (by omega) (by omega)
      obtain ⟨w5, ew5⟩ : ∃ w5, w5 = up silk (((((k2 + 1) + 1) + 1) + 1)) 2 := ⟨_, rfl⟩
      rw [← ew5] at e5
      obtain ⟨M5, eM5⟩ : ∃ M5, M5 = M4.set id (spB v silk (((((k2 + 1) + 1) + 1) + 1) + 1)) := ⟨_, rfl⟩
      rw [← eM5] at e5
      have xM5 : SpE h id v silk (((((k2 + 1) + 1) + 1) + 1) + 1) M5 := by rw [eM5]; exact xM4.step hid
      have gM5 : M5[h.length]? = some (ribB 0 (.slice none 0 0) (.slice none 0 0)) := by rw [eM5, List.getElem?_set_ne (by omega)]; exact gM4
      have cM5 : M5[G1.length]? = some (ribB L fv wv) := by rw [eM5, List.getElem?_set_ne (by omega)]; exact cM4
      have fM5 : Own encI 3 (h.length + 2) M5 fv F := by rw [eM5]; exact fM4.set (by omega)
      have wM5 : Own encW 49 (h.length + 2) M5 wv W := by rw [eM5]; exact wM4.set (by omega)
      have lM5 : M5.length = M4.length := by rw [eM5, List.length_set]
      obtain ⟨wr, ewr⟩ : ∃ wr : Wnt, wr = ⟨w1, w2, w3, w4, w5⟩ := ⟨_, rfl⟩
      have hwr : WntOk wr := by rw [ewr]; exact ⟨by simp only; omega, by simp only; omega, by simp only; omega, by simp only; omega, by simp only; omega⟩
      have bsw : ∀ {lit : Bool}, bsA prog lit M5 23 1 [(0, .agg [.int .i64 w1, .int .i64 w2, .int .i64 w3, .int .i64 w4, .int .i64 w5])] = some (.slice (some ⟨M5.length, 0, 0⟩) 1 1, M5 ++ [rowE encW 49 [wr] 0]) := fun {lit} => by
        rw [ewr]; exact bsWW1 (w := ⟨w1, w2, w3, w4, w5⟩)
      obtain ⟨w', M6, ea, oW6, lW6, eW6, oneW, kW⟩ := snocWW (base := base) (r := wr) wM5 (by omega) (by omega) (by omega)
      have c6 := kW.box cM5
      have g6 := kW.box gM5
      have f6 := kW.own fM5 (by decide)
      have x6 : SpE h id v silk ((((((k2 + 1) + 1) + 1) + 1) + 1)) M6 := eW6 _ (by rw [List.length_set]; omega) xM5
      have cK2' := cK2
      have c6' := c6
      unfold ribB at cK2' c6'
      have hlow : refsLow K'.length wv := oW2.low_refs
      have hsp := @Nat.succ_ne_zero; repeat' (first | simp (disch := first | exact dschN53 | fail) only [go_sem, ↓reduceIte, hsp, r49, d0, d8, d9, d48, q0, q3, q8, q9, q10, q20, hlt2] | refine WP_drw ?_ | refine cnd_intro (fun hsp => ?_) fun hsp => ?_)
      refine WPS_go ?_
      refine WP_wild [⟨1, 23, 51, ⟨G1.length, 0, 2⟩, wv, 14⟩] (by kernel_rfl) (by kernel_rfl) (by kernel_rfl) ⟨hlow, trivial⟩ fun KK hK => ?_
      iterate 17
        rw [TRS_cons]
        refine ⟨by first | (simp (disch := first | exact dschN53 | fail) only [go_sem, ↓reduceIte, r49, d0, d8, d9, d48, q0, q3, q8, q9, q10, q20, cK2', e1, cM1, e2, cM2, e3, cM3, e4, cM4, e5, cM5, bsw, ea, c6', ldsQ_cons, ldsQ_nil, grdQ_cons, grdQ_nil, if_true, Nat.reduceLeDiff]; done) | exact trivial, ?_⟩
        simp (disch := first | exact dschN53 | fail) only [go_sem, ↓reduceIte, r49, d0, d8, d9, d48, q0, q3, q8, q9, q10, q20, cK2', e1, cM1, e2, cM2, e3, cM3, e4, cM4, e5, cM5, bsw, ea, c6']
      rw [TRS_nil]
      refine ⟨by first | (simp (disch := first | exact dschN53 | fail) only [go_sem, ↓reduceIte, r49, d0, d8, d9, d48, q0, q3, q8, q9, q10, q20, cK2', e1, cM1, e2, cM2, e3, cM3, e4, cM4, e5, cM5, bsw, ea, c6', ldsQ_cons, ldsQ_nil, grdQ_cons, grdQ_nil, if_true, Nat.reduceLeDiff]; done) | exact trivial, ?_⟩
      subst hK
      have hsp := @Nat.succ_ne_zero; repeat' (first | simp (disch := first | exact dschN53 | fail) only [go_sem, ↓reduceIte, hsp, r49, d0, d8, d9, d48, q0, q3, q8, q9, q10, q20] | refine WP_drw ?_ | refine cnd_intro (fun hsp => ?_) fun hsp => ?_)
      refine ⟨by (repeat first | exact Agree.refl | assumption | refine Agree.put rfl ?_ | refine Agree.put0 ?_ | refine Agree.sub rfl (by assumption) ?_), by omega, W ++ [wr], w', _, ?_, Ext.set x6 (by rw [List.length_set]; omega), g6, rfl, Own.setBox f6 c6, Own.setBox oW6 c6, by simp; omega, fun w hw => ?_, by omega⟩
      · omega
      · rcases List.mem_append.1 hw with hw | hw
        · exact hWo w hw
        · rw [List.mem_singleton] at hw; rw [hw]; exact hwr
    · rintro fr2 K' hA2 ⟨r49, W, wv, k2, hk2, xK2, gK2, cK2, oF2, oW2, hWl, hWo, lK2⟩
      have d0 := hA2 0 rfl
      have d8 := hA2 8 rfl
      have d9 := hA2 9 rfl
      have d48 := hA2 48 rfl
      try simp (disch := first | exact dschN53 | fail) only [go_sem, ↓reduceIte, q0, q8, q9] at d0 d8 d9 d48
      have hlt2 : ((z : Int) < (z : Int)) = False := eq_false (by omega)
      have owv := oW2.one
      have gK2' := gK2
      have cK2' := cK2
      unfold ribB at gK2' cK2'
      have hsp := @Nat.succ_ne_zero; repeat' (first | simp (disch := first | exact dschN53 | fail) only [go_sem, ↓reduceIte, hsp, r49, d0, d8, d9, d48, q0, q3, q8, q9, q10, q20, hlt2, cK2', gK2'] | refine WP_drw ?_ | refine cnd_intro (fun hsp => ?_) fun hsp => ?_)
      refine ⟨L, F, W, fv, wv, k2, rfl, by omega, Ext.set xK2 (by rw [List.length_set]; omega), (oF2.setBox gK2').low (by omega), (oW2.setBox gK2').low (by omega), ⟨by simp only; omega, by simp only; omega, by simp only; omega, hWo, fun y hy => by have := hFb y hy; simp only; omega, hFs⟩, hL.2, by omega, by omega⟩
end Go.AM
/-
  The law's own word on values (holds).
-/
namespace Go.AM
open Go.Proofs.Try
attribute [-go_sem] put_ne put_same
attribute [local go_sem ↓] put_if
end Go.AM
/-
  A plan that is tried (tried).
-/
namespace Go.AM
open Go.Proofs.Try
attribute [-go_sem] put_ne put_same
attribute [local go_sem ↓] put_if
end Go.AM
/-
  CutEarned, walked.
-/
namespace Go.AM
open Go.Proofs.Try
attribute [-go_sem] put_ne put_same
attribute [local go_sem ↓] put_if
end Go.AM
/-
  Plain: values that hold are no less; the ribbon from a unit on.
-/
namespace Go.AM
section
variable {bad bad' : Nat → Bool} {j : Bool} {lg : Int} {u : Nat}
end
/-- The ribbon from a unit on. -/
def tlR (R : Rib) (u : Nat) : Rib := ⟨R.L - u, (R.F.filter fun y => decide ((u : Int) ≤ y)).map (· - (u : Int)), R.W⟩
section
variable {R : Rib} {u x : Nat}
end
end Go.AM
/-
  Plain: more wants, better wants and longer ribbons earn no less.
-/
namespace Go.AM
structure WntLe (w w' : Wnt) : Prop where
  lg : w'.lg = w.lg
  pr : w.pr ≤ w'.pr
  off : w'.off ≤ w.off
  fl : w.fl ≤ w'.fl
  jn : w.jn ≤ w'.jn
end Go.AM
/-
  CutMore, walked.
-/
namespace Go.AM
open Go.Proofs.Try
attribute [-go_sem] put_ne put_same
attribute [local go_sem ↓] put_if
theorem cvtN {x : Int} (hx : 0 ≤ x ∧ x ≤ 255) : convA prog 3 5 (.int .u8 x) = some (.int .i64 x) := by
  have h : convA prog 3 5 (.int .u8 x) = some (.int .i64 (IntKind.i64.wrap x)) := by kernel_rfl
  rw [h, wrap64 (by omega) (by omega)]
/-! ### Ribbons side by side -/
def RX : Type := Int × {v : AVal // v.scalar = true} × {v : AVal // v.scalar = true}
def encX : Enc RX := ⟨3, fun x => [.int .i64 x.1, x.2.1.1, x.2.2.1], fun _ => rfl, by decide⟩
def GoodX (b : Nat) (n : Int) (H : Heap) (x : RX) : Prop := ∃ R : Rib, x.1 = R.L ∧ OwnE encI 3 b H x.2.1.1 R.F ∧ OwnE encW 49 b H x.2.2.1 R.W ∧ RibOk R ∧ n ≤ valD R 0
section
variable {b : Nat} {n : Int} {H H' : Heap} {x : RX}
theorem rib_own {R : Rib} (hR : RibOk R) {fv wv : AVal} (a2 : OwnE encI 3 b H fv R.F) (a3 : OwnE encW 49 b H wv R.W) : RibAt H (.agg [.int .i64 R.L, fv, wv]) R := by
  have hrF := hR.F
  have hnF := hR.nF
  have hnW := hR.nW
  have hL := hR.L
  exact ⟨fv, wv, rfl, ownE_ints a2 ⟨by omega, fun y hy => by have := hrF y hy; omega⟩, a3.rows (by omega)⟩
end
end Go.AM
/-
  The library's own text of slices.Insert at []int does so.
-/
namespace Go.AM
open Go.Shelf Go.Lib Go.Proofs
section
variable {w : World} {b : Nat} {T : TypeId} {fz : Nat × Nat}
theorem setCell_heap {C : Array Value} (hb : w.heap[b]? = some (.cells C T fz)) (o : Nat) (v : Value) :
    (w.setCell ⟨b, o, none⟩ v).heap[b]? = some (.cells (C.setIfInBounds o v) T fz) ∧ (∀ k, k ≠ b → (w.setCell ⟨b, o, none⟩ v).heap[k]? = w.heap[k]?) := by
  unfold World.setCell
  constructor
  · simp only [Array.getElem?_modify, if_true, hb, Option.map_some]; simp
  · intro k hk
    simp only [Array.getElem?_modify]
    rw [if_neg (fun e => hk e.symm)]
theorem setCells_heap : ∀ (vs : List Value) (o : Nat) (w : World) (C : Array Value), w.heap[b]? = some (.cells C T fz) → o + vs.length ≤ C.size →
    ∃ C', (w.setCells b o vs).heap[b]? = some (.cells C' T fz) ∧ C'.size = C.size ∧ (∀ j, C'[j]? = if o ≤ j ∧ j < o + vs.length then vs[j - o]? else C[j]?) ∧ (∀ k, k ≠ b → (w.setCells b o vs).heap[k]? = w.heap[k]?) ∧ (w.setCells b o vs).heap.size = w.heap.size ∧ (w.setCells b o vs).os = w.os ∧ (w.setCells b o vs).tape = w.tape ∧ (w.setCells b o vs).output = w.output
  | [], o, w, C, hb, _ => ⟨C, hb, rfl, fun j => by rw [if_neg (by simp only [List.length_nil]; omega)], fun _ _ => rfl, rfl, rfl, rfl, rfl⟩
  | v :: vs, o, w, C, hb, hl => by
    rw [List.length_cons] at hl
    obtain ⟨h1, h2⟩ := setCell_heap hb o v
    obtain ⟨C', g1, g2, g3, g4, g5, g6, g7, g8⟩ := setCells_heap vs (o + 1) (w.setCell ⟨b, o, none⟩ v) (C.setIfInBounds o v) h1 (by rw [Array.size_setIfInBounds]; omega)
    refine ⟨C', g1, by rw [g2, Array.size_setIfInBounds], fun j => ?_, fun k hk => (g4 k hk).trans (h2 k hk), by rw [show w.setCells b o (v :: vs) = (w.setCell ⟨b, o, none⟩ v).setCells b (o + 1) vs from rfl, g5]; simp, g6, g7, g8⟩
    rw [g3 j, List.length_cons]
    by_cases c : j = o
    · subst c
      rw [if_neg (by omega), if_pos (by omega), Nat.sub_self, List.getElem?_cons_zero, Array.getElem?_setIfInBounds, if_pos rfl, if_pos (by omega)]
    · by_cases d : o + 1 ≤ j ∧ j < o + 1 + vs.length
      · rw [if_pos d, if_pos (by omega), show j - o = (j - (o + 1)) + 1 by omega, List.getElem?_cons_succ]
      · rw [if_neg d, if_neg (by omega), Array.getElem?_setIfInBounds, if_neg (fun e => c e.symm)]
end
theorem insF_of {P : Program} {ρ : Ren} (L : Lays2.n21 P ρ) : InsF P (ρ.f 21) (ρ.t 3) := by
  refine ⟨?_, ?_⟩
  · have := L.i3
    cases h : P.info? (ρ.t 3) with
    | none => rw [h] at this; cases this
    | some q =>
      rw [h] at this
      simp only [Option.map_some, Option.some.injEq, Prod.mk.injEq] at this
      exact ⟨q, rfl, this.2.1⟩
  · intro b off n c i vb voff vc C VC T TV fz fv v w hi hnc hc hn hvb hb hsz hroom hfz h1c hv hvv h1v hf1 hf2
    obtain ⟨cs, ecs⟩ : ∃ cs, cs = (C.toList.drop off).take n := ⟨_, rfl⟩
    have hcl : cs.length = n := by rw [ecs, List.length_take, List.length_drop, Array.length_toList]; omega
    have hcs : ∀ j u, cs[j]? = some u → C[off + j]? = some u := fun j u h => by
      rw [ecs, List.getElem?_take] at h
      split at h
      · rw [List.getElem?_drop, Array.getElem?_toList] at h; exact h
      · cases h
    have hjn : ∀ j u, cs[j]? = some u → j < n := fun j u h => by rw [← hcl]; exact (List.getElem?_eq_some_iff.1 h).1
    have hcell : ∀ j u, cs[j]? = some u → w.cell? ⟨b, off + j, none⟩ = some u := fun j u h => by
      simp only [World.cell?, hb]; exact hcs j u h
    have h1cs : ∀ u ∈ cs, u.oneCell' = true := fun u hu => by
      obtain ⟨j, hj⟩ := List.getElem?_of_mem hu
      exact h1c j u (hjn j u hj) (hcs j u hj)
    have hvs : ∀ (j : Nat) (u : Value), [v][j]? = some u → w.cell? ⟨vb, voff + j, none⟩ = some u := fun j u h => by
      cases j with
      | zero => simp only [List.getElem?_cons_zero] at h; simp only [World.cell?, hv]; rw [Nat.add_zero, hvv]; simpa using h
      | succ j => simp at h
    have eM : insV C off n i v = cs.take i ++ v :: cs.drop i := by unfold insV; rw [← ecs]
    have hM : ∀ j, (cs.take i ++ v :: cs.drop i)[j]? = if j < i then cs[j]? else if j = i then some v else cs[j - 1]? := fun j => by
      have hti : (cs.take i).length = i := by rw [List.length_take]; omega
      by_cases c1 : j < i
      · rw [if_pos c1, List.getElem?_append_left (by omega), List.getElem?_take, if_pos c1]
      · rw [if_neg c1, List.getElem?_append_right (by omega), hti]
        by_cases c2 : j = i
        · rw [if_pos c2, c2, Nat.sub_self]; rfl
        · rw [if_neg c2, show j - i = (j - i - 1) + 1 by omega, List.getElem?_cons_succ, List.getElem?_drop, show i + (j - i - 1) = j - 1 by omega]
    rw [eM]
    by_cases hr : n + 1 ≤ c
    · have hsz2 := hroom hr
      have := Any2.slices_Insert_int_shift L b off n c i vb voff 1 vc cs [v] w hi (by omega) hr hc hvb hcl rfl hcell
        (fun j hj => by simp only [World.cell?, hb]; rw [Array.getElem?_eq_getElem (show off + j < C.size by omega)]; rfl)
        (fun j hj => by
          have := hfz hr (off + j) (by omega) (by omega)
          simp only [World.frozen?, hb, Bool.and_eq_false_iff, decide_eq_false_iff_not]; omega)
        hvs h1cs (fun u hu => by rw [List.mem_singleton] at hu; rw [hu]; exact h1v) TV T VC.size C.size (by simp only [World.shape?, hv]) (by simp only [World.shape?, hb]) (by omega)
        (by simp only [World.frozen?, hv, Bool.and_eq_false_iff, decide_eq_false_iff_not]; omega) (by simp only [World.frozen?, hv, Bool.and_eq_false_iff, decide_eq_false_iff_not]; omega)
      refine this.mono fun r w' ⟨h1, h2⟩ => ?_
      have hbd : w.drew.heap[b]? = some (.cells C T fz) := hb
      have hdl : (cs.drop i).length = n - i := by rw [List.length_drop, hcl]
      obtain ⟨C1, a1, a2, a3, a4, a5, a6, a7, a8⟩ := setCells_heap (cs.drop i) (off + (i + 1)) w.drew C hbd (by omega)
      obtain ⟨C2, b1, b2, b3, b4, b5, b6, b7, b8⟩ := setCells_heap [v] (off + i) (w.drew.setCells b (off + (i + 1)) (cs.drop i)) C1 a1 (by simp; omega)
      rw [h2]
      refine ⟨⟨b6.trans a6, b7.trans a7, b8.trans a8⟩, .inl ⟨hr, h1, b5.trans a5, fun k hk => (b4 k hk).trans (a4 k hk), C2, b1, by rw [b2, a2], fun j hj => ?_⟩⟩
      rw [hM, b3, List.length_singleton]
      by_cases c1 : j < i
      · rw [if_pos c1, if_neg (by omega), a3, if_neg (by omega)]
        rw [List.getElem?_eq_getElem (show j < cs.length by omega)]
        exact hcs j _ (List.getElem?_eq_getElem (by omega))
      · rw [if_neg c1]
        by_cases c2 : j = i
        · rw [if_pos c2, if_pos (by omega), c2, Nat.sub_self]; rfl
        · rw [if_neg c2, if_neg (by omega), a3, if_pos (by omega), List.getElem?_drop]
          congr 1; omega
    · have := Any2.slices_Insert_int_grow L b off n c i vb voff 1 vc cs [v] w hi (by omega) hnc (by omega) (by omega) hcl rfl hcell hvs h1cs (fun u hu => by rw [List.mem_singleton] at hu; rw [hu]; exact h1v)
      refine this.mono fun r w' ⟨h1, h2⟩ => ?_
      obtain ⟨G, eG⟩ : ∃ G, G = grownCap w (n + 1) c (ρ.t 3) := ⟨_, rfl⟩
      have hG1 : n + 1 ≤ G := by rw [eG]; exact grownCap_ge w _ _ _
      have hG2 : G ≤ 9223372036854775807 := by
        have := grownCap_le_maxLen w (n + 1) c (ρ.t 3) (by unfold maxLen; omega)
        rw [← eG] at this
        unfold maxLen at this
        omega
      rw [← eG] at h1 h2
      obtain ⟨Z, eZ⟩ : ∃ Z : Array Value, Z = (cs.take i).toArray ++ Builtin.zeroCells (Value.int .i64 0).cells (n + 1 - i) ++ Builtin.zeroCells (Value.int .i64 0).cells (G - (n + 1)) := ⟨_, rfl⟩
      rw [← eZ] at h2
      have hZs : Z.size = G := by rw [eZ]; simp [Builtin.zeroCells, Value.cells]; omega
      have hZt : ∀ j, j < i → Z[j]? = cs[j]? := fun j hj => by
        rw [eZ, Array.append_assoc, Array.getElem?_append_left (by simp; omega)]
        simp [List.getElem?_take, hj]
      have hb0 : (w.alloc (.cells Z (ρ.t 3))).drew.heap[w.heap.size]? = some (.cells Z (ρ.t 3) (0, 0)) := by
        show (w.heap.push _)[w.heap.size]? = _
        rw [Array.getElem?_push, if_pos rfl]
      have hdl : (cs.drop i).length = n - i := by rw [List.length_drop, hcl]
      obtain ⟨C1, a1, a2, a3, a4, a5, a6, a7, a8⟩ := setCells_heap [v] i (w.alloc (.cells Z (ρ.t 3))).drew Z hb0 (by simp; omega)
      obtain ⟨C2, b1, b2, b3, b4, b5, b6, b7, b8⟩ := setCells_heap (cs.drop i) (i + 1) ((w.alloc (.cells Z (ρ.t 3))).drew.setCells w.heap.size i [v]).drew C1 a1 (by omega)
      rw [h2]
      refine ⟨⟨b6.trans a6, b7.trans a7, b8.trans a8⟩, .inr ⟨by omega, G, ρ.t 3, hG1, hG2, h1, ?_, fun k hk => ?_, C2, b1, by rw [b2, a2, hZs], fun j hj => ?_⟩⟩
      · refine b5.trans (a5.trans ?_)
        show (w.heap.push _).size = _
        rw [Array.size_push]
      · refine (b4 k (by omega)).trans ((a4 k (by omega)).trans ?_)
        show (w.heap.push _)[k]? = _
        rw [Array.getElem?_push, if_neg (by omega)]
      · rw [hM, b3]
        by_cases c1 : j < i
        · rw [if_pos c1, if_neg (by omega), a3, if_neg (by simp; omega), hZt j c1]
        · rw [if_neg c1]
          by_cases c2 : j = i
          · rw [if_pos c2, if_neg (by omega), a3, if_pos (by simp; omega), c2, Nat.sub_self]; rfl
          · rw [if_neg c2, if_pos (by omega), List.getElem?_drop]
            congr 1; omega
end Go.AM
/-
  Plain: a fault that is made and mended again, or mended and made again.
-/
namespace Go.AM
theorem mend_make {R : Rib} (hR : RibOk R) {u : Int} (hu : u ∈ R.F) : addR (delR R u) u = R := by
  have hd := del_eq hR.s hu
  have hs : (R.F.filter fun y => decide (y ≠ u)).Pairwise (· < ·) := hR.s.filter _
  have hn : u ∉ R.F.filter fun y => decide (y ≠ u) := by simp
  unfold addR delR
  simp only
  rw [hd]
  have : insL (R.F.filter fun y => decide (y ≠ u)) u = R.F := pair_ext (insL_rise hs hn) hR.s fun y => by
    rw [insL_mem, List.mem_filter, decide_eq_true_eq]
    constructor
    · rintro (h | rfl)
      · exact h.1
      · exact hu
    · intro h
      by_cases e : y = u
      · exact .inr e
      · exact .inl ⟨h, e⟩
  rw [this]
theorem make_mend {R : Rib} (hR : RibOk R) {u : Int} (hu : u ∉ R.F) : delR (addR R u) u = R := by
  have hs := insL_rise hR.s hu
  have hm : u ∈ insL R.F u := insL_mem.2 (.inr rfl)
  have hd := del_eq hs hm
  unfold delR addR
  simp only
  rw [hd]
  have : (insL R.F u).filter (fun y => decide (y ≠ u)) = R.F := pair_ext (hs.filter _) hR.s fun y => by
    rw [List.mem_filter, insL_mem, decide_eq_true_eq]
    constructor
    · rintro ⟨h | h, h2⟩
      · exact h
      · exact absurd h h2
    · intro h
      exact ⟨.inl h, fun e => hu (e ▸ h)⟩
  rw [this]
end Go.AM
