/-
  Contracts: the chapter's example is as it should be (Ten, awake).
-/
import Derived.Test.YtikgghhceolaeaaU18
import Derived.Test.YtikgghhceolaeaaU12
import Derived.Test.YtikgghhceolaeaaU10
import Derived.Test.YtikgghhceolaeaaU9
import Derived.Test.YtikgghhceolaeaaU11
set_option linter.unusedSimpArgs false
set_option linter.unusedVariables false
namespace Go.AM
open Go.Proofs.Try
theorem dschN22 {p : Prop} (h : p := by first | exact Nat.ne_of_beq_eq_false rfl | assumption | (apply asOne; (first | exact One.int | exact One.bool | assumption | exact Ints.one (by assumption) | exact Rows.one (by assumption) | exact Own.one (by assumption) | exact One.lit ⟨rfl, rfl, rfl⟩)) | (apply asInts; (repeat first | assumption | exact ints_nil | apply Ints.app); done) | (apply asRows; (repeat first | assumption | exact Rows.nil | apply Rows.app); done) | (apply asScal; (first | apply allS1 | apply allS2 | apply allS3 | apply allS4) <;> (first | exact One.int | exact One.bool | assumption | exact Ints.one (by assumption) | exact Rows.one (by assumption) | exact Own.one (by assumption) | exact One.lit ⟨rfl, rfl, rfl⟩)) | exact litT rfl | exact litF rfl | omega | (simp only [List.length_append, List.length_cons, List.length_nil, List.length_set, List.length_reverse]; first | done | omega) | fail) : p := h
attribute [-go_sem] put_ne put_same
attribute [local go_sem ↓] put_if
theorem bs2I {lit : Bool} {H : Heap} {a b : Int} (hl : lit = false) : bsA prog lit H 22 2 [(0, .int .i64 a), (1, .int .i64 b)] = some (.slice (some ⟨H.length, 0, 0⟩) 2 2, H ++ [rowB [a, b] 0]) := by
  subst hl; simp [bsA, rowOf, Fc.el22, fillA, repCells, AVal.isN, AVal.cells, splice, rowB, ints]
theorem bs2W {lit : Bool} {H : Heap} {a b : Wnt} : bsA prog lit H 23 2 [(0, .agg [.int .i64 a.lg, .int .i64 a.pr, .int .i64 a.off, .int .i64 a.fl, .int .i64 a.jn]), (1, .agg [.int .i64 b.lg, .int .i64 b.pr, .int .i64 b.off, .int .i64 b.fl, .int .i64 b.jn])] = some (.slice (some ⟨H.length, 0, 0⟩) 2 2, H ++ [rowE encW 49 [a, b] 0]) := by
  simp [bsA, rowOf, Fc.el23, fillA, repCells, AVal.isN, AVal.cells, splice, rowE, flat, encW]
theorem bs2C {lit : Bool} {H : Heap} {a b : Ct} : bsA prog lit H 43 2 [(0, .agg [.int .i64 a.w, .int .i64 a.f, .bool a.j]), (1, .agg [.int .i64 b.w, .int .i64 b.f, .bool b.j])] = some (.slice (some ⟨H.length, 0, 0⟩) 2 2, H ++ [rowE encC 58 [a, b] 0]) := by
  simp [bsA, rowOf, Fc.el43, fillA, repCells, AVal.isN, AVal.cells, splice, rowE, flat, encC]
theorem bs2S {lit : Bool} {H : Heap} {a b : Int × Int} : bsA prog lit H 59 2 [(0, .agg [.int .i64 a.1, .int .i64 a.2]), (1, .agg [.int .i64 b.1, .int .i64 b.2])] = some (.slice (some ⟨H.length, 0, 0⟩) 2 2, H ++ [rowE encS 69 [a, b] 0]) := by
  simp [bsA, rowOf, Fc.el59, fillA, repCells, AVal.isN, AVal.cells, splice, rowE, flat, encS]
theorem app_non {base id : Nat} {H : Heap} {l : List Int} {n : Nat} (hg : H[id]? = some (rowB l 0)) (hn : n = l.length) : appendA prog base H 22 (.slice (some ⟨id, 0, 0⟩) n n) (.slice none 0 0) = some (.slice (some ⟨id, 0, 0⟩) n n, H) := by
  subst hn
  have hst : storeN base H (ARef.add ⟨id, 0, 0⟩ l.length) [] = some H := by
    unfold storeN
    simp only [ARef.add, hg, rowB]
    rw [if_pos ⟨trivial, by simp [ints_length], rfl, .inr rfl⟩]
    simp only [splice]
    rw [show (⟨.cells (ints l) 3 true false, 0⟩ : ABlk) = rowB l 0 from rfl, set_id hg]
  simp [appendA, Fc.el22, lenA, firstN, hst]
theorem run_Ten {base : Nat} {h : Heap} (hb : base ≤ h.length) : Ret prog raw base (.fn 80 [] []) [.slice none 0 0] h (fun w H => Ext h H ∧ RibAt H w tenR) := by
  obtain ⟨G, eG⟩ : ∃ G, G = h ++ [ribB 0 (.slice none 0 0) (.slice none 0 0)] := ⟨_, rfl⟩
  have xG : Ext h G := by rw [eG]; exact .app .refl
  have gG : G[h.length]? = some (ribB 0 (.slice none 0 0) (.slice none 0 0)) := by rw [eG]; exact get_eq rfl
  have lG : G.length = h.length + 1 := by rw [eG]; simp
  obtain ⟨H1, eH1⟩ : ∃ H1, H1 = G ++ [rowB [3, 5] 0] := ⟨_, rfl⟩
  have x1 : Ext G H1 := by rw [eH1]; exact .app .refl
  have g1 : H1[G.length]? = some (rowB [3, 5] 0) := by rw [eH1]; exact get_eq rfl
  have l1 : H1.length = h.length + 2 := by rw [eH1]; simp [lG]
  obtain ⟨H2, eH2⟩ : ∃ H2, H2 = H1 ++ [rowE encW 49 [⟨4, 10, 3, 1, 1⟩, ⟨3, 6, 1, 0, 2⟩] 0] := ⟨_, rfl⟩
  have x2 : Ext H1 H2 := by rw [eH2]; exact .app .refl
  have g2 : H2[H1.length]? = some (rowE encW 49 [⟨4, 10, 3, 1, 1⟩, ⟨3, 6, 1, 0, 2⟩] 0) := by rw [eH2]; exact get_eq rfl
  have l2 : H2.length = h.length + 3 := by rw [eH2]; simp [l1]
  have g02 := (x1.trans x2).get gG
  have b1 := fun lit (hl : lit = false) => bs2I (lit := lit) (H := G) (a := 3) (b := 5) hl
  rw [← eH1] at b1
  have b2 := fun lit => bs2W (lit := lit) (H := H1) (a := ⟨4, 10, 3, 1, 1⟩) (b := ⟨3, 6, 1, 0, 2⟩)
  rw [← eH2] at b2
  have ap := app_non (base := base) (id := G.length) (n := 2) (H := H1) g1 rfl
  unfold ribB at eG gG g02
  refine ret_raw func80 rfl (by kernel_rfl) ?_
  have hsp := @Nat.succ_ne_zero; repeat' (first | simp (disch := first | exact dschN22 | fail) only [go_sem, ↓reduceIte, hsp, ← eG, b1, ap, b2, g02] | refine WP_drw ?_ | refine cnd_intro (fun hsp => ?_) fun hsp => ?_)
  have xf : Ext h (H2.set h.length (ribB 10 (.slice (some ⟨G.length, 0, 0⟩) 2 2) (.slice (some ⟨H1.length, 0, 0⟩) 2 2))) := Ext.set ((xG.trans x1).trans x2) (Nat.le_refl _)
  refine ⟨xf, _, _, rfl, ints_rowB (l := [3, 5]) ?_ ⟨by simp, fun y hy => ?_⟩ rfl, Rows.own (l := ([⟨4, 10, 3, 1, 1⟩, ⟨3, 6, 1, 0, 2⟩] : List Wnt)) (e := 49) ?_ rfl (by simp)⟩
  · rw [List.getElem?_set_ne (by omega)]; exact x2.get g1
  · simp at hy; omega
  · rw [List.getElem?_set_ne (by omega)]; exact g2
set_option maxRecDepth 100000 in
set_option maxHeartbeats 4000000 in
theorem run_awake {base : Nat} {h : Heap} : callL prog raw base (.fn 16 [] []) [] h = some (.bool true, h) := by
  have hsm : tenR.F.length ≤ 1048576 := by decide
  obtain ⟨v1, A1, e1, x1, T1⟩ := run_Ten (base := h.length) (h := h) (Nat.le_refl _)
  have k1 := fun base => run_Take (base := base) (c := ⟨0, 0, true⟩) T1 hsm
  rw [ten_t1] at k1
  have l1 := x1.len
  obtain ⟨v2, A2, e2, x2, T2⟩ := run_Ten (base := h.length) (h := A1) l1
  have k2 := fun base => run_Take (base := base) (c := ⟨0, 2, false⟩) T2 hsm
  rw [ten_t2] at k2
  have l2 := x2.len
  obtain ⟨v3, A3, e3, x3, T3⟩ := run_Ten (base := h.length) (h := A2) (by omega)
  have l3 := x3.len
  obtain ⟨w3, B3, f3, y3, u3, rfl, O3⟩ := run_Best (base := h.length) (by omega) T3 hsm
  have m3 := y3.len
  obtain ⟨v4, A4, e4, x4, T4⟩ := run_Ten (base := h.length) (h := B3) (by omega)
  have l4 := x4.len
  obtain ⟨w4, B4, f4, y4, u4, rfl, O4⟩ := run_Made (base := h.length) (by omega) T4 hsm
  have m4 := y4.len
  obtain ⟨v5, A5, e5, x5, T5⟩ := run_Ten (base := h.length) (h := B4) (by omega)
  have l5 := x5.len
  obtain ⟨A5', eA5⟩ : ∃ A5', A5' = A5 ++ [rowE encC 58 [⟨0, 0, true⟩, ⟨0, 6, false⟩] 0] := ⟨_, rfl⟩
  have x5' : Ext A5 A5' := by rw [eA5]; exact .app .refl
  have P5 : Rows encC A5' (.slice (some ⟨A5.length, 0, 0⟩) 2 2) [⟨0, 0, true⟩, ⟨0, 6, false⟩] := Rows.own (by rw [eA5]; exact get_eq rfl) rfl (by simp)
  have l5' := x5'.len
  have bs5 := fun lit => bs2C (lit := lit) (H := A5) (a := ⟨0, 0, true⟩) (b := ⟨0, 6, false⟩)
  rw [← eA5] at bs5
  obtain ⟨w5, B5, f5, y5, u5, rfl, O5⟩ := run_Rest (base := h.length) (by omega) (T5.ext x5') hsm P5
  rw [ten_rst] at f5 O5
  have m5 := y5.len
  obtain ⟨v6, A6, e6, x6, T6⟩ := run_Ten (base := h.length) (h := B5) (by omega)
  have l6 := x6.len
  obtain ⟨w6, B6, f6, y6, u6, rfl, O6⟩ := run_Used (base := h.length) (by omega) T6 hsm
  rw [ten_usd] at O6
  have m6 := y6.len
  obtain ⟨v7, A7, e7, x7, T7⟩ := run_Ten (base := h.length) (h := B6) (by omega)
  have k7 := fun base => run_Raise (base := base) (want := 1) T7 hsm
  rw [ten_rse] at k7
  have l7 := x7.len
  obtain ⟨v8, A8, e8, x8, T8⟩ := run_Ten (base := h.length) (h := A7) (by omega)
  have k8 := fun base => run_Damage (base := base) (u := 8) T8 hsm (by omega)
  rw [ten_dmg] at k8
  have l8 := x8.len
  obtain ⟨v9, A9, e9, x9, T9⟩ := run_Ten (base := h.length) (h := A8) (by omega)
  have k9 := fun base => run_Mended (base := base) (u := 3) T9 hsm
  rw [ten_men] at k9
  rw [ten_chk, ten_all] at f3
  rw [ten_chk] at f4 f6
  simp only at k1 k2 k7 k8 k9 f5
  have z4 := x4.trans y4
  have n3 := own_len (O3.ext z4) Fc.el43 (by rw [ten_bst]; decide)
  rw [ten_bst] at n3
  have I4 := ownE_ints O4 (by unfold madE; rw [if_neg (by simp [ten_chk])]; exact val_small ten_ok (by decide))
  have n4 := lenI I4
  have a40 := adrI (i := 0) (by omega) I4 (by rw [ten_madl]; omega)
  have a46 := adrI (i := 6) (by omega) I4 (by rw [ten_madl]; omega)
  have a47 := adrI (i := 7) (by omega) I4 (by rw [ten_madl]; omega)
  have d40 := loadI I4 (i := 0) (by rw [ten_madl]; omega)
  have d46 := loadI I4 (i := 6) (by rw [ten_madl]; omega)
  have d47 := loadI I4 (i := 7) (by rw [ten_madl]; omega)
  rw [ten_madl] at n4
  rw [ten_mad0] at d40
  rw [ten_mad6] at d46
  rw [ten_mad7] at d47
  have z69 : Ext B6 A9 := (x7.trans x8).trans x9
  have z59 : Ext B5 A9 := (x6.trans y6).trans z69
  have l9 := x9.len
  obtain ⟨C1, eC1⟩ : ∃ C1, C1 = A9 ++ [rowE encS 69 [(3, 3), (5, 5)] 0] := ⟨_, rfl⟩
  have xc1 : Ext A9 C1 := by rw [eC1]; exact .app .refl
  have bs6 := fun lit => bs2S (lit := lit) (H := A9) (a := (3, 3)) (b := (5, 5))
  rw [← eC1] at bs6
  simp only at bs6
  have q5 := fun base => run_eqS (base := base) ((O5.rows (by simp)).ext (z59.trans xc1)) (Rows.own (E := encS) (e := 69) (id := A9.length) (ver := 0) (n := 2) (l := [(3, 3), (5, 5)]) (by rw [eC1]; exact get_eq rfl) rfl (by simp)) (by simp)
  obtain ⟨C2, eC2⟩ : ∃ C2, C2 = C1 ++ [rowB [0] 0] := ⟨_, rfl⟩
  have xc2 : Ext C1 C2 := by rw [eC2]; exact .app .refl
  have s0 : Small [(0 : Int)] := ⟨by simp, fun y hy => by simp at hy; omega⟩
  have I6 := own_ints (O6.ext ((z69.trans xc1).trans xc2)) s0
  have I6' : Ints C2 (.slice (some ⟨C1.length, 0, 0⟩) 1 1) [0] := ints_rowB (by rw [eC2]; exact get_eq rfl) s0 rfl
  have q6 := fun base => run_eqI (base := base) I6 I6'
  have o3 := O3.one
  have o4 := O4.one
  have o5 := O5.one
  have o6 := O6.one
  have xf : Ext h C2 := (((((((x1.trans x2).trans x3).trans y3).trans z4).trans x5).trans x5').trans y5).trans ((z59.trans xc1).trans xc2)
  refine callL_run func16 rfl rfl ?_
  have hsp := @Nat.succ_ne_zero; repeat' (first | simp (disch := first | exact dschN22 | fail) only [go_sem, ↓reduceIte, hsp, e1, k1, e2, k2, e3, f3, e4, f4, n3, n4, a40, a46, a47, d40, d46, d47, e5, bs5, f5, e6, f6, e7, k7, e8, k8, e9, k9, bs6, ← eC1, q5, ← eC2, q6, decide_true] | refine WP_drw ?_ | refine cnd_intro (fun hsp => ?_) fun hsp => ?_)
  exact fB rfl xf
end Go.AM
/-
  The reference: all cuts from a unit (All); a ribbon as the reference has it (theirs); copies.
-/
namespace Go.AM
open Go.Proofs.Try
attribute [-go_sem] put_ne put_same
attribute [local go_sem ↓] put_if
end Go.AM
/-
  The reference: a ribbon as the reference has it (theirs); cuts as the reference has them (cuts).
-/
namespace Go.AM
open Go.Proofs.Try
attribute [-go_sem] put_ne put_same
attribute [local go_sem ↓] put_if
end Go.AM
/-
  The reference: all cuts from a unit (All).
-/
namespace Go.AM
open Go.Proofs.Try
attribute [-go_sem] put_ne put_same
attribute [local go_sem ↓] put_if
end Go.AM
/-
  The reference: what a plan earns (Plan).
-/
namespace Go.AM
open Go.Proofs.Try
attribute [-go_sem] put_ne put_same
attribute [local go_sem ↓] put_if
section
variable {h : Heap} {pv : AVal} {P : List Ct} {i : Nat} {c : Ct}
end
end Go.AM
/-
  Marks; the units that are left over, as the reference tells them: run by run.
-/
namespace Go.AM
open Go.Proofs.Try
attribute [-go_sem] put_ne put_same
attribute [local go_sem ↓] put_if
def encO : Enc Bool := ⟨1, fun b => [.bool b], fun _ => rfl, by decide⟩
def mrk (n : Nat) (S : List Int) : List Bool := (List.range n).map fun k : Nat => decide ((k : Int) ∈ S)
abbrev mkB (n : Nat) (S : List Int) : ABlk := rowE encO 4 (mrk n S) 0
/-- How far the reference's list reaches. -/
structure Rch (t : List Int) (n u m : Nat) : Prop where
  le : u ≤ m ∧ m ≤ n
  fr : ∀ y : Nat, u ≤ y → y < m → (y : Int) ∉ t
  pr : u < m → 0 < u ∧ (u : Int) - 1 ∉ t
  ed : m < n → (m : Int) ∈ t ∨ (m = u ∧ (u = 0 ∨ (u : Int) - 1 ∈ t))
end Go.AM
/-
  The reference: the units that no cut takes (Rest).
-/
namespace Go.AM
open Go.Proofs.Try
attribute [-go_sem] put_ne put_same
attribute [local go_sem ↓] put_if
end Go.AM
/-
  Plain: what is earned at most and with how few cuts, forwards, in two rows.
-/
namespace Go.AM
def upS (s : List Int × List Int) (y : Nat) (a c : Int) : List Int × List Int := if thB true (a, c) (s.1.getD y 0, s.2.getD y 0) = true then (s.1.set y a, s.2.set y c) else s
def upC (x : Nat) (t : List Int × List Int) (c : Ct × Int × Int) : List Int × List Int := upS t c.2.1.toNat (t.1.getD x 0 + c.2.2) (t.2.getD x 0 + 1)
def upX (R : Rib) (x : Nat) (s : List Int × List Int) : List Int × List Int := (cutL R x).foldl (upC x) (upS s (x + 1) (s.1.getD x 0) (s.2.getD x 0))
def upN (R : Rib) (f : Nat) : Nat → List Int × List Int
  | 0 => (List.replicate (R.L.toNat + 1) 0, List.replicate (R.L.toNat + 1) 0)
  | n + 1 => upX R (f + n) (upN R f n)
/-- What is known of the rows. -/
structure UpK (n : Nat) (s : List Int × List Int) : Prop where
  l1 : s.1.length = n + 1
  l2 : s.2.length = n + 1
  b1 : ∀ y : Nat, 0 ≤ s.1.getD y 0 ∧ s.1.getD y 0 ≤ 100 * (y : Int)
  b2 : ∀ y : Nat, 0 ≤ s.2.getD y 0 ∧ s.2.getD y 0 ≤ (y : Int)
def keyS (s : List Int × List Int) : Nat → Int := fun i => key true (s.1.getD i 0, s.2.getD i 0)
section
variable {R : Rib} {x : Nat}
end
end Go.AM
/-
  The reference: what is earned at most, and with how few cuts, forwards (Up).
-/
namespace Go.AM
open Go.Proofs.Try
attribute [-go_sem] put_ne put_same
attribute [local go_sem ↓] put_if
end Go.AM
/-
  The reference: what is earned at most (Earned); wide.
-/
namespace Go.AM
open Go.Proofs.Try
attribute [-go_sem] put_ne put_same
attribute [local go_sem ↓] put_if
end Go.AM
/-
  Arguments that came in, slices of structs that hold slices among them: rows of memory whose cells stand for each other.
-/
namespace Go.AM
open Go.Proofs.Try Go.RowKit Go.ChangeShapes Go.WideShapes Go.ChangeAt
open Go.Proofs.Ytikgghhceolaeaa (Rows.uptoSmall Rows.uptoBulkAll Rows.uptoBulk)
set_option maxRecDepth 100000
def Rw.okG (μ : Mu) (w : World) (r : Rw) : Prop := ∃ (C : Array Value) (T : TypeId) (fz : Nat × Nat), w.heap[r.blk]? = some (.cells C T fz) ∧ r.off + r.cs.length ≤ C.size ∧
  ∀ (i : Nat) (x : AVal) (y : Value), r.cs[i]? = some x → C[r.off + i]? = some y → VR μ x y
/-- All rows stand. -/
def RsOk (w : World) (R : List Rw) : Prop := ∀ r ∈ R, r.okG (muR R) w
/-- What came in can be opened behind any rows: cells, and what holds of them. -/
def Opens (W : World) (cs : List Value) (Q : Heap → List AVal → Prop) : Prop := ∀ R, RsOk W R → ∃ S vs, RsOk W (R ++ S) ∧ VRs (muR (R ++ S)) vs cs ∧ Q (heapR (R ++ S)) vs
/-- .. one value. -/
def OpensV (W : World) (V : Value) (Q : Heap → AVal → Prop) : Prop := ∀ R, RsOk W R → ∃ S v, RsOk W (R ++ S) ∧ VR (muR (R ++ S)) v V ∧ Q (heapR (R ++ S)) v
/-! ### Bulk -/
/-! ### Slices -/
end Go.AM
/-
  CutRibbons, walked.
-/
namespace Go.AM
open Go.Proofs.Try
attribute [-go_sem] put_ne put_same
attribute [local go_sem ↓] put_if
/-- A ribbon that came in, its slices no longer than these. -/
def RibN (N : Nat) (H : Heap) (v : AVal) : Prop := ∃ R, RibAt H v R ∧ R.F.length ≤ N ∧ R.W.length ≤ N
def CutV (_ : Heap) (v : AVal) : Prop := ∃ c : Ct, v = .agg [.int .i64 c.w, .int .i64 c.f, .bool c.j]
def IntV (_ : Heap) (v : AVal) : Prop := ∃ n : Int, v = .int .i64 n
end Go.AM
/-
  Arguments that came in: ribbons, cuts, lists of numbers.
-/
namespace Go.AM
open Go.Proofs.Try Go.RowKit Go.ChangeShapes Go.WideShapes Go.ChangeAt
open Go.Proofs.Ytikgghhceolaeaa (Rows.uptoSmall Rows.uptoBulkAll Rows.uptoBulk)
set_option maxRecDepth 100000
def IntsN (N : Nat) (H : Heap) (v : AVal) : Prop := ∃ l, Ints H v l ∧ l.length ≤ N
def CtsN (N : Nat) (H : Heap) (v : AVal) : Prop := ∃ l, Rows encC H v l ∧ l.length ≤ N
section
variable {H : Type} {enc : TypeId × Value → H} {W : World} {n N : Nat}
end
end Go.AM
/-
  CutMost, walked.
-/
namespace Go.AM
open Go.Proofs.Try
attribute [-go_sem] put_ne put_same
attribute [local go_sem ↓] put_if
end Go.AM
/-
  Contracts: arrays that are compared; a ribbon without one want (without).
-/
namespace Go.AM
open Go.Proofs.Try
attribute [-go_sem] put_ne put_same
attribute [local go_sem ↓] put_if
/-! ### Arrays -/
/-! ### Wants -/
section
variable {base id : Nat} {h : Heap} {m : List Wnt}
abbrev wB (m : List Wnt) : ABlk := rowE encW 49 m 0
def wnt0 : Wnt := ⟨0, 0, 0, 0, 0⟩
end
end Go.AM
/-
  Contracts: the wants without which less is earned (Needed).
-/
namespace Go.AM
open Go.Proofs.Try
attribute [-go_sem] put_ne put_same
attribute [local go_sem ↓] put_if
def nedE (R : Rib) : List Int := if chkR R ≠ 0 then [] else nedL R
def nedN (R : Rib) (n : Nat) : List Int := (upto n).filter fun k => decide (valD (witR R k.toNat) 0 < valD R 0)
end Go.AM
/-
  Contracts: whether values hold (holds).
-/
namespace Go.AM
open Go.Proofs.Try
attribute [-go_sem] put_ne put_same
attribute [local go_sem ↓] put_if
/-- No choice earns more than is said. -/
structure Hld (R : Rib) (V : List Int) : Prop where
  up : ∀ x, x < R.L.toNat → V.getD (x + 1) 0 ≤ V.getD x 0
  cut : ∀ x, x < R.L.toNat → ∀ c ∈ cutL R x, c.2.2 + V.getD c.2.1.toNat 0 ≤ V.getD x 0
  fin : 0 ≤ V.getD R.L.toNat 0
abbrev boB (b : Bool) : ABlk := ⟨.cells [.bool b] 4 false false, 0⟩
end Go.AM
/-
  Contracts: values that are given (valued), whether they hold (Holds), what they say (Bound).
-/
namespace Go.AM
open Go.Proofs.Try
attribute [-go_sem] put_ne put_same
attribute [local go_sem ↓] put_if
def padV (l : List Int) : List Int := l ++ List.replicate (61 - l.length) 0
def vldE (R : Rib) (l : List Int) : Int := if chkR R ≠ 0 then chkR R else if (l.length : Int) ≠ R.L + 1 then 2 else if ¬ (l.all fun y => decide (-10000 ≤ y ∧ y ≤ 10000)) = true then 3 else 0
end Go.AM
/-
  Contracts: whether values hold (Holds), what they say (Bound).
-/
namespace Go.AM
open Go.Proofs.Try
attribute [-go_sem] put_ne put_same
attribute [local go_sem ↓] put_if
noncomputable def hldB (R : Rib) (V : List Int) : Bool := @decide (Hld R V) (Classical.propDecidable _)
/-- What is said of values: whether they hold, the error, what they say. -/
noncomputable def hldE (R : Rib) (l : List Int) : Bool := decide (vldE R l = 0) && hldB R l
noncomputable def bndE (R : Rib) (l : List Int) : Int × Int := if vldE R l ≠ 0 then (0, vldE R l) else if hldB R l = true then (l.getD 0 0, 0) else (0, 8)
end Go.AM
/-
  The reference: what is earned from each position on (Made); whether values hold (Values, Holds).
-/
namespace Go.AM
open Go.Proofs.Try
attribute [-go_sem] put_ne put_same
attribute [local go_sem ↓] put_if
end Go.AM
/-
  The reference: whether values hold (Holds).
-/
namespace Go.AM
open Go.Proofs.Try
attribute [-go_sem] put_ne put_same
attribute [local go_sem ↓] put_if
end Go.AM
/-
  Plain: what is earned before a position, in the reference's row.
-/
namespace Go.AM
section
variable {R : Rib} {x : Nat}
end
end Go.AM
/-
  The reference: whether a best plan may use a want (Uses).
-/
namespace Go.AM
open Go.Proofs.Try
attribute [-go_sem] put_ne put_same
attribute [local go_sem ↓] put_if
end Go.AM
/-
  The reference: whether a want is needed (Needs), from which price on it is used (Raise).
-/
namespace Go.AM
open Go.Proofs.Try
attribute [-go_sem] put_ne put_same
attribute [local go_sem ↓] put_if
def lssN (R : Rib) (k i : Nat) : List Wnt := (R.W.take i).eraseIdx k
end Go.AM
/-
  CutWants, walked.
-/
namespace Go.AM
open Go.Proofs.Try
attribute [-go_sem] put_ne put_same
attribute [local go_sem ↓] put_if
def usP (R : Rib) (n : Nat) : List Int := (upto n).filter fun k => decide (k ∈ usN R R.L.toNat)
end Go.AM
/-
  The law's own reckoning of one cut (taken).
-/
namespace Go.AM
open Go.Proofs.Try
theorem dschN51 {p : Prop} (h : p := by first | exact Nat.ne_of_beq_eq_false rfl | assumption | (apply asOne; (first | exact One.int | exact One.bool | assumption | exact Ints.one (by assumption) | exact Rows.one (by assumption) | exact Own.one (by assumption) | exact One.lit ⟨rfl, rfl, rfl⟩)) | (apply asInts; (repeat first | assumption | exact ints_nil | apply Ints.app); done) | (apply asRows; (repeat first | assumption | exact Rows.nil | apply Rows.app); done) | (apply asScal; (first | apply allS1 | apply allS2 | apply allS3 | apply allS4) <;> (first | exact One.int | exact One.bool | assumption | exact Ints.one (by assumption) | exact Rows.one (by assumption) | exact Own.one (by assumption) | exact One.lit ⟨rfl, rfl, rfl⟩)) | exact litT rfl | exact litF rfl | omega | (simp only [List.length_append, List.length_cons, List.length_nil, List.length_set, List.length_reverse]; first | done | omega) | fail) : p := h
attribute [-go_sem] put_ne put_same
attribute [local go_sem ↓] put_if
/-- What the law says of a cut: its end, what it earns, whether it is allowed. -/
def tknW (R : Rib) (w : Wnt) (x : Nat) (j : Bool) : Int × Int × Bool :=
  if j = true then (if okT R w x true = true then ((uniP R w x true).1.getD ((uniP R w x true).1.length - 1) 0 + 1, max 0 (w.pr - w.off * (uniP R w x true).2), decide ((uniP R w x true).2 ≤ w.jn)) else (0, 0, false))
  else ((x : Int) + w.lg, max 0 (w.pr - w.off * cntB (badF R) x w.lg.toNat), decide ((x : Int) + w.lg ≤ R.L) && decide (cntB (badF R) x w.lg.toNat ≤ w.fl))
def tknR (R : Rib) (c : Ct) : Int × Int × Bool := if (0 ≤ c.w ∧ c.w ≤ (R.W.length : Int) - 1) ∧ (0 ≤ c.f ∧ c.f ≤ R.L - 1) then (match R.W[c.w.toNat]? with | none => (0, 0, false) | some w => tknW R w c.f.toNat c.j) else (0, 0, false)
theorem tknW_f {R : Rib} {w : Wnt} {x : Nat} : tknW R w x false = ((x : Int) + w.lg, max 0 (w.pr - w.off * cntB (badF R) x w.lg.toNat), decide ((x : Int) + w.lg ≤ R.L) && decide (cntB (badF R) x w.lg.toNat ≤ w.fl)) := rfl
theorem tknW_is {R : Rib} {w : Wnt} {x : Nat} {j : Bool} (hw : WntOk w) (hx : x < R.L.toNat) : takL R w x j = if (tknW R w x j).2.2 = true then some ((tknW R w x j).1, (tknW R w x j).2.1) else none := by
  cases j with
  | true =>
    unfold takL tknW
    rw [if_pos rfl]
    by_cases c : okT R w x true = true
    · rw [if_pos c]
      by_cases d : (uniP R w x true).2 ≤ w.jn
      · rw [if_pos ⟨c, d⟩, if_pos (decide_eq_true d)]
      · rw [if_neg (fun q => d q.2), if_neg (by simpa using d)]
    · rw [if_neg c, if_neg (fun q => c q.1), if_neg (by simp)]
  | false =>
    rw [takL_free hw hx, tknW_f]
    by_cases c : (x : Int) + w.lg ≤ R.L ∧ cntB (badF R) x w.lg.toNat ≤ w.fl
    · rw [if_pos c, if_pos (by rw [decide_eq_true c.1, decide_eq_true c.2]; rfl)]
    · rw [if_neg c, if_neg (fun q => c (by rw [Bool.and_eq_true, decide_eq_true_eq, decide_eq_true_eq] at q; exact q))]
def gpI (o : List Int) (u : Nat) : Int := if gapB o u = true then 1 else 0
/-- What holds in the joined cut's loop. -/
structure Jn (R : Rib) (w : Wnt) (x u : Nat) (o : List Int) (f : Int) : Prop where
  k : UnK x 0 w.lg u o f
  un : unL (badF R) true w.lg (R.L.toNat - u) u o f = uniP R w x true
  st : o = [] → u = x
  hd : x < u → badF R x = false
  ls : o ≠ [] → if badF R (u - 1) = true then o.getD (o.length - 1) 0 < (u : Int) - 1 else o.getD (o.length - 1) 0 = (u : Int) - 1
  en : (o.length : Int) = w.lg → o.getD (o.length - 1) 0 = (u : Int) - 1
theorem gap_is {R : Rib} {w : Wnt} {x u : Nat} {o : List Int} {f : Int} (h : Jn R w x u o f) (h0 : o ≠ []) : gapB o u = badF R (u - 1) := by
  have hl : 0 < o.length := List.length_pos_iff.2 h0
  have := h.ls h0
  unfold gapB
  rw [decide_eq_true hl, Bool.true_and]
  by_cases c : badF R (u - 1) = true
  · rw [if_pos c] at this
    rw [c, decide_eq_true this]
  · rw [if_neg c] at this
    rw [Bool.not_eq_true] at c
    rw [c, decide_eq_false (by omega)]
theorem getD_last {l : List Int} {x : Int} : (l ++ [x]).getD ((l ++ [x]).length - 1) 0 = x := by
  simp [List.getD_eq_getElem?_getD]
theorem Jn.good {R : Rib} {w : Wnt} {x u : Nat} {o : List Int} {f : Int} (h : Jn R w x u o f) (hu : u < R.L.toNat) (hl : (o.length : Int) < w.lg) (hb : badF R u = false) : Jn R w x (u + 1) (o ++ [(u : Int)]) (f + gpI o u) ∧ gpI (o ++ [(u : Int)]) (u + 1) = 0 := by
  have eS : unS (badF R) true u o f = (o ++ [(u : Int)], f + gpI o u) := by
    unfold unS gpI
    rw [hb]
    simp only [Bool.true_and, Bool.or_false, Bool.false_eq_true, if_false]
    by_cases c : gapB o u = true
    · rw [if_pos c, if_pos c]
    · rw [if_neg c, if_neg c, Int.add_zero]
  have hk := h.k.step (j := true) (bad := badF R) hl
  have hun := h.un
  rw [unL_at hu, if_pos hl, eS] at hun
  rw [eS] at hk
  refine ⟨⟨hk, hun, fun q => by simp at q, fun q => ?_, fun _ => ?_, fun _ => ?_⟩, ?_⟩
  · by_cases e : x < u
    · exact h.hd e
    · have hx := h.k.n
      rw [show x = u by omega]; exact hb
  · rw [getD_last, Nat.add_sub_cancel, hb, if_neg (by simp)]; omega
  · rw [getD_last]; omega
  · have h2 : ¬ ((u : Int) < ((u + 1 : Nat) : Int) - 1) := by omega
    unfold gpI gapB
    rw [getD_last, decide_eq_false h2, Bool.and_false, if_neg (by simp)]
theorem Jn.bad {R : Rib} {w : Wnt} {x u : Nat} {o : List Int} {f : Int} (h : Jn R w x u o f) (hu : u < R.L.toNat) (hl : (o.length : Int) < w.lg) (hb : badF R u = true) (hx : u ≠ x) : Jn R w x (u + 1) o f ∧ gpI o (u + 1) = 1 ∧ gpI o u = if badF R (u - 1) = true then 1 else 0 := by
  have h0 : o ≠ [] := fun q => hx (h.st q)
  have hlo : 0 < o.length := List.length_pos_iff.2 h0
  have eS : unS (badF R) true u o f = (o, f) := by unfold unS; rw [hb]; rfl
  have hk := h.k.step (j := true) (bad := badF R) hl
  have hun := h.un
  rw [unL_at hu, if_pos hl, eS] at hun
  rw [eS] at hk
  have hm := h.k.b _ (getD_mem' (l := o) (d := 0) (i := o.length - 1) (by omega))
  refine ⟨⟨hk, hun, fun q => absurd q h0, fun q => ?_, fun _ => ?_, fun q => by omega⟩, ?_, ?_⟩
  · have := h.k.n
    exact h.hd (by omega)
  · rw [Nat.add_sub_cancel, hb, if_pos rfl]; omega
  · unfold gpI gapB
    rw [decide_eq_true hlo, decide_eq_true (by omega)]; rfl
  · unfold gpI
    rw [gap_is h h0]
set_option maxRecDepth 100000 in
set_option maxHeartbeats 8000000 in
theorem run_taken {base : Nat} {h : Heap} {v : AVal} {R : Rib} {c : Ct} (hA : RibAt h v R) (hR : RibOk R) :
    callL prog raw base (.fn 50 [] []) [v, .agg [.int .i64 c.w, .int .i64 c.f, .bool c.j]] h = some (.tuple [.int .i64 (tknR R c).1, .int .i64 (tknR R c).2.1, .bool (tknR R c).2.2], h) := by
  have hAe := fun H (e : Ext h H) => hA.ext e
  obtain ⟨fv, wv, rfl, hF, hW⟩ := hA
  have o1 := hF.one
  have o2 := hW.one
  have hL := hR.L
  have hnF := hR.nF
  have hnW := hR.nW
  obtain ⟨cw, cf, cj⟩ := c
  obtain ⟨G0, eG0⟩ : ∃ G0, G0 = h ++ [ribB R.L fv wv] ++ [cutB ⟨cw, cf, cj⟩] := ⟨_, rfl⟩
  have x0 : Ext h G0 := by rw [eG0]; exact .app (.app .refl)
  have g0 : G0[h.length]? = some (ribB R.L fv wv) := by rw [eG0]; exact get_app (get_eq rfl)
  have g1 : G0[h.length + 1]? = some (cutB ⟨cw, cf, cj⟩) := by rw [eG0]; exact get_eq (by simp)
  have l0 : G0.length = h.length + 2 := by rw [eG0]; simp
  have hn := (hW.ext x0).len (P := prog) Fc.el23
  unfold ribB cutB at eG0
  unfold ribB at g0
  unfold cutB at g1
  refine callL_run func50 rfl rfl ?_
  by_cases ct : (0 ≤ cw ∧ cw ≤ (R.W.length : Int) - 1) ∧ (0 ≤ cf ∧ cf ≤ R.L - 1)
  · obtain ⟨k, rfl⟩ := Int.eq_ofNat_of_zero_le ct.1.1
    obtain ⟨x, rfl⟩ := Int.eq_ofNat_of_zero_le ct.2.1
    have hkl : k < R.W.length := by omega
    have hw : R.W[k]? = some R.W[k] := List.getElem?_eq_getElem hkl
    generalize R.W[k] = w at hw
    have hwo := hR.W w (List.mem_of_getElem? hw)
    have hlg := hwo.lg
    have hpr := hwo.pr
    have hof := hwo.off
    have hx : x < R.L.toNat := by omega
    have e0 : tknR R ⟨(k : Int), (x : Int), cj⟩ = tknW R w x cj := by
      unfold tknR
      simp only
      rw [if_pos ct, Int.toNat_natCast, hw, Int.toNat_natCast]
    rw [e0]
    have t1 : ((k : Int) < 0) = False := eq_false (by omega)
    have t2 : ((k : Int) ≥ (R.W.length : Int)) = False := eq_false (by omega)
    have t3 : ((x : Int) < 0) = False := eq_false (by omega)
    have t4 : ((x : Int) ≥ R.L) = False := eq_false (by omega)
    have a1 := wnt_ad (hW.ext x0) hkl
    have b1 := wnt_ld (hW.ext x0) hw
    obtain ⟨G1, eG1⟩ : ∃ G1, G1 = G0 ++ [wntBk w] := ⟨_, rfl⟩
    have x1 : Ext G0 G1 := by rw [eG1]; exact .app .refl
    have gw : G1[G0.length]? = some (wntBk w) := by rw [eG1]; exact get_eq rfl
    have g01 := x1.get g0
    have g11 := x1.get g1
    have xh := x0.trans x1
    have st5 : ∀ (F : ABlk → Heap), stQ h.length G0.length (some ⟨.cells [.int .i64 0, .int .i64 0, .int .i64 0, .int .i64 0, .int .i64 0] 49 false false, 0⟩) 0 0 [.int .i64 w.lg, .int .i64 w.pr, .int .i64 w.off, .int .i64 w.fl, .int .i64 w.jn] F = some (F (wntBk w)) := fun F => stQ_ok (by simp) rfl (by omega)
    have iF := hF.ext xh
    have hnf := lenI iF
    unfold wntBk at eG1 gw st5
    cases cj with
    | false =>
      obtain ⟨m, em⟩ : ∃ m, m = w.lg.toNat := ⟨_, rfl⟩
      have hsp := @Nat.succ_ne_zero; repeat' (first | simp (disch := first | exact dschN51 | fail) only [go_sem, ↓reduceIte, hsp, ← eG0, g0, g1, hn, t1, t2, t3, t4, a1, b1, st5, ← eG1, g01, g11, gw, hnf] | refine WP_drw ?_ | refine cnd_intro (fun hsp => ?_) fun hsp => ?_)
      refine WP_count [(9, 11), (55, 70)] 0 R.F.length (Nat.zero_le _) (fun _ i fr H => fr 55 = .int .i64 (i : Int) ∧ H = G1 ∧ fr 9 = .int .i64 (((R.F.take i).filter (inRg x m)).length : Int)) ?_ ?_ ?_
      · exact ⟨by (simp (disch := first | exact dschN51 | fail) only [go_sem, ↓reduceIte, Int.natCast_zero]; first | done | rfl), rfl, by simp (disch := first | exact dschN51 | fail) only [go_sem, ↓reduceIte]; rfl⟩
      · rintro i fr H hi0 hi hAg ⟨r55, rfl, r9⟩
        have q2 := hAg 2 rfl
        have q3 := hAg 3 rfl
        have q4 := hAg 4 rfl
        have q5 := hAg 5 rfl
        have q6 := hAg 6 rfl
        have q7 := hAg 7 rfl
        have q8 := hAg 8 rfl
        have q53 := hAg 53 rfl
        have q54 := hAg 54 rfl
        try simp (disch := first | exact dschN51 | fail) only [go_sem, ↓reduceIte] at q2 q3 q4 q5 q6 q7 q8 q53 q54
        have hlt : ((i : Int) < (R.F.length : Int)) = True := eq_true (by omega)
        have ai := adrI (i := (i : Int)) (by omega) iF (by omega)
        rw [Int.toNat_natCast] at ai
        have li := loadI iF hi
        have hle : ((R.F.take i).filter (inRg x m)).length ≤ i := Nat.le_trans (List.length_filter_le _ _) (by rw [List.length_take]; omega)
        have htk : (R.F.take (i + 1)).filter (inRg x m) = (R.F.take i).filter (inRg x m) ++ if inRg x m (R.F.getD i 0) = true then [R.F.getD i 0] else [] := by
          rw [take_succD hi, List.filter_append, List.filter_cons, List.filter_nil]
        obtain ⟨y, ey⟩ : ∃ y, y = R.F.getD i 0 := ⟨_, rfl⟩
        rw [← ey] at li htk
        by_cases y1 : (x : Int) ≤ y
        · have u1 : (y ≥ (x : Int)) = True := eq_true y1
          by_cases y2 : y < (x : Int) + w.lg
          · have u2 : (y < (x : Int) + w.lg) = True := eq_true y2
            rw [if_pos (by unfold inRg; exact decide_eq_true ⟨y1, by omega⟩)] at htk
            have hsp := @Nat.succ_ne_zero; repeat' (first | simp (disch := first | exact dschN51 | fail) only [go_sem, ↓reduceIte, hsp, r55, r9, q2, q3, q4, q5, q6, q7, q8, q53, q54, hlt, ai, li, g11, u1, u2] | refine WP_drw ?_ | refine cnd_intro (fun hsp => ?_) fun hsp => ?_)
            exact ⟨by (repeat first | exact Agree.refl | assumption | refine Agree.put rfl ?_ | refine Agree.put0 ?_ | refine Agree.sub rfl (by assumption) ?_), by omega, by rw [htk]; simp⟩
          · have u2 : (y < (x : Int) + w.lg) = False := eq_false y2
            rw [if_neg (by unfold inRg; rw [decide_eq_true_eq]; omega), List.append_nil] at htk
            have hsp := @Nat.succ_ne_zero; repeat' (first | simp (disch := first | exact dschN51 | fail) only [go_sem, ↓reduceIte, hsp, r55, r9, q2, q3, q4, q5, q6, q7, q8, q53, q54, hlt, ai, li, g11, u1, u2] | refine WP_drw ?_ | refine cnd_intro (fun hsp => ?_) fun hsp => ?_)
            exact ⟨by (repeat first | exact Agree.refl | assumption | refine Agree.put rfl ?_ | refine Agree.put0 ?_ | refine Agree.sub rfl (by assumption) ?_), by omega, by rw [htk]⟩
        · have u1 : (y ≥ (x : Int)) = False := eq_false y1
          rw [if_neg (by unfold inRg; rw [decide_eq_true_eq]; omega), List.append_nil] at htk
          have hsp := @Nat.succ_ne_zero; repeat' (first | simp (disch := first | exact dschN51 | fail) only [go_sem, ↓reduceIte, hsp, r55, r9, q2, q3, q4, q5, q6, q7, q8, q53, q54, hlt, ai, li, g11, u1] | refine WP_drw ?_ | refine cnd_intro (fun hsp => ?_) fun hsp => ?_)
          exact ⟨by (repeat first | exact Agree.refl | assumption | refine Agree.put rfl ?_ | refine Agree.put0 ?_ | refine Agree.sub rfl (by assumption) ?_), by omega, by rw [htk]⟩
      · rintro fr H hAg ⟨r55, rfl, r9⟩
        have q2 := hAg 2 rfl
        have q3 := hAg 3 rfl
        have q4 := hAg 4 rfl
        have q5 := hAg 5 rfl
        have q6 := hAg 6 rfl
        have q7 := hAg 7 rfl
        have q8 := hAg 8 rfl
        have q53 := hAg 53 rfl
        have q54 := hAg 54 rfl
        try simp (disch := first | exact dschN51 | fail) only [go_sem, ↓reduceIte] at q2 q3 q4 q5 q6 q7 q8 q53 q54
        have hlt : ((R.F.length : Int) < (R.F.length : Int)) = False := eq_false (by omega)
        rw [List.take_length, cnt_faults hR] at r9
        have hcl : 0 ≤ cntB (badF R) x m ∧ cntB (badF R) x m ≤ 12 := by
          rw [← cnt_faults hR]
          have := List.length_filter_le (inRg x m) R.F
          omega
        obtain ⟨n, ecn⟩ : ∃ n, n = cntB (badF R) x m := ⟨_, rfl⟩
        rw [← ecn] at r9 hcl
        have hmul : 0 ≤ n * w.off ∧ n * w.off ≤ 240 := ⟨Int.mul_nonneg hcl.1 hof.1, by
          have := Int.mul_le_mul hcl.2 hof.2 hof.1 (by omega : (0 : Int) ≤ 12)
          omega⟩
        have et : tknW R w x false = ((x : Int) + w.lg, max 0 (w.pr - n * w.off), decide ((x : Int) + w.lg ≤ R.L) && decide (n ≤ w.fl)) := by
          rw [tknW_f, ← em, ← ecn, Int.mul_comm]
        rw [et]
        by_cases y1 : (x : Int) + w.lg ≤ R.L
        · have u1 : ((x : Int) + w.lg ≤ R.L) = True := eq_true y1
          rw [decide_eq_true y1, Bool.true_and]
          have hsp := @Nat.succ_ne_zero; repeat' (first | simp (disch := first | exact dschN51 | fail) only [go_sem, ↓reduceIte, hsp, r55, r9, q2, q3, q4, q5, q6, q7, q8, q53, q54, hlt, gw, g01, u1] | refine WP_drw ?_ | refine cnd_intro (fun hsp => ?_) fun hsp => ?_)
          exact fin_pl rfl rfl xh
        · have u1 : ((x : Int) + w.lg ≤ R.L) = False := eq_false y1
          rw [decide_eq_false y1, Bool.false_and]
          have hsp := @Nat.succ_ne_zero; repeat' (first | simp (disch := first | exact dschN51 | fail) only [go_sem, ↓reduceIte, hsp, r55, r9, q2, q3, q4, q5, q6, q7, q8, q53, q54, hlt, gw, g01, u1] | refine WP_drw ?_ | refine cnd_intro (fun hsp => ?_) fun hsp => ?_)
          exact fin_pl rfl rfl xh
    | true =>
      have hsp := @Nat.succ_ne_zero; repeat' (first | simp (disch := first | exact dschN51 | fail) only [go_sem, ↓reduceIte, hsp, ← eG0, g0, g1, hn, t1, t2, t3, t4, a1, b1, st5, ← eG1, g01, g11, gw, hnf] | refine WP_drw ?_ | refine cnd_intro (fun hsp => ?_) fun hsp => ?_)
      refine WP_count [(4, 6), (12, 120)] x R.L.toNat (by omega) (fun _ u fr H => fr 12 = .int .i64 (u : Int) ∧ H = G1 ∧ ∃ o f, fr 13 = .int .i64 (f + gpI o u) ∧ fr 14 = .int .i64 (w.lg - o.length) ∧ Jn R w x u o f) ?_ ?_ ?_
      · refine ⟨by (simp (disch := first | exact dschN51 | fail) only [go_sem, ↓reduceIte, Int.natCast_zero]; first | done | rfl), rfl, [], 0, by simp (disch := first | exact dschN51 | fail) only [go_sem, ↓reduceIte]; rfl, by simp (disch := first | exact dschN51 | fail) only [go_sem, ↓reduceIte]; simp, ⟨UnK.start, rfl, fun _ => rfl, fun q => by omega, fun q => absurd rfl q, fun q => by simp at q; omega⟩⟩
      · rintro u fr H hu0 hu hAg ⟨r12, rfl, o, f, r13, r14, hj⟩
        have q2 := hAg 2 rfl
        have q3 := hAg 3 rfl
        have q7 := hAg 7 rfl
        try simp (disch := first | exact dschN51 | fail) only [go_sem, ↓reduceIte] at q2 q3 q7
        have hog := hj.k.g
        have hfb := hj.k.f
        have hol := hj.k.n
        have hgb : 0 ≤ gpI o u ∧ gpI o u ≤ 1 := by unfold gpI; split <;> omega
        by_cases y0 : (o.length : Int) < w.lg
        · have u0 : (w.lg - (o.length : Int) > 0) = True := eq_true (by omega)
          have u1 : ((u : Int) ≥ R.L) = False := eq_false (by omega)
          have hc1 := fun base => run_contains (base := base) (x := (u : Int)) iF
          have hc2 := fun base => run_contains (base := base) (x := (u : Int) - 1) iF
          rcases Bool.eq_false_or_eq_true (badF R u) with qb | qb
          · rw [show decide ((u : Int) ∈ R.F) = true from qb] at hc1
            by_cases y2 : u = x
            · have u2 : ((u : Int) = (x : Int)) = True := eq_true (by omega)
              have et : tknW R w x true = (0, 0, false) := by
                unfold tknW
                rw [if_pos rfl, if_neg]
                unfold okT
                rw [← y2, qb]; simp
              rw [et]
              have hsp := @Nat.succ_ne_zero; repeat' (first | simp (disch := first | exact dschN51 | fail) only [go_sem, ↓reduceIte, hsp, r12, r13, r14, q2, q3, q7, u0, g01, u1, hc1, Bool.not_true, g11, u2] | refine WP_drw ?_ | refine cnd_intro (fun hsp => ?_) fun hsp => ?_)
              exact fin_pl rfl rfl xh
            · have u2 : ((u : Int) = (x : Int)) = False := eq_false (by omega)
              obtain ⟨hj2, hg2, hg1⟩ := hj.bad hu y0 qb y2
              have ep : decide ((u : Int) - 1 ∈ R.F) = badF R (u - 1) := by unfold badF; rw [show ((u - 1 : Nat) : Int) = (u : Int) - 1 by omega]
              rw [ep] at hc2
              rcases Bool.eq_false_or_eq_true (badF R (u - 1)) with qp | qp
              · rw [qp] at hc2
                rw [qp, if_pos rfl] at hg1
                have hsp := @Nat.succ_ne_zero; repeat' (first | simp (disch := first | exact dschN51 | fail) only [go_sem, ↓reduceIte, hsp, r12, r13, r14, q2, q3, q7, u0, g01, u1, hc1, Bool.not_true, g11, u2, hc2] | refine WP_drw ?_ | refine cnd_intro (fun hsp => ?_) fun hsp => ?_)
                exact ⟨by (repeat first | exact Agree.refl | assumption | refine Agree.put rfl ?_ | refine Agree.put0 ?_ | refine Agree.sub rfl (by assumption) ?_), by omega, o, f, by rw [hg2, hg1], rfl, hj2⟩
              · rw [qp] at hc2
                rw [qp, if_neg (by simp)] at hg1
                have hsp := @Nat.succ_ne_zero; repeat' (first | simp (disch := first | exact dschN51 | fail) only [go_sem, ↓reduceIte, hsp, r12, r13, r14, q2, q3, q7, u0, g01, u1, hc1, Bool.not_true, g11, u2, hc2, Bool.not_false] | refine WP_drw ?_ | refine cnd_intro (fun hsp => ?_) fun hsp => ?_)
                exact ⟨by (repeat first | exact Agree.refl | assumption | refine Agree.put rfl ?_ | refine Agree.put0 ?_ | refine Agree.sub rfl (by assumption) ?_), by omega, o, f, by rw [hg2, hg1]; simp, rfl, hj2⟩
          · rw [show decide ((u : Int) ∈ R.F) = false from qb] at hc1
            obtain ⟨hj2, hg2⟩ := hj.good hu y0 qb
            have hsp := @Nat.succ_ne_zero; repeat' (first | simp (disch := first | exact dschN51 | fail) only [go_sem, ↓reduceIte, hsp, r12, r13, r14, q2, q3, q7, u0, g01, u1, hc1, Bool.not_false] | refine WP_drw ?_ | refine cnd_intro (fun hsp => ?_) fun hsp => ?_)
            exact ⟨by (repeat first | exact Agree.refl | assumption | refine Agree.put rfl ?_ | refine Agree.put0 ?_ | refine Agree.sub rfl (by assumption) ?_), by omega, _, _, by rw [hg2, Int.add_zero], by rw [show w.lg - (((o ++ [(u : Int)]).length : Nat) : Int) = w.lg - (o.length : Int) - 1 by rw [List.length_append, List.length_singleton]; omega], hj2⟩
        · have u0 : (w.lg - (o.length : Int) > 0) = False := eq_false (by omega)
          have hlg : (o.length : Int) = w.lg := by omega
          have hen := hj.en hlg
          have hun := hj.un
          have hno : ¬ (o.getD (o.length - 1) 0 < (u : Int) - 1) := by omega
          have hg0 : gpI o u = 0 := by unfold gpI gapB; rw [decide_eq_false hno, Bool.and_false, if_neg (by simp)]
          have huo : uniP R w x true = (o, f) := by
            rw [← hun]
            by_cases c : u < R.L.toNat
            · rw [unL_at c, if_neg (by omega)]
            · rw [show R.L.toNat - u = 0 by omega, unL]
          have hxu : x < u := by have := hj.k.n; omega
          have hok : okT R w x true = true := by unfold okT; rw [hj.hd hxu, huo, decide_eq_true hlg]; rfl
          have et : tknW R w x true = ((u : Int), max 0 (w.pr - w.off * f), decide (f ≤ w.jn)) := by
            unfold tknW; rw [if_pos rfl, if_pos hok, huo]; simp only; rw [hen]; congr 1; omega
          have hfb := hj.k.f
          have hol := hj.k.n
          have hmul : 0 ≤ w.off * f ∧ w.off * f ≤ 1200 := ⟨Int.mul_nonneg hof.1 hfb.1, by
            have := Int.mul_le_mul hof.2 (show f ≤ 60 by omega) hfb.1 (by omega : (0 : Int) ≤ 20)
            omega⟩
          have hmc : f * w.off = w.off * f := Int.mul_comm _ _
          rw [hg0, Int.add_zero] at r13
          rw [et]
          have hsp := @Nat.succ_ne_zero; repeat' (first | simp (disch := first | exact dschN51 | fail) only [go_sem, ↓reduceIte, hsp, r12, r13, r14, q2, q3, q7, u0, gw, hmc] | refine WP_drw ?_ | refine cnd_intro (fun hsp => ?_) fun hsp => ?_)
          exact fin_pl rfl rfl xh
      · rintro fr H hAg ⟨r12, rfl, o, f, r13, r14, hj⟩
        have q2 := hAg 2 rfl
        have q3 := hAg 3 rfl
        have q7 := hAg 7 rfl
        try simp (disch := first | exact dschN51 | fail) only [go_sem, ↓reduceIte] at q2 q3 q7
        have hog := hj.k.g
        have hfb := hj.k.f
        have hol := hj.k.n
        obtain ⟨u, eu⟩ : ∃ u, u = R.L.toNat := ⟨_, rfl⟩
        rw [← eu] at r12 r13 hj hol
        by_cases y0 : (o.length : Int) < w.lg
        · have u0 : (w.lg - (o.length : Int) > 0) = True := eq_true (by omega)
          have u1 : ((u : Int) ≥ R.L) = True := eq_true (by omega)
          have et : tknW R w x true = (0, 0, false) := by
            have hun := hj.un
            rw [show R.L.toNat - u = 0 by omega, unL] at hun
            unfold tknW
            rw [if_pos rfl, if_neg]
            unfold okT
            rw [← hun, decide_eq_false (by simp only; omega)]; simp
          rw [et]
          have hsp := @Nat.succ_ne_zero; repeat' (first | simp (disch := first | exact dschN51 | fail) only [go_sem, ↓reduceIte, hsp, r12, r13, r14, q2, q3, q7, u0, g01, u1] | refine WP_drw ?_ | refine cnd_intro (fun hsp => ?_) fun hsp => ?_)
          exact fin_pl rfl rfl xh
        · have u0 : (w.lg - (o.length : Int) > 0) = False := eq_false (by omega)
          have hlg : (o.length : Int) = w.lg := by omega
          have hen := hj.en hlg
          have hun := hj.un
          have hno : ¬ (o.getD (o.length - 1) 0 < (u : Int) - 1) := by omega
          have hg0 : gpI o u = 0 := by unfold gpI gapB; rw [decide_eq_false hno, Bool.and_false, if_neg (by simp)]
          have huo : uniP R w x true = (o, f) := by
            rw [← hun]
            by_cases c : u < R.L.toNat
            · rw [unL_at c, if_neg (by omega)]
            · rw [show R.L.toNat - u = 0 by omega, unL]
          have hxu : x < u := by have := hj.k.n; omega
          have hok : okT R w x true = true := by unfold okT; rw [hj.hd hxu, huo, decide_eq_true hlg]; rfl
          have et : tknW R w x true = ((u : Int), max 0 (w.pr - w.off * f), decide (f ≤ w.jn)) := by
            unfold tknW; rw [if_pos rfl, if_pos hok, huo]; simp only; rw [hen]; congr 1; omega
          have hfb := hj.k.f
          have hol := hj.k.n
          have hmul : 0 ≤ w.off * f ∧ w.off * f ≤ 1200 := ⟨Int.mul_nonneg hof.1 hfb.1, by
            have := Int.mul_le_mul hof.2 (show f ≤ 60 by omega) hfb.1 (by omega : (0 : Int) ≤ 20)
            omega⟩
          have hmc : f * w.off = w.off * f := Int.mul_comm _ _
          rw [hg0, Int.add_zero] at r13
          rw [et]
          have hsp := @Nat.succ_ne_zero; repeat' (first | simp (disch := first | exact dschN51 | fail) only [go_sem, ↓reduceIte, hsp, r12, r13, r14, q2, q3, q7, u0, gw, hmc] | refine WP_drw ?_ | refine cnd_intro (fun hsp => ?_) fun hsp => ?_)
          exact fin_pl rfl rfl xh
  · have e0 : tknR R ⟨cw, cf, cj⟩ = (0, 0, false) := by unfold tknR; rw [if_neg ct]
    rw [e0]
    by_cases y1 : cw < 0
    · have t1 : (cw < 0) = True := eq_true y1
      have hsp := @Nat.succ_ne_zero; repeat' (first | simp (disch := first | exact dschN51 | fail) only [go_sem, ↓reduceIte, hsp, ← eG0, g0, g1, hn, t1] | refine WP_drw ?_ | refine cnd_intro (fun hsp => ?_) fun hsp => ?_)
      exact fin_pl rfl rfl x0
    · have t1 : (cw < 0) = False := eq_false y1
      by_cases y2 : cw ≥ (R.W.length : Int)
      · have t2 : (cw ≥ (R.W.length : Int)) = True := eq_true y2
        have hsp := @Nat.succ_ne_zero; repeat' (first | simp (disch := first | exact dschN51 | fail) only [go_sem, ↓reduceIte, hsp, ← eG0, g0, g1, hn, t1, t2] | refine WP_drw ?_ | refine cnd_intro (fun hsp => ?_) fun hsp => ?_)
        exact fin_pl rfl rfl x0
      · have t2 : (cw ≥ (R.W.length : Int)) = False := eq_false y2
        by_cases y3 : cf < 0
        · have t3 : (cf < 0) = True := eq_true y3
          have hsp := @Nat.succ_ne_zero; repeat' (first | simp (disch := first | exact dschN51 | fail) only [go_sem, ↓reduceIte, hsp, ← eG0, g0, g1, hn, t1, t2, t3] | refine WP_drw ?_ | refine cnd_intro (fun hsp => ?_) fun hsp => ?_)
          exact fin_pl rfl rfl x0
        · have t3 : (cf < 0) = False := eq_false y3
          have t4 : (cf ≥ R.L) = True := eq_true (by omega)
          have hsp := @Nat.succ_ne_zero; repeat' (first | simp (disch := first | exact dschN51 | fail) only [go_sem, ↓reduceIte, hsp, ← eG0, g0, g1, hn, t1, t2, t3, t4] | refine WP_drw ?_ | refine cnd_intro (fun hsp => ?_) fun hsp => ?_)
          exact fin_pl rfl rfl x0
end Go.AM
/-
  The law's own reckoning of a plan (earned).
-/
namespace Go.AM
open Go.Proofs.Try
attribute [-go_sem] put_ne put_same
attribute [local go_sem ↓] put_if
/-- One cut of a plan, as the law reckons it. -/
theorem pln_step {R : Rib} (hR : RibOk R) {c : Ct} {l : List Ct} {a s : Int} :
    ((tknR R c).2.2 = true → c.f ≥ a → plnL R (c :: l) a s = plnL R l (tknR R c).1 (s + (tknR R c).2.1) ∧ (0 ≤ (tknR R c).2.1 ∧ (tknR R c).2.1 ≤ 100) ∧ 0 ≤ (tknR R c).1 ∧ (tknR R c).1 ≤ R.L ∧ (tknR R c).1 > c.f) ∧
    (((tknR R c).2.2 = false ∨ c.f < a) → (plnL R (c :: l) a s).2 ≠ 0) := by
  rw [plnL]
  unfold tknR
  by_cases ct : (0 ≤ c.w ∧ c.w ≤ (R.W.length : Int) - 1) ∧ (0 ≤ c.f ∧ c.f ≤ R.L - 1)
  · rw [if_pos ct, if_neg (fun q => q ct)]
    have hw : R.W[c.w.toNat]? = some (R.W[c.w.toNat]'(by omega)) := List.getElem?_eq_getElem (by omega)
    generalize R.W[c.w.toNat]'(by omega) = w at hw
    have hx : c.f.toNat < R.L.toNat := by omega
    have hwo := hR.W w (List.mem_of_getElem? hw)
    have ht := tknW_is (j := c.j) hwo hx
    have etc : takC R c = takL R w c.f.toNat c.j := by unfold takC; rw [hw]
    rw [hw, etc]
    simp only
    obtain ⟨r, er⟩ : ∃ r, r = tknW R w c.f.toNat c.j := ⟨_, rfl⟩
    rw [← er] at ht ⊢
    obtain ⟨e, p, ok⟩ := r
    simp only at ht ⊢
    cases ok with
    | true =>
      rw [if_pos rfl] at ht
      have hb := takL_b hR hwo hx ht
      rw [ht]
      simp only
      constructor
      · intro _ h2
        rw [if_neg (by omega)]
        exact ⟨rfl, ⟨hb.2.2.1, hb.2.2.2.1⟩, by omega, by omega, by omega⟩
      · rintro (q | q)
        · simp at q
        · rw [if_pos q]; simp
    | false =>
      rw [if_neg (by simp)] at ht
      rw [ht]
      exact ⟨fun q => by simp at q, fun _ => by simp⟩
  · rw [if_neg ct, if_pos ct]
    exact ⟨fun q => by simp at q, fun _ => by simp⟩
end Go.AM
/-
  (The heap behind a spool that was turned, own rows: G1.)
-/
