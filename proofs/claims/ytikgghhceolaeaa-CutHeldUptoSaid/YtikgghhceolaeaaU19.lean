/-
  Contracts: the chapter's example is as it should be (Ten, awake).
-/
import Derived.Test.YtikgghhceolaeaaU18
import Derived.Test.YtikgghhceolaeaaU12
import Derived.Test.YtikgghhceolaeaaU10
import Derived.Test.YtikgghhceolaeaaU9
set_option linter.unusedSimpArgs false
set_option linter.unusedVariables false
namespace Go.AM
open Go.Proofs.Try
theorem dschN22 {p : Prop} (h : p := by first | exact Nat.ne_of_beq_eq_false rfl | assumption | (apply asOne; (first | exact One.int | exact One.bool | assumption | exact Ints.one (by assumption) | exact Rows.one (by assumption) | exact Own.one (by assumption) | exact One.lit ⟨rfl, rfl, rfl⟩)) | (apply asInts; (repeat first | assumption | exact ints_nil | apply Ints.app); done) | (apply asRows; (repeat first | assumption | exact Rows.nil | apply Rows.app); done) | (apply asScal; (first | apply allS1 | apply allS2 | apply allS3 | apply allS4) <;> (first | exact One.int | exact One.bool | assumption | exact Ints.one (by assumption) | exact Rows.one (by assumption) | exact Own.one (by assumption) | exact One.lit ⟨rfl, rfl, rfl⟩)) | exact litT rfl | exact litF rfl | omega | (simp only [List.length_append, List.length_cons, List.length_nil, List.length_set, List.length_reverse]; first | done | omega) | fail) : p := h
attribute [-go_sem] put_ne put_same
attribute [local go_sem ↓] put_if
theorem bs2I {lit : Bool} {H : Heap} {a b : Int} (hl : lit = false) : bsA prog lit H 22 2 [(0, .int .i64 a), (1, .int .i64 b)] = some (.slice (some ⟨H.length, 0, 0⟩) 2 2, H ++ [rowB [a, b] 0]) := by
  subst hl; simp [bsA, rowOf, Fc.el22, fillA, repCells, AVal.isN, AVal.cells, splice, rowB, ints]
theorem bs2W {lit : Bool} {H : Heap} {a b : Wnt} : bsA prog lit H 23 2 [(0, .agg [.int .i64 a.lg, .int .i64 a.pr, .int .i64 a.off, .int .i64 a.fl, .int .i64 a.jn]), (1, .agg [.int .i64 b.lg, .int .i64 b.pr, .int .i64 b.off, .int .i64 b.fl, .int .i64 b.jn])] = some (.slice (some ⟨H.length, 0, 0⟩) 2 2, H ++ [rowE encW 49 [a, b] 0]) := by
  simp [bsA, rowOf, Fc.el23, fillA, repCells, AVal.isN, AVal.cells, splice, rowE, flat, encW]
theorem bs2C {lit : Bool} {H : Heap} {a b : Ct} : bsA prog lit H 43 2 [(0, .agg [.int .i64 a.w, .int .i64 a.f, .bool a.j]), (1, .agg [.int .i64 b.w, .int .i64 b.f, .bool b.j])] = some (.slice (some ⟨H.length, 0, 0⟩) 2 2, H ++ [rowE encC 58 [a, b] 0]) := by
  simp [bsA, rowOf, Fc.el43, fillA, repCells, AVal.isN, AVal.cells, splice, rowE, flat, encC]
theorem bs2S {lit : Bool} {H : Heap} {a b : Int × Int} : bsA prog lit H 59 2 [(0, .agg [.int .i64 a.1, .int .i64 a.2]), (1, .agg [.int .i64 b.1, .int .i64 b.2])] = some (.slice (some ⟨H.length, 0, 0⟩) 2 2, H ++ [rowE encS 69 [a, b] 0]) := by
  simp [bsA, rowOf, Fc.el59, fillA, repCells, AVal.isN, AVal.cells, splice, rowE, flat, encS]
theorem app_non {base id : Nat} {H : Heap} {l : List Int} {n : Nat} (hg : H[id]? = some (rowB l 0)) (hn : n = l.length) : appendA prog base H 22 (.slice (some ⟨id, 0, 0⟩) n n) (.slice none 0 0) = some (.slice (some ⟨id, 0, 0⟩) n n, H) := by
  subst hn
  have hst : storeN base H (ARef.add ⟨id, 0, 0⟩ l.length) [] = some H := by
    unfold storeN
    simp only [ARef.add, hg, rowB]
    rw [if_pos ⟨trivial, by simp [ints_length], rfl, .inr rfl⟩]
    simp only [splice]
    rw [show (⟨.cells (ints l) 3 true false, 0⟩ : ABlk) = rowB l 0 from rfl, set_id hg]
  simp [appendA, Fc.el22, lenA, firstN, hst]
theorem run_Ten {base : Nat} {h : Heap} (hb : base ≤ h.length) : Ret prog raw base (.fn 80 [] []) [.slice none 0 0] h (fun w H => Ext h H ∧ RibAt H w tenR) := by
  obtain ⟨G, eG⟩ : ∃ G, G = h ++ [ribB 0 (.slice none 0 0) (.slice none 0 0)] := ⟨_, rfl⟩
  have xG : Ext h G := by rw [eG]; exact .app .refl
  have gG : G[h.length]? = some (ribB 0 (.slice none 0 0) (.slice none 0 0)) := by rw [eG]; exact get_eq rfl
  have lG : G.length = h.length + 1 := by rw [eG]; simp
  obtain ⟨H1, eH1⟩ : ∃ H1, H1 = G ++ [rowB [3, 5] 0] := ⟨_, rfl⟩
  have x1 : Ext G H1 := by rw [eH1]; exact .app .refl
  have g1 : H1[G.length]? = some (rowB [3, 5] 0) := by rw [eH1]; exact get_eq rfl
  have l1 : H1.length = h.length + 2 := by rw [eH1]; simp [lG]
  obtain ⟨H2, eH2⟩ : ∃ H2, H2 = H1 ++ [rowE encW 49 [⟨4, 10, 3, 1, 1⟩, ⟨3, 6, 1, 0, 2⟩] 0] := ⟨_, rfl⟩
  have x2 : Ext H1 H2 := by rw [eH2]; exact .app .refl
  have g2 : H2[H1.length]? = some (rowE encW 49 [⟨4, 10, 3, 1, 1⟩, ⟨3, 6, 1, 0, 2⟩] 0) := by rw [eH2]; exact get_eq rfl
  have l2 : H2.length = h.length + 3 := by rw [eH2]; simp [l1]
  have g02 := (x1.trans x2).get gG
  have b1 := fun lit (hl : lit = false) => bs2I (lit := lit) (H := G) (a := 3) (b := 5) hl
  rw [← eH1] at b1
  have b2 := fun lit => bs2W (lit := lit) (H := H1) (a := ⟨4, 10, 3, 1, 1⟩) (b := ⟨3, 6, 1, 0, 2⟩)
  rw [← eH2] at b2
  have ap := app_non (base := base) (id := G.length) (n := 2) (H := H1) g1 rfl
  unfold ribB at eG gG g02
  refine ret_raw func80 rfl (by kernel_rfl) ?_
  have hsp := @Nat.succ_ne_zero; repeat' (first | simp (disch := first | exact dschN22 | fail) only [go_sem, ↓reduceIte, hsp, ← eG, b1, ap, b2, g02] | refine WP_drw ?_ | refine cnd_intro (fun hsp => ?_) fun hsp => ?_)
  have xf : Ext h (H2.set h.length (ribB 10 (.slice (some ⟨G.length, 0, 0⟩) 2 2) (.slice (some ⟨H1.length, 0, 0⟩) 2 2))) := Ext.set ((xG.trans x1).trans x2) (Nat.le_refl _)
  refine ⟨xf, _, _, rfl, ints_rowB (l := [3, 5]) ?_ ⟨by simp, fun y hy => ?_⟩ rfl, Rows.own (l := ([⟨4, 10, 3, 1, 1⟩, ⟨3, 6, 1, 0, 2⟩] : List Wnt)) (e := 49) ?_ rfl (by simp)⟩
  · rw [List.getElem?_set_ne (by omega)]; exact x2.get g1
  · simp at hy; omega
  · rw [List.getElem?_set_ne (by omega)]; exact g2
set_option maxRecDepth 100000 in
set_option maxHeartbeats 4000000 in
theorem run_awake {base : Nat} {h : Heap} : callL prog raw base (.fn 16 [] []) [] h = some (.bool true, h) := by
  have hsm : tenR.F.length ≤ 1048576 := by decide
  obtain ⟨v1, A1, e1, x1, T1⟩ := run_Ten (base := h.length) (h := h) (Nat.le_refl _)
  have k1 := fun base => run_Take (base := base) (c := ⟨0, 0, true⟩) T1 hsm
  rw [ten_t1] at k1
  have l1 := x1.len
  obtain ⟨v2, A2, e2, x2, T2⟩ := run_Ten (base := h.length) (h := A1) l1
  have k2 := fun base => run_Take (base := base) (c := ⟨0, 2, false⟩) T2 hsm
  rw [ten_t2] at k2
  have l2 := x2.len
  obtain ⟨v3, A3, e3, x3, T3⟩ := run_Ten (base := h.length) (h := A2) (by omega)
  have l3 := x3.len
  obtain ⟨w3, B3, f3, y3, u3, rfl, O3⟩ := run_Best (base := h.length) (by omega) T3 hsm
  have m3 := y3.len
  obtain ⟨v4, A4, e4, x4, T4⟩ := run_Ten (base := h.length) (h := B3) (by omega)
  have l4 := x4.len
  obtain ⟨w4, B4, f4, y4, u4, rfl, O4⟩ := run_Made (base := h.length) (by omega) T4 hsm
  have m4 := y4.len
  obtain ⟨v5, A5, e5, x5, T5⟩ := run_Ten (base := h.length) (h := B4) (by omega)
  have l5 := x5.len
  obtain ⟨A5', eA5⟩ : ∃ A5', A5' = A5 ++ [rowE encC 58 [⟨0, 0, true⟩, ⟨0, 6, false⟩] 0] := ⟨_, rfl⟩
  have x5' : Ext A5 A5' := by rw [eA5]; exact .app .refl
  have P5 : Rows encC A5' (.slice (some ⟨A5.length, 0, 0⟩) 2 2) [⟨0, 0, true⟩, ⟨0, 6, false⟩] := Rows.own (by rw [eA5]; exact get_eq rfl) rfl (by simp)
  have l5' := x5'.len
  have bs5 := fun lit => bs2C (lit := lit) (H := A5) (a := ⟨0, 0, true⟩) (b := ⟨0, 6, false⟩)
  rw [← eA5] at bs5
  obtain ⟨w5, B5, f5, y5, u5, rfl, O5⟩ := run_Rest (base := h.length) (by omega) (T5.ext x5') hsm P5
  rw [ten_rst] at f5 O5
  have m5 := y5.len
  obtain ⟨v6, A6, e6, x6, T6⟩ := run_Ten (base := h.length) (h := B5) (by omega)
  have l6 := x6.len
  obtain ⟨w6, B6, f6, y6, u6, rfl, O6⟩ := run_Used (base := h.length) (by omega) T6 hsm
  rw [ten_usd] at O6
  have m6 := y6.len
  obtain ⟨v7, A7, e7, x7, T7⟩ := run_Ten (base := h.length) (h := B6) (by omega)
  have k7 := fun base => run_Raise (base := base) (want := 1) T7 hsm
  rw [ten_rse] at k7
  have l7 := x7.len
  obtain ⟨v8, A8, e8, x8, T8⟩ := run_Ten (base := h.length) (h := A7) (by omega)
  have k8 := fun base => run_Damage (base := base) (u := 8) T8 hsm (by omega)
  rw [ten_dmg] at k8
  have l8 := x8.len
  obtain ⟨v9, A9, e9, x9, T9⟩ := run_Ten (base := h.length) (h := A8) (by omega)
  have k9 := fun base => run_Mended (base := base) (u := 3) T9 hsm
  rw [ten_men] at k9
  rw [ten_chk, ten_all] at f3
  rw [ten_chk] at f4 f6
  simp only at k1 k2 k7 k8 k9 f5
  have z4 := x4.trans y4
  have n3 := own_len (O3.ext z4) Fc.el43 (by rw [ten_bst]; decide)
  rw [ten_bst] at n3
  have I4 := ownE_ints O4 (by unfold madE; rw [if_neg (by simp [ten_chk])]; exact val_small ten_ok (by decide))
  have n4 := lenI I4
  have a40 := adrI (i := 0) (by omega) I4 (by rw [ten_madl]; omega)
  have a46 := adrI (i := 6) (by omega) I4 (by rw [ten_madl]; omega)
  have a47 := adrI (i := 7) (by omega) I4 (by rw [ten_madl]; omega)
  have d40 := loadI I4 (i := 0) (by rw [ten_madl]; omega)
  have d46 := loadI I4 (i := 6) (by rw [ten_madl]; omega)
  have d47 := loadI I4 (i := 7) (by rw [ten_madl]; omega)
  rw [ten_madl] at n4
  rw [ten_mad0] at d40
  rw [ten_mad6] at d46
  rw [ten_mad7] at d47
  have z69 : Ext B6 A9 := (x7.trans x8).trans x9
  have z59 : Ext B5 A9 := (x6.trans y6).trans z69
  have l9 := x9.len
  obtain ⟨C1, eC1⟩ : ∃ C1, C1 = A9 ++ [rowE encS 69 [(3, 3), (5, 5)] 0] := ⟨_, rfl⟩
  have xc1 : Ext A9 C1 := by rw [eC1]; exact .app .refl
  have bs6 := fun lit => bs2S (lit := lit) (H := A9) (a := (3, 3)) (b := (5, 5))
  rw [← eC1] at bs6
  simp only at bs6
  have q5 := fun base => run_eqS (base := base) ((O5.rows (by simp)).ext (z59.trans xc1)) (Rows.own (E := encS) (e := 69) (id := A9.length) (ver := 0) (n := 2) (l := [(3, 3), (5, 5)]) (by rw [eC1]; exact get_eq rfl) rfl (by simp)) (by simp)
  obtain ⟨C2, eC2⟩ : ∃ C2, C2 = C1 ++ [rowB [0] 0] := ⟨_, rfl⟩
  have xc2 : Ext C1 C2 := by rw [eC2]; exact .app .refl
  have s0 : Small [(0 : Int)] := ⟨by simp, fun y hy => by simp at hy; omega⟩
  have I6 := own_ints (O6.ext ((z69.trans xc1).trans xc2)) s0
  have I6' : Ints C2 (.slice (some ⟨C1.length, 0, 0⟩) 1 1) [0] := ints_rowB (by rw [eC2]; exact get_eq rfl) s0 rfl
  have q6 := fun base => run_eqI (base := base) I6 I6'
  have o3 := O3.one
  have o4 := O4.one
  have o5 := O5.one
  have o6 := O6.one
  have xf : Ext h C2 := (((((((x1.trans x2).trans x3).trans y3).trans z4).trans x5).trans x5').trans y5).trans ((z59.trans xc1).trans xc2)
  refine callL_run func16 rfl rfl ?_
  have hsp := @Nat.succ_ne_zero; repeat' (first | simp (disch := first | exact dschN22 | fail) only [go_sem, ↓reduceIte, hsp, e1, k1, e2, k2, e3, f3, e4, f4, n3, n4, a40, a46, a47, d40, d46, d47, e5, bs5, f5, e6, f6, e7, k7, e8, k8, e9, k9, bs6, ← eC1, q5, ← eC2, q6, decide_true] | refine WP_drw ?_ | refine cnd_intro (fun hsp => ?_) fun hsp => ?_)
  exact fB rfl xf
end Go.AM
/-
  The reference: all cuts from a unit (All); a ribbon as the reference has it (theirs); copies.
-/
namespace Go.AM
open Go.Proofs.Try
attribute [-go_sem] put_ne put_same
attribute [local go_sem ↓] put_if
end Go.AM
/-
  The reference: a ribbon as the reference has it (theirs); cuts as the reference has them (cuts).
-/
namespace Go.AM
open Go.Proofs.Try
attribute [-go_sem] put_ne put_same
attribute [local go_sem ↓] put_if
end Go.AM
/-
  The reference: all cuts from a unit (All).
-/
namespace Go.AM
open Go.Proofs.Try
attribute [-go_sem] put_ne put_same
attribute [local go_sem ↓] put_if
theorem cutO_ev {R : Rib} {x k : Nat} {w : Wnt} (hw : R.W[k]? = some w) : cutO R x (2 * k) = (takL R w x false).map fun e => (⟨(k : Int), (x : Int), false⟩, e) := by
  unfold cutO
  rw [show (2 * k) / 2 = k by omega, hw, show decide ((2 * k) % 2 = 1) = false from decide_eq_false (by omega)]
theorem cutO_od {R : Rib} {x k : Nat} {w : Wnt} (hw : R.W[k]? = some w) : cutO R x (2 * k + 1) = (takL R w x true).map fun e => (⟨(k : Int), (x : Int), true⟩, e) := by
  unfold cutO
  rw [show (2 * k + 1) / 2 = k by omega, hw, show decide ((2 * k + 1) % 2 = 1) = true from decide_eq_true (by omega)]
end Go.AM
/-
  The reference: what a plan earns (Plan).
-/
namespace Go.AM
open Go.Proofs.Try
attribute [-go_sem] put_ne put_same
attribute [local go_sem ↓] put_if
section
variable {h : Heap} {pv : AVal} {P : List Ct} {i : Nat} {c : Ct}
end
end Go.AM
/-
  Marks; the units that are left over, as the reference tells them: run by run.
-/
namespace Go.AM
open Go.Proofs.Try
attribute [-go_sem] put_ne put_same
attribute [local go_sem ↓] put_if
def encO : Enc Bool := ⟨1, fun b => [.bool b], fun _ => rfl, by decide⟩
def mrk (n : Nat) (S : List Int) : List Bool := (List.range n).map fun k : Nat => decide ((k : Int) ∈ S)
abbrev mkB (n : Nat) (S : List Int) : ABlk := rowE encO 4 (mrk n S) 0
/-- How far the reference's list reaches. -/
structure Rch (t : List Int) (n u m : Nat) : Prop where
  le : u ≤ m ∧ m ≤ n
  fr : ∀ y : Nat, u ≤ y → y < m → (y : Int) ∉ t
  pr : u < m → 0 < u ∧ (u : Int) - 1 ∉ t
  ed : m < n → (m : Int) ∈ t ∨ (m = u ∧ (u = 0 ∨ (u : Int) - 1 ∈ t))
end Go.AM
/-
  The reference: the units that no cut takes (Rest).
-/
namespace Go.AM
open Go.Proofs.Try
attribute [-go_sem] put_ne put_same
attribute [local go_sem ↓] put_if
end Go.AM
/-
  Plain: what is earned at most and with how few cuts, forwards, in two rows.
-/
namespace Go.AM
def upS (s : List Int × List Int) (y : Nat) (a c : Int) : List Int × List Int := if thB true (a, c) (s.1.getD y 0, s.2.getD y 0) = true then (s.1.set y a, s.2.set y c) else s
def upC (x : Nat) (t : List Int × List Int) (c : Ct × Int × Int) : List Int × List Int := upS t c.2.1.toNat (t.1.getD x 0 + c.2.2) (t.2.getD x 0 + 1)
def upX (R : Rib) (x : Nat) (s : List Int × List Int) : List Int × List Int := (cutL R x).foldl (upC x) (upS s (x + 1) (s.1.getD x 0) (s.2.getD x 0))
def upN (R : Rib) (f : Nat) : Nat → List Int × List Int
  | 0 => (List.replicate (R.L.toNat + 1) 0, List.replicate (R.L.toNat + 1) 0)
  | n + 1 => upX R (f + n) (upN R f n)
/-- What is known of the rows. -/
structure UpK (n : Nat) (s : List Int × List Int) : Prop where
  l1 : s.1.length = n + 1
  l2 : s.2.length = n + 1
  b1 : ∀ y : Nat, 0 ≤ s.1.getD y 0 ∧ s.1.getD y 0 ≤ 100 * (y : Int)
  b2 : ∀ y : Nat, 0 ≤ s.2.getD y 0 ∧ s.2.getD y 0 ≤ (y : Int)
def keyS (s : List Int × List Int) : Nat → Int := fun i => key true (s.1.getD i 0, s.2.getD i 0)
theorem getD_setD {l : List Int} {i j : Nat} {a : Int} (hj : j < l.length) : (l.set j a).getD i 0 = if i = j then a else l.getD i 0 := by
  simp only [List.getD_eq_getElem?_getD, List.getElem?_set]
  by_cases e : i = j
  · subst e; rw [if_pos rfl, if_pos hj, if_pos rfl]; rfl
  · rw [if_neg (fun q => e q.symm), if_neg e]
section
variable {R : Rib} {x : Nat}
end
end Go.AM
/-
  The reference: what is earned at most, and with how few cuts, forwards (Up).
-/
namespace Go.AM
open Go.Proofs.Try
attribute [-go_sem] put_ne put_same
attribute [local go_sem ↓] put_if
end Go.AM
/-
  The reference: what is earned at most (Earned); wide.
-/
namespace Go.AM
open Go.Proofs.Try
attribute [-go_sem] put_ne put_same
attribute [local go_sem ↓] put_if
end Go.AM
/-
  Arguments that came in, slices of structs that hold slices among them: rows of memory whose cells stand for each other.
-/
namespace Go.AM
open Go.Proofs.Try Go.RowKit Go.ChangeShapes Go.WideShapes Go.ChangeAt
open Go.Proofs.Ytikgghhceolaeaa (Rows.uptoSmall Rows.uptoBulkAll Rows.uptoBulk)
set_option maxRecDepth 100000
def Rw.okG (μ : Mu) (w : World) (r : Rw) : Prop := ∃ (C : Array Value) (T : TypeId) (fz : Nat × Nat), w.heap[r.blk]? = some (.cells C T fz) ∧ r.off + r.cs.length ≤ C.size ∧
  ∀ (i : Nat) (x : AVal) (y : Value), r.cs[i]? = some x → C[r.off + i]? = some y → VR μ x y
/-- All rows stand. -/
def RsOk (w : World) (R : List Rw) : Prop := ∀ r ∈ R, r.okG (muR R) w
/-- What came in can be opened behind any rows: cells, and what holds of them. -/
def Opens (W : World) (cs : List Value) (Q : Heap → List AVal → Prop) : Prop := ∀ R, RsOk W R → ∃ S vs, RsOk W (R ++ S) ∧ VRs (muR (R ++ S)) vs cs ∧ Q (heapR (R ++ S)) vs
/-- .. one value. -/
def OpensV (W : World) (V : Value) (Q : Heap → AVal → Prop) : Prop := ∀ R, RsOk W R → ∃ S v, RsOk W (R ++ S) ∧ VR (muR (R ++ S)) v V ∧ Q (heapR (R ++ S)) v
/-! ### Bulk -/
/-! ### Slices -/
end Go.AM
/-
  CutRibbons, walked.
-/
namespace Go.AM
open Go.Proofs.Try
attribute [-go_sem] put_ne put_same
attribute [local go_sem ↓] put_if
/-- A ribbon that came in, its slices no longer than these. -/
def RibN (N : Nat) (H : Heap) (v : AVal) : Prop := ∃ R, RibAt H v R ∧ R.F.length ≤ N ∧ R.W.length ≤ N
def CutV (_ : Heap) (v : AVal) : Prop := ∃ c : Ct, v = .agg [.int .i64 c.w, .int .i64 c.f, .bool c.j]
def IntV (_ : Heap) (v : AVal) : Prop := ∃ n : Int, v = .int .i64 n
end Go.AM
/-
  Arguments that came in: ribbons, cuts, lists of numbers.
-/
namespace Go.AM
open Go.Proofs.Try Go.RowKit Go.ChangeShapes Go.WideShapes Go.ChangeAt
open Go.Proofs.Ytikgghhceolaeaa (Rows.uptoSmall Rows.uptoBulkAll Rows.uptoBulk)
set_option maxRecDepth 100000
def IntsN (N : Nat) (H : Heap) (v : AVal) : Prop := ∃ l, Ints H v l ∧ l.length ≤ N
def CtsN (N : Nat) (H : Heap) (v : AVal) : Prop := ∃ l, Rows encC H v l ∧ l.length ≤ N
section
variable {H : Type} {enc : TypeId × Value → H} {W : World} {n N : Nat}
end
end Go.AM
/-
  CutMost, walked.
-/
namespace Go.AM
open Go.Proofs.Try
attribute [-go_sem] put_ne put_same
attribute [local go_sem ↓] put_if
end Go.AM
/-
  Contracts: arrays that are compared; a ribbon without one want (without).
-/
namespace Go.AM
open Go.Proofs.Try
attribute [-go_sem] put_ne put_same
attribute [local go_sem ↓] put_if
/-! ### Arrays -/
/-! ### Wants -/
section
variable {base id : Nat} {h : Heap} {m : List Wnt}
abbrev wB (m : List Wnt) : ABlk := rowE encW 49 m 0
def wnt0 : Wnt := ⟨0, 0, 0, 0, 0⟩
end
end Go.AM
/-
  Contracts: the wants without which less is earned (Needed).
-/
namespace Go.AM
open Go.Proofs.Try
attribute [-go_sem] put_ne put_same
attribute [local go_sem ↓] put_if
def nedE (R : Rib) : List Int := if chkR R ≠ 0 then [] else nedL R
def nedN (R : Rib) (n : Nat) : List Int := (upto n).filter fun k => decide (valD (witR R k.toNat) 0 < valD R 0)
end Go.AM
/-
  Contracts: whether values hold (holds).
-/
namespace Go.AM
open Go.Proofs.Try
theorem dschN40 {p : Prop} (h : p := by first | exact Nat.ne_of_beq_eq_false rfl | assumption | (apply asOne; (first | exact One.int | exact One.bool | assumption | exact Ints.one (by assumption) | exact Rows.one (by assumption) | exact Own.one (by assumption) | exact One.lit ⟨rfl, rfl, rfl⟩)) | (apply asInts; (repeat first | assumption | exact ints_nil | apply Ints.app); done) | (apply asRows; (repeat first | assumption | exact Rows.nil | apply Rows.app); done) | (apply asScal; (first | apply allS1 | apply allS2 | apply allS3 | apply allS4) <;> (first | exact One.int | exact One.bool | assumption | exact Ints.one (by assumption) | exact Rows.one (by assumption) | exact Own.one (by assumption) | exact One.lit ⟨rfl, rfl, rfl⟩)) | exact litT rfl | exact litF rfl | omega | (simp only [List.length_append, List.length_cons, List.length_nil, List.length_set, List.length_reverse]; first | done | omega) | fail) : p := h
attribute [-go_sem] put_ne put_same
attribute [local go_sem ↓] put_if
/-- No choice earns more than is said. -/
structure Hld (R : Rib) (V : List Int) : Prop where
  up : ∀ x, x < R.L.toNat → V.getD (x + 1) 0 ≤ V.getD x 0
  cut : ∀ x, x < R.L.toNat → ∀ c ∈ cutL R x, c.2.2 + V.getD c.2.1.toNat 0 ≤ V.getD x 0
  fin : 0 ≤ V.getD R.L.toNat 0
abbrev boB (b : Bool) : ABlk := ⟨.cells [.bool b] 4 false false, 0⟩
set_option maxRecDepth 100000 in
set_option maxHeartbeats 4000000 in
theorem run_holds {base id : Nat} {h : Heap} {R : Rib} {V : List Int} {b : Bool} (hD : DskAt h id R) (hR : RibOk R) (hV : V.length = 61) (hvb : ∀ y, -10000 ≤ V.getD y 0 ∧ V.getD y 0 ≤ 10000) (hb : b = true ↔ Hld R V) :
    callL prog raw base (.fn 122 [] []) [.ptr (some ⟨id, 0, 0⟩), .agg (ints V)] h = some (.bool b, h) := by
  have hDe := fun H (e : Ext h H) => hD.ext e
  obtain ⟨fv, wv, gd, hF, hW⟩ := hD
  have hL := hR.L
  have lid := lt_of_get gd
  have dL := fun z => dsk_ld0 (L := R.L) (fv := fv) (wv := wv) (F := R.F) (z := z)
  obtain ⟨G, eG⟩ : ∃ G, G = h ++ [valBk V] ++ [boB false] := ⟨_, rfl⟩
  have xG : Ext h G := by rw [eG]; exact .app (.app .refl)
  have g0 : G[h.length]? = some (valBk V) := by rw [eG]; exact get_app (get_eq rfl)
  have g1 : G[h.length + 1]? = some (boB false) := by rw [eG]; exact get_eq (by simp)
  have lG : G.length = h.length + 2 := by rw [eG]; simp
  have gdG := xG.get gd
  unfold valBk boB at eG
  refine callL_run func122 rfl rfl ?_
  have hsp := @Nat.succ_ne_zero; repeat' (first | simp (disch := first | exact dschN40 | fail) only [go_sem, ↓reduceIte, hsp, gd, dL, ← eG, gdG] | refine WP_drw ?_ | refine cnd_intro (fun hsp => ?_) fun hsp => ?_)
  refine WP_count [(5, 7), (13, 26), (29, 40)] 0 R.L.toNat (Nat.zero_le _) (fun _ x fr H => fr 13 = .int .i64 (x : Int) ∧ Ext h H ∧ h.length + 2 ≤ H.length ∧ H[h.length]? = some (valBk V) ∧ H[h.length + 1]? = some (boB false) ∧ ∀ y, y < x → V.getD (y + 1) 0 ≤ V.getD y 0 ∧ ∀ c ∈ cutL R y, c.2.2 + V.getD c.2.1.toNat 0 ≤ V.getD y 0) ?_ ?_ ?_
  · exact ⟨by (simp (disch := first | exact dschN40 | fail) only [go_sem, ↓reduceIte, Int.natCast_zero]; first | done | rfl), xG, by omega, g0, g1, fun y hy => by omega⟩
  · rintro x fr H hx0 hx hA ⟨r13, xH, lH, gv, gb, hpre⟩
    have p0 := hA 0 rfl
    have p3 := hA 3 rfl
    have p4 := hA 4 rfl
    have p12 := hA 12 rfl
    try simp (disch := first | exact dschN40 | fail) only [go_sem, ↓reduceIte] at p0 p3 p4 p12
    have hlt : ((x : Int) < R.L) = True := eq_true (by omega)
    have gdH := xH.get gd
    obtain ⟨K1, eK1⟩ : ∃ K1, K1 = H ++ [nB (x : Int)] := ⟨_, rfl⟩
    have y1 : Ext H K1 := by rw [eK1]; exact .app .refl
    have lK1 : K1.length = H.length + 1 := by rw [eK1]; simp
    have gn1 : K1[H.length]? = some (nB (x : Int)) := by rw [eK1]; exact get_eq rfl
    have gv1 := y1.get gv
    have gb1 := y1.get gb
    have xK1 := xH.trans y1
    have ex1 : ((x : Int) + 1).toNat = x + 1 := by omega
    have ld1 : ∀ z, ldB (some (false, z)) (some (valBk V)) 0 x = some (.int .i64 (V.getD x 0)) := fun z => ldB_ints (by omega)
    have ld2 : ∀ z, ldB (some (false, z)) (some (valBk V)) 0 (x + 1) = some (.int .i64 (V.getD (x + 1) 0)) := fun z => ldB_ints (by omega)
    have bx1 := hvb x
    obtain ⟨vx, evx⟩ : ∃ vx, vx = V.getD x 0 := ⟨_, rfl⟩
    obtain ⟨vy, evy⟩ : ∃ vy, vy = V.getD (x + 1) 0 := ⟨_, rfl⟩
    rw [← evx] at ld1 bx1
    rw [← evy] at ld2
    have gn1' := gn1
    have gv1' := gv1
    have gb1' := gb1
    unfold nB at eK1 gn1'
    unfold valBk at gv1' ld1 ld2
    unfold boB at gb1'
    by_cases c1 : vx < vy
    · have t1 : (vx < vy) = True := eq_true c1
      have hbf : b = false := by
        cases b with
        | false => rfl
        | true => have := (hb.1 rfl).up x hx; rw [← evx, ← evy] at this; omega
      subst hbf
      have hsp := @Nat.succ_ne_zero; repeat' (first | simp (disch := first | exact dschN40 | fail) only [go_sem, ↓reduceIte, hsp, r13, p0, p3, p4, p12, hlt, ← eK1, gn1', gv1', ex1, ld1, ld2, t1, gb1'] | refine WP_drw ?_ | refine cnd_intro (fun hsp => ?_) fun hsp => ?_)
      exact fB rfl (xK1.set (by omega))
    · have t1 : (vx < vy) = False := eq_false c1
      obtain ⟨w3, H3, e3, rfl, eH3⟩ := run_cuts (base := h.length) (id := id) (x := x) (h := K1)
      have x3 : Ext K1 H3 := by rw [eH3]; exact .app (.app .refl)
      have l3 : H3.length = K1.length + 2 := by rw [eH3]; simp
      have gdb : H3[K1.length]? = some (pB id) := by rw [eH3]; exact get_app (get_eq rfl)
      have gfb : H3[K1.length + 1]? = some (nB (x : Int)) := by rw [eH3]; exact get_eq (by simp)
      have hsp := @Nat.succ_ne_zero; repeat' (first | simp (disch := first | exact dschN40 | fail) only [go_sem, ↓reduceIte, hsp, r13, p0, p3, p4, p12, hlt, ← eK1, gn1', gv1', ex1, ld1, ld2, t1, gb1', e3] | refine WP_drw ?_ | refine cnd_intro (fun hsp => ?_) fun hsp => ?_)
      refine WP_rangeX (by simp (disch := first | exact dschN40 | fail) only [go_sem, ↓reduceIte]) (N := (cutL R x).length) (X := XC R x) (pr := prT) (fun j K => H3.length + 1 ≤ K.length ∧ Ext h K ∧ K[H.length]? = some (nB (x : Int)) ∧ K[K1.length]? = some (pB id) ∧ K[K1.length + 1]? = some (nB (x : Int)) ∧ K[h.length]? = some (valBk V) ∧ K[h.length + 1]? = some (boB false) ∧ ∀ c ∈ (cutL R x).take j, c.2.2 + V.getD c.2.1.toNat 0 ≤ vx) (fun e K => e = .ret ∧ Ext h K ∧ K[h.length + 1]? = some (boB false) ∧ h.length + 2 ≤ K.length ∧ h.length + 2 ≤ H3.length ∧ b = false)
        (cuts_yields (id := id) (db := K1.length) (fb := K1.length + 1) (by omega) hR hx (fun j K q => ⟨hDe K q.2.1, q.2.2.2.1, q.2.2.2.2.1⟩)) ?_ ?_ ?_ ?_ ?_ ?_ ?_ ?_
      · rintro j d K ⟨c, _, rfl⟩; rfl
      · rintro j K T ⟨i1, i2, i3, i4, i5, i6, i7, i8⟩
        exact ⟨by simp; omega, i2.trans (.app .refl), get_app i3, get_app i4, get_app i5, get_app i6, get_app i7, i8⟩
      · rintro j K B ⟨i1, i2, i3, i4, i5, i6, i7, i8⟩
        exact ⟨by simpa using i1, i2.set (by omega), by rw [List.getElem?_set_ne (by omega)]; exact i3, by rw [List.getElem?_set_ne (by omega)]; exact i4, by rw [List.getElem?_set_ne (by omega)]; exact i5, by rw [List.getElem?_set_ne (by omega)]; exact i6, by rw [List.getElem?_set_ne (by omega)]; exact i7, i8⟩
      · rintro e K B ⟨q0, q1, q2, q3, q4, q5⟩
        exact ⟨q0, q1.set (by omega), by rw [List.getElem?_set_ne (by omega)]; exact q2, by rw [List.length_set]; exact q3, q4, q5⟩
      · exact ⟨by simp, (xK1.trans x3).trans (.app .refl), get_app (x3.get gn1), get_app gdb, get_app gfb, get_app (x3.get gv1), get_app (x3.get gb1), by simp⟩
      · rintro j d K B1 B2 hj ⟨c, hc, rfl⟩ ⟨i1, i2, i3, i4, i5, i6, i7, i8⟩ hKl hB
        have hcm := List.mem_of_getElem? hc
        have hcb := (cutL_b hR hx hcm).1
        have htk : (cutL R x).take (j + 1) = (cutL R x).take j ++ [c] := by rw [List.take_add_one, hc]; rfl
        obtain ⟨⟨cw, cf, cj⟩, ce, cp⟩ := c
        dsimp only at hcb
        obtain ⟨e, rfl⟩ := Int.eq_ofNat_of_zero_le (show 0 ≤ ce by omega)
        obtain ⟨L1, eL1⟩ : ∃ L1, L1 = K.set H3.length B2 := ⟨_, rfl⟩
        have lL1 : L1.length = K.length := by rw [eL1, List.length_set]
        obtain ⟨L2, eL2⟩ : ∃ L2, L2 = L1 ++ [wayB (e : Int) cp] := ⟨_, rfl⟩
        have lL2 : L2.length = K.length + 1 := by rw [eL2]; simp [lL1]
        have y2 : Ext L1 L2 := by rw [eL2]; exact .app .refl
        have nk : ∀ {i : Nat} {z : ABlk}, i ≠ H3.length → K[i]? = some z → L2[i]? = some z := fun hi hz => y2.get (by rw [eL1, List.getElem?_set_ne (fun q => hi q.symm)]; exact hz)
        have k3 := nk (by omega) i3
        have k6 := nk (by omega) i6
        have k7 := nk (by omega) i7
        have kw : L2[K.length]? = some (wayB (e : Int) cp) := by rw [eL2, ← lL1]; exact get_eq rfl
        have vb := hvb e
        have ld3 : ∀ z, ldB (some (false, z)) (some (valBk V)) 0 e = some (.int .i64 (V.getD e 0)) := fun z => ldB_ints (by omega)
        obtain ⟨ve, eve⟩ : ∃ ve, ve = V.getD e 0 := ⟨_, rfl⟩
        rw [← eve] at ld3 vb
        have xL2 : Ext h L2 := Ext.trans (by rw [eL1]; exact i2.set (by omega)) y2
        have k3' := k3
        have k6' := k6
        have k7' := k7
        unfold nB at k3'
        unfold valBk at k6' ld3
        unfold boB at k7'
        unfold wayB at eL2 kw
        by_cases c2 : vx < cp + ve
        · have t2 : (vx < cp + ve) = True := eq_true c2
          have hbf : b = false := by
            cases b with
            | false => rfl
            | true =>
              have := (hb.1 rfl).cut x hx _ hcm
              simp only [Int.toNat_natCast] at this
              rw [← evx, ← eve] at this; omega
          have hsp := @Nat.succ_ne_zero; repeat' (first | simp (disch := first | exact dschN40 | fail) only [go_sem, ↓reduceIte, hsp, r13, p0, p3, p4, p12, hB, ← eL1, ← eL2, k3', k6', kw, ld1, ld3, t2, k7'] | refine WP_drw ?_ | refine cnd_intro (fun hsp => ?_) fun hsp => ?_)
          refine ⟨y2.get (by rw [eL1, List.getElem?_set_self (by omega)]), fun i z hi hp hz => ?_, by omega, .inr ⟨by simp, xL2.set (by omega), by omega, by omega, hbf⟩⟩
          rw [List.getElem?_set_ne (by omega)]; exact nk (by omega) hz
        · have t2 : (vx < cp + ve) = False := eq_false c2
          have hsp := @Nat.succ_ne_zero; repeat' (first | simp (disch := first | exact dschN40 | fail) only [go_sem, ↓reduceIte, hsp, r13, p0, p3, p4, p12, hB, ← eL1, ← eL2, k3', k6', kw, ld1, ld3, t2, k7'] | refine WP_drw ?_ | refine cnd_intro (fun hsp => ?_) fun hsp => ?_)
          refine ⟨y2.get (by rw [eL1, List.getElem?_set_self (by omega)]), fun i z hi hp hz => nk (by omega) hz, by omega, .inl ⟨by omega, xL2, nk (by omega) i4, nk (by omega) i5, fun c hc => ?_⟩⟩
          rw [htk] at hc
          rcases List.mem_append.1 hc with q | q
          · exact i8 c q
          · rw [List.mem_singleton.1 q]
            simp only [Int.toNat_natCast]
            rw [← eve]; omega
      · rintro K ⟨i1, i2, i3, i4, i5, i6, i7, i8⟩
        rw [List.take_length] at i8
        have hsp := @Nat.succ_ne_zero; repeat' (first | simp (disch := first | exact dschN40 | fail) only [go_sem, ↓reduceIte, hsp, r13, p0, p3, p4, p12] | refine WP_drw ?_ | refine cnd_intro (fun hsp => ?_) fun hsp => ?_)
        refine ⟨by (repeat first | exact Agree.refl | assumption | refine Agree.put rfl ?_ | refine Agree.put0 ?_ | refine Agree.sub rfl (by assumption) ?_), by omega, i2, by omega, i6, i7, fun y hy => ?_⟩
        by_cases e : y = x
        · subst e
          exact ⟨by rw [← evx, ← evy]; omega, fun c hc => by rw [← evx]; exact i8 c hc⟩
        · exact hpre y (by omega)
      · rintro e K hne ⟨rfl, q1, q2, q3, q4, rfl⟩
        unfold boB at q2
        have hsp := @Nat.succ_ne_zero; repeat' (first | simp (disch := first | exact dschN40 | fail) only [go_sem, ↓reduceIte, hsp, r13, p0, p3, p4, p12, q2] | refine WP_drw ?_ | refine cnd_intro (fun hsp => ?_) fun hsp => ?_)
        exact fB rfl q1
  · rintro fr H hA ⟨r13, xH, lH, gv, gb, hpre⟩
    have p0 := hA 0 rfl
    have p3 := hA 3 rfl
    have p4 := hA 4 rfl
    have p12 := hA 12 rfl
    try simp (disch := first | exact dschN40 | fail) only [go_sem, ↓reduceIte] at p0 p3 p4 p12
    have hlt : (((R.L.toNat : Nat) : Int) < R.L) = False := eq_false (by omega)
    have gdH := xH.get gd
    obtain ⟨n, en⟩ := Int.eq_ofNat_of_zero_le (show 0 ≤ R.L by omega)
    have en' : R.L.toNat = n := by omega
    have ld1 : ∀ z, ldB (some (false, z)) (some (valBk V)) 0 R.L.toNat = some (.int .i64 (V.getD R.L.toNat 0)) := fun z => ldB_ints (by omega)
    unfold valBk at gv ld1
    unfold boB at gb
    have ebd : b = decide (V.getD R.L.toNat 0 ≥ 0) := by
      by_cases c : V.getD R.L.toNat 0 ≥ 0
      · rw [decide_eq_true c]
        exact hb.2 ⟨fun y hy => (hpre y hy).1, fun y hy => (hpre y hy).2, c⟩
      · rw [decide_eq_false c]
        cases b with
        | false => rfl
        | true => exact absurd (hb.1 rfl).fin c
    rw [ebd]
    have hsp := @Nat.succ_ne_zero; repeat' (first | simp (disch := first | exact dschN40 | fail) only [go_sem, ↓reduceIte, hsp, r13, p0, p3, p4, p12, hlt, gdH, dL, gv, ld1, gb] | refine WP_drw ?_ | refine cnd_intro (fun hsp => ?_) fun hsp => ?_)
    exact fB rfl (xH.set (by omega))
end Go.AM
/-
  Contracts: values that are given (valued), whether they hold (Holds), what they say (Bound).
-/
namespace Go.AM
open Go.Proofs.Try
theorem dschN41 {p : Prop} (h : p := by first | exact Nat.ne_of_beq_eq_false rfl | assumption | (apply asOne; (first | exact One.int | exact One.bool | assumption | exact Ints.one (by assumption) | exact Rows.one (by assumption) | exact Own.one (by assumption) | exact One.lit ⟨rfl, rfl, rfl⟩)) | (apply asInts; (repeat first | assumption | exact ints_nil | apply Ints.app); done) | (apply asRows; (repeat first | assumption | exact Rows.nil | apply Rows.app); done) | (apply asScal; (first | apply allS1 | apply allS2 | apply allS3 | apply allS4) <;> (first | exact One.int | exact One.bool | assumption | exact Ints.one (by assumption) | exact Rows.one (by assumption) | exact Own.one (by assumption) | exact One.lit ⟨rfl, rfl, rfl⟩)) | exact litT rfl | exact litF rfl | omega | (simp only [List.length_append, List.length_cons, List.length_nil, List.length_set, List.length_reverse]; first | done | omega) | fail) : p := h
attribute [-go_sem] put_ne put_same
attribute [local go_sem ↓] put_if
def padV (l : List Int) : List Int := l ++ List.replicate (61 - l.length) 0
def vldE (R : Rib) (l : List Int) : Int := if chkR R ≠ 0 then chkR R else if (l.length : Int) ≠ R.L + 1 then 2 else if ¬ (l.all fun y => decide (-10000 ≤ y ∧ y ≤ 10000)) = true then 3 else 0
theorem padV_len {l : List Int} (h : l.length ≤ 61) : (padV l).length = 61 := by simp [padV]; omega
theorem padV_at {l : List Int} {i : Nat} (h : i < l.length) : (padV l).getD i 0 = l.getD i 0 := by
  simp only [padV, List.getD_eq_getElem?_getD, List.getElem?_append_left h]
theorem zer61_rep : zer61 = List.replicate 61 0 := by decide
theorem ints_appV {a b : List Int} : ints (a ++ b) = ints a ++ ints b := by simp [ints]
theorem copy_val {base A : Nat} {h : Heap} {lv : AVal} {l : List Int} (hI : Ints h lv l) (hg : h[A]? = some (valBk zer61)) (hb : base ≤ A) (hl : l.length ≤ 61) :
    copyA prog base h 22 (.slice (some ⟨A, 0, 0⟩) 61 61) lv = some (.int .i64 (l.length : Int), h.set A (valBk (padV l))) := by
  have hm : min l.length 61 = l.length := by omega
  have hf := hI.firstN' (n := l.length) rfl
  have e1 : ints zer61 = [] ++ ints (List.replicate l.length 0) ++ ints (List.replicate (61 - l.length) 0) := by
    rw [List.nil_append, ← ints_appV, List.replicate_append_replicate, zer61_rep]
    congr 2; omega
  have hs : splice (ints zer61) 0 (ints l) = ints (padV l) := by
    have := splice_mid (ints l) [] (ints (List.replicate l.length 0)) (ints (List.replicate (61 - l.length) 0)) (by rw [ints_length, ints_length, List.length_replicate])
    rw [← e1] at this
    rw [show ([] : List AVal).length = 0 from rfl] at this
    rw [this, List.nil_append, ← ints_appV]; rfl
  simp only [copyA, Fc.el22, hI.lenA', hm, hf]
  rw [store_eq, hg]
  unfold valBk
  rw [stQ_ok (by rw [ints_length, ints_length, zer61_rep, List.length_replicate]; omega) (ints_scalar _) hb, hs]
theorem run_val1 {base : Nat} {h : Heap} {x : Int} : callL prog raw base (.fn 137 [] []) [.int .i64 x] h = some (.bool (decide (-10000 ≤ x ∧ x ≤ 10000)), h) := by
  have hi := fun base => run_in (base := base) (h := h) (n := x) (lo := -10000) (hi := 10000)
  refine callL_run func137 rfl rfl ?_
  have hsp := @Nat.succ_ne_zero; repeat' (first | simp (disch := first | exact dschN41 | fail) only [go_sem, ↓reduceIte, hsp, hi] | refine WP_drw ?_ | refine cnd_intro (fun hsp => ?_) fun hsp => ?_)
  exact fB rfl
theorem run_worked2 {base : Nat} {h : Heap} {fv wv : AVal} {R : Rib} (hb : base ≤ h.length) (hF : Ints h fv R.F) (hW : Rows encW h wv R.W) (hR : RibOk R) :
    Ret prog raw base (.fn 115 [] []) [.agg [.int .i64 R.L, fv, wv]] h (fun w H => Ext h H ∧ ∃ id, w = .ptr (some ⟨id, 0, 0⟩) ∧ h.length ≤ id ∧ H[id]? = some (dskB R.L fv wv R.F)) := by
  have o1 := hF.one
  have o2 := hW.one
  obtain ⟨G0, eG0⟩ : ∃ G0, G0 = h ++ [ribB R.L fv wv] := ⟨_, rfl⟩
  have x0 : Ext h G0 := by rw [eG0]; exact .app .refl
  have g0 : G0[h.length]? = some (ribB R.L fv wv) := by rw [eG0]; exact get_eq rfl
  have l0 : G0.length = h.length + 1 := by rw [eG0]; simp
  have eG1 : ∀ F, G0 ++ [(⟨.cells (.int .i64 R.L :: fv :: wv :: blB F) 175 false false, 0⟩ : ABlk)] = G0 ++ [dskB R.L fv wv F] := fun _ => rfl
  have bd := bdD (L := R.L) (fv := fv) (wv := wv)
  have hn1 : ∀ F, lenOpA prog (G0 ++ [dskB R.L fv wv F]) 22 fv = some (.int .i64 (R.F.length : Int)) := fun F => lenI (hF.ext (x0.trans (.app .refl)))
  have hL := hR.L
  have hnF := hR.nF
  unfold ribB at eG0 g0
  refine ret_raw func115 rfl (by kernel_rfl) ?_
  have hsp := @Nat.succ_ne_zero; repeat' (first | simp (disch := first | exact dschN41 | fail) only [go_sem, ↓reduceIte, hsp, ← eG0, g0, bd, eG1, hn1] | refine WP_drw ?_ | refine cnd_intro (fun hsp => ?_) fun hsp => ?_)
  refine WP_count [(5, 5), (12, 21)] 0 R.F.length (Nat.zero_le _) (fun _ i fr H => fr 12 = .int .i64 (i : Int) ∧ H = G0 ++ [dskB R.L fv wv (R.F.take i)]) ?_ ?_ ?_
  · exact ⟨by (simp (disch := first | exact dschN41 | fail) only [go_sem, ↓reduceIte, Int.natCast_zero]; first | done | rfl), by simp⟩
  · rintro i fr H hi0 hi hA ⟨r12, rfl⟩
    have p2 := hA 2 rfl
    have p3 := hA 3 rfl
    have p10 := hA 10 rfl
    have p11 := hA 11 rfl
    try simp (disch := first | exact dschN41 | fail) only [go_sem, ↓reduceIte] at p2 p3 p10 p11
    have hlt : ((i : Int) < (R.F.length : Int)) = True := eq_true (by omega)
    have iF := hF.ext (x0.trans (.app (t := [dskB R.L fv wv (R.F.take i)]) .refl))
    have hl0 := loadI iF hi
    have ha0 := adrI (i := (i : Int)) (by omega) iF (by omega)
    rw [Int.toNat_natCast] at ha0
    have hu := hR.F _ (getD_mem' (d := 0) hi)
    obtain ⟨u, eu⟩ := Int.eq_ofNat_of_zero_le hu.1
    rw [eu] at hl0 hu
    have hu60 : u < 60 := by omega
    have e3 : 3 + (u : Int).toNat * 1 = 3 + u := by omega
    have g1 : (G0 ++ [dskB R.L fv wv (R.F.take i)])[G0.length]? = some (dskB R.L fv wv (R.F.take i)) := get_eq rfl
    have st : ∀ {F : ABlk → Heap}, stQ base G0.length (some (dskB R.L fv wv (R.F.take i))) 0 (3 + u) [.bool true] F = some (F (dskB R.L fv wv (R.F.take i ++ [(u : Int)]))) := fun {F} => dsk_st (by omega) hu60
    have hsp := @Nat.succ_ne_zero; repeat' (first | simp (disch := first | exact dschN41 | fail) only [go_sem, ↓reduceIte, hsp, r12, p2, p3, p10, p11, hlt, ha0, hl0, e3, g1, st] | refine WP_drw ?_ | refine cnd_intro (fun hsp => ?_) fun hsp => ?_)
    refine ⟨by (repeat first | exact Agree.refl | assumption | refine Agree.put rfl ?_ | refine Agree.put0 ?_ | refine Agree.sub rfl (by assumption) ?_), by omega, ?_⟩
    rw [List.take_add_one, getD_some (d := 0) hi, eu]; rfl
  · rintro fr H hA ⟨r12, rfl⟩
    have p2 := hA 2 rfl
    have p3 := hA 3 rfl
    have p10 := hA 10 rfl
    have p11 := hA 11 rfl
    try simp (disch := first | exact dschN41 | fail) only [go_sem, ↓reduceIte] at p2 p3 p10 p11
    have hlt : ((R.F.length : Int) < (R.F.length : Int)) = False := eq_false (by omega)
    rw [List.take_length]
    have hsp := @Nat.succ_ne_zero; repeat' (first | simp (disch := first | exact dschN41 | fail) only [go_sem, ↓reduceIte, hsp, r12, p2, p3, p10, p11, hlt] | refine WP_drw ?_ | refine cnd_intro (fun hsp => ?_) fun hsp => ?_)
    have x1 : Ext h (G0 ++ [dskB R.L fv wv R.F]) := x0.trans (.app .refl)
    exact ⟨x1, _, rfl, by omega, get_eq rfl⟩
theorem run_opened2 {base : Nat} {h : Heap} {fv wv : AVal} {R : Rib} (hb : base ≤ h.length) (hF : Ints h fv R.F) (hW : Rows encW h wv R.W) (hsm : R.F.length ≤ 1048576) :
    Ret prog raw base (.fn 89 [] []) [.agg [.int .i64 R.L, fv, wv]] h (fun w H => Ext h H ∧ (chkR R ≠ 0 → w = .tuple [.ptr none, .int .i64 (chkR R)]) ∧ (chkR R = 0 → ∃ id, w = .tuple [.ptr (some ⟨id, 0, 0⟩), .int .i64 0] ∧ h.length ≤ id ∧ H[id]? = some (dskB R.L fv wv R.F))) := by
  have o1 := hF.one
  have o2 := hW.one
  obtain ⟨G0, eG0⟩ : ∃ G0, G0 = h ++ [ribB R.L fv wv] := ⟨_, rfl⟩
  have x0 : Ext h G0 := by rw [eG0]; exact .app .refl
  have g0 : G0[h.length]? = some (ribB R.L fv wv) := by rw [eG0]; exact get_eq rfl
  have l0 : G0.length = h.length + 1 := by rw [eG0]; simp
  have hA0 : RibAt G0 (.agg [.int .i64 R.L, fv, wv]) R := ⟨fv, wv, rfl, hF.ext x0, hW.ext x0⟩
  have hck0 := fun base => run_Check (base := base) hA0 hsm
  unfold ribB at eG0 g0
  by_cases c0 : chkR R = 0
  · rw [c0] at hck0
    obtain ⟨w1, H1, e1, x1, id, rfl, hid, hD⟩ := run_worked2 (base := base) (by omega) (hF.ext x0) (hW.ext x0) (chkR_iff.1 c0)
    refine ret_raw func89 rfl (by kernel_rfl) ?_
    have hsp := @Nat.succ_ne_zero; repeat' (first | simp (disch := first | exact dschN41 | fail) only [go_sem, ↓reduceIte, hsp, ← eG0, g0, hck0, e1] | refine WP_drw ?_ | refine cnd_intro (fun hsp => ?_) fun hsp => ?_)
    exact ⟨x0.trans x1, fun q => absurd c0 q, fun _ => ⟨id, rfl, by omega, hD⟩⟩
  · have t0 : (chkR R = 0) = False := eq_false c0
    refine ret_raw func89 rfl (by kernel_rfl) ?_
    have hsp := @Nat.succ_ne_zero; repeat' (first | simp (disch := first | exact dschN41 | fail) only [go_sem, ↓reduceIte, hsp, ← eG0, g0, hck0, t0] | refine WP_drw ?_ | refine cnd_intro (fun hsp => ?_) fun hsp => ?_)
    refine ⟨x0, ?_, ?_⟩ <;> first | trivial | exact fun _ => rfl | exact fun q => q.elim | exact fun q => absurd q c0
set_option maxRecDepth 100000 in
set_option maxHeartbeats 4000000 in
theorem run_valued {base : Nat} {h : Heap} {v lv : AVal} {R : Rib} {l : List Int} (hb : base ≤ h.length) (hA : RibAt h v R) (hsm : R.F.length ≤ 1048576) (hI : Ints h lv l) :
    Ret prog raw base (.fn 121 [] []) [v, lv] h (fun w H => Ext h H ∧ ∃ a, w = .tuple [a, .agg (ints (if vldE R l = 0 then padV l else zer61)), .int .i64 (vldE R l)] ∧ One a ∧ (vldE R l = 0 → ∃ id, a = .ptr (some ⟨id, 0, 0⟩) ∧ DskAt H id R)) := by
  have hAe := fun H (e : Ext h H) => hA.ext e
  obtain ⟨fv, wv, rfl, hF, hW⟩ := hA
  have o1 := hF.one
  have o2 := hW.one
  have ol := hI.one
  obtain ⟨G0, eG0⟩ : ∃ G0, G0 = h ++ [ribB R.L fv wv] ++ [valBk zer61] := ⟨_, rfl⟩
  have x0 : Ext h G0 := by rw [eG0]; exact .app (.app .refl)
  have g0 : G0[h.length]? = some (ribB R.L fv wv) := by rw [eG0]; exact get_app (get_eq rfl)
  have gz : G0[h.length + 1]? = some (valBk zer61) := by rw [eG0]; exact get_eq (by simp)
  have l0 : G0.length = h.length + 2 := by rw [eG0]; simp
  obtain ⟨w1, H1, e1, x1, r1, r2⟩ := run_opened2 (base := base) (h := G0) (by omega) (hF.ext x0) (hW.ext x0) hsm
  have l1 := x1.len
  have xx := x0.trans x1
  have p0 := x1.get g0
  have pz := x1.get gz
  have hn := lenI (hI.ext xx)
  have hev := fun base => every_I (base := base) (fun y => decide (-10000 ≤ y ∧ y ≤ 10000)) (hI.ext xx) (g := .fn 137 [] []) (fun base T x _ => run_val1) ⟨rfl, rfl, rfl⟩
  have hz : zer61.length = 61 := by decide
  have bz : buildA prog 136 [] = some (.agg (ints zer61)) := by kernel_rfl
  have stz := stV61 (base := base) (l := zer61) pz hz hz
  rw [set_id pz] at stz
  have ldz := ldA61 (l := zer61) (e := 136) (row := false) (ro := false) hz
  unfold ribB at eG0 g0 p0
  unfold valBk zer61 at eG0
  have pz' := pz
  unfold valBk at pz'
  refine ret_raw func121 rfl (by kernel_rfl) ?_
  by_cases c0 : chkR R = 0
  · obtain ⟨id, rfl, hid, hD⟩ := r2 c0
    have hR := chkR_iff.1 c0
    have hL := hR.L
    by_cases c1 : (l.length : Int) = R.L + 1
    · have t1 : ((l.length : Int) = R.L + 1) = True := eq_true c1
      rcases Bool.eq_false_or_eq_true (l.all fun y => decide (-10000 ≤ y ∧ y ≤ 10000)) with c2 | c2
      · rw [c2] at hev
        have re : vldE R l = 0 := by unfold vldE; rw [if_neg (fun q => q c0), if_neg (fun q => q c1), if_neg (fun q => q c2)]
        rw [re, if_pos rfl]
        have hpl := padV_len (l := l) (by omega)
        obtain ⟨H2, eH2⟩ : ∃ H2, H2 = H1 ++ [valBk zer61] := ⟨_, rfl⟩
        have x2 : Ext H1 H2 := by rw [eH2]; exact .app .refl
        have l2 : H2.length = H1.length + 1 := by rw [eH2]; simp
        have q2 : H2[H1.length]? = some (valBk zer61) := by rw [eH2]; exact get_eq rfl
        have sl : sliceA prog 136 (.ptr (some ⟨H1.length, 0, 0⟩)) none none none = some (.slice (some ⟨H1.length, 0, 0⟩) 61 61) := by
          simp only [sliceA, Fc.ar136, optB]
          simp [ARef.add]
        have hcp := copy_val (base := base) (A := H1.length) (hI.ext (xx.trans x2)) q2 (by omega) (by omega)
        obtain ⟨H3, eH3⟩ : ∃ H3, H3 = H2.set H1.length (valBk (padV l)) := ⟨_, rfl⟩
        have l3 : H3.length = H2.length := by rw [eH3, List.length_set]
        have q3 : H3[H1.length]? = some (valBk (padV l)) := by rw [eH3, List.getElem?_set_self (by omega)]
        have z3 : H3[h.length + 1]? = some (valBk zer61) := by rw [eH3, List.getElem?_set_ne (by omega)]; exact x2.get pz
        have xH3 : Ext G0 H3 := by rw [eH3]; exact (x1.trans x2).set (by omega)
        have xD3 : Ext H1 H3 := by rw [eH3]; exact x2.set (by omega)
        rw [← eH3] at hcp
        have stp := stV61 (base := base) (l := padV l) z3 hpl hz
        have ldp := ldA61 (l := padV l) (e := 136) (row := false) (ro := false) hpl
        obtain ⟨H4, eH4⟩ : ∃ H4, H4 = H3.set (h.length + 1) (valBk (padV l)) := ⟨_, rfl⟩
        have q4 : H4[h.length + 1]? = some (valBk (padV l)) := by rw [eH4, List.getElem?_set_self (by omega)]
        rw [← eH4] at stp
        unfold valBk zer61 at eH2
        unfold valBk at q3 q4
        have hsp := @Nat.succ_ne_zero; repeat' (first | simp (disch := first | exact dschN41 | fail) only [go_sem, ↓reduceIte, hsp, ← eG0, g0, e1, eq_self, hn, p0, t1, hev, Bool.not_true, ← eH2, sl, hcp, q3, ldp, stp, q4] | refine WP_drw ?_ | refine cnd_intro (fun hsp => ?_) fun hsp => ?_)
        have xf : Ext h H4 := by rw [eH4]; exact (x0.trans xH3).set (by omega)
        refine ⟨xf, _, rfl, One.lit ⟨rfl, rfl, rfl⟩, fun _ => ⟨id, rfl, fv, wv, ?_, hF.ext xf, hW.ext xf⟩⟩
        rw [eH4, List.getElem?_set_ne (by omega)]
        exact xD3.get hD
      · rw [c2] at hev
        have re : vldE R l = 3 := by unfold vldE; rw [if_neg (fun q => q c0), if_neg (fun q => q c1), if_pos (by rw [c2]; simp)]
        rw [re, if_neg (by decide)]
        have hsp := @Nat.succ_ne_zero; repeat' (first | simp (disch := first | exact dschN41 | fail) only [go_sem, ↓reduceIte, hsp, ← eG0, g0, e1, eq_self, hn, p0, t1, hev, Bool.not_false, bz, stz, pz', ldz] | refine WP_drw ?_ | refine cnd_intro (fun hsp => ?_) fun hsp => ?_)
        exact ⟨xx, _, rfl, One.lit ⟨rfl, rfl, rfl⟩, fun q => q.elim⟩
    · have t1 : ((l.length : Int) = R.L + 1) = False := eq_false c1
      have re : vldE R l = 2 := by unfold vldE; rw [if_neg (fun q => q c0), if_pos c1]
      rw [re, if_neg (by decide)]
      have hsp := @Nat.succ_ne_zero; repeat' (first | simp (disch := first | exact dschN41 | fail) only [go_sem, ↓reduceIte, hsp, ← eG0, g0, e1, eq_self, hn, p0, t1, bz, stz, pz', ldz] | refine WP_drw ?_ | refine cnd_intro (fun hsp => ?_) fun hsp => ?_)
      exact ⟨xx, _, rfl, One.lit ⟨rfl, rfl, rfl⟩, fun q => q.elim⟩
  · have t0 : (chkR R = 0) = False := eq_false c0
    have r := r1 c0
    subst r
    have re : vldE R l = chkR R := by unfold vldE; rw [if_pos c0]
    rw [re, if_neg c0]
    have hsp := @Nat.succ_ne_zero; repeat' (first | simp (disch := first | exact dschN41 | fail) only [go_sem, ↓reduceIte, hsp, ← eG0, g0, e1, t0, bz, stz, pz', ldz] | refine WP_drw ?_ | refine cnd_intro (fun hsp => ?_) fun hsp => ?_)
    exact ⟨xx, _, rfl, One.lit ⟨rfl, rfl, rfl⟩, fun q => q.elim⟩
end Go.AM
/-
  Contracts: whether values hold (Holds), what they say (Bound).
-/
namespace Go.AM
open Go.Proofs.Try
theorem dschN42 {p : Prop} (h : p := by first | exact Nat.ne_of_beq_eq_false rfl | assumption | (apply asOne; (first | exact One.int | exact One.bool | assumption | exact Ints.one (by assumption) | exact Rows.one (by assumption) | exact Own.one (by assumption) | exact One.lit ⟨rfl, rfl, rfl⟩)) | (apply asInts; (repeat first | assumption | exact ints_nil | apply Ints.app); done) | (apply asRows; (repeat first | assumption | exact Rows.nil | apply Rows.app); done) | (apply asScal; (first | apply allS1 | apply allS2 | apply allS3 | apply allS4) <;> (first | exact One.int | exact One.bool | assumption | exact Ints.one (by assumption) | exact Rows.one (by assumption) | exact Own.one (by assumption) | exact One.lit ⟨rfl, rfl, rfl⟩)) | exact litT rfl | exact litF rfl | omega | (simp only [List.length_append, List.length_cons, List.length_nil, List.length_set, List.length_reverse]; first | done | omega) | fail) : p := h
attribute [-go_sem] put_ne put_same
attribute [local go_sem ↓] put_if
noncomputable def hldB (R : Rib) (V : List Int) : Bool := @decide (Hld R V) (Classical.propDecidable _)
theorem hldB_iff {R : Rib} {V : List Int} : hldB R V = true ↔ Hld R V := by
  unfold hldB
  exact @decide_eq_true_iff _ (Classical.propDecidable _)
theorem Hld.congr {R : Rib} (hR : RibOk R) {V U : List Int} (h : ∀ i, i ≤ R.L.toNat → V.getD i 0 = U.getD i 0) (a : Hld R V) : Hld R U := by
  refine ⟨fun x hx => ?_, fun x hx c hc => ?_, ?_⟩
  · rw [← h x (by omega), ← h (x + 1) (by omega)]; exact a.up x hx
  · have hb := (cutL_b hR hx hc).1
    rw [← h x (by omega), ← h c.2.1.toNat (by omega)]; exact a.cut x hx c hc
  · rw [← h R.L.toNat (by omega)]; exact a.fin
theorem vld_ok {R : Rib} {l : List Int} (h : vldE R l = 0) : RibOk R ∧ (l.length : Int) = R.L + 1 ∧ ∀ y ∈ l, -10000 ≤ y ∧ y ≤ 10000 := by
  unfold vldE at h
  by_cases c0 : chkR R = 0
  · rw [if_neg (fun q => q c0)] at h
    by_cases c1 : (l.length : Int) = R.L + 1
    · rw [if_neg (fun q => q c1)] at h
      by_cases c2 : (l.all fun y => decide (-10000 ≤ y ∧ y ≤ 10000)) = true
      · exact ⟨chkR_iff.1 c0, c1, fun y hy => of_decide_eq_true (List.all_eq_true.1 c2 y hy)⟩
      · rw [if_pos c2] at h; omega
    · rw [if_pos c1] at h; omega
  · rw [if_pos c0] at h; exact absurd h c0
theorem getD_b {l : List Int} {a b : Int} (h : ∀ y ∈ l, a ≤ y ∧ y ≤ b) (h0 : a ≤ 0 ∧ 0 ≤ b) (i : Nat) : a ≤ l.getD i 0 ∧ l.getD i 0 ≤ b := by
  by_cases c : i < l.length
  · exact h _ (getD_mem' c)
  · rw [List.getD_eq_getElem?_getD, List.getElem?_eq_none (by omega)]; exact h0
theorem padV_b {l : List Int} (h : ∀ y ∈ l, -10000 ≤ y ∧ y ≤ 10000) (i : Nat) : -10000 ≤ (padV l).getD i 0 ∧ (padV l).getD i 0 ≤ 10000 :=
  getD_b (fun y hy => by
    rcases List.mem_append.1 hy with q | q
    · exact h y q
    · have := List.eq_of_mem_replicate q; omega) (by omega) i
theorem hld_pad {R : Rib} (hR : RibOk R) {l : List Int} (hl : (l.length : Int) = R.L + 1) : hldB R (padV l) = hldB R l := by
  have hL := hR.L
  have e : Hld R (padV l) ↔ Hld R l := ⟨fun a => a.congr hR fun i hi => padV_at (by omega), fun a => a.congr hR fun i hi => (padV_at (by omega)).symm⟩
  rcases Bool.eq_false_or_eq_true (hldB R l) with q | q
  · rw [q]; exact hldB_iff.2 (e.2 (hldB_iff.1 q))
  · rw [q]
    cases z : hldB R (padV l) with
    | false => rfl
    | true => rw [hldB_iff.2 (e.1 (hldB_iff.1 z))] at q; exact absurd q (by simp)
/-- What is said of values: whether they hold, the error, what they say. -/
noncomputable def hldE (R : Rib) (l : List Int) : Bool := decide (vldE R l = 0) && hldB R l
noncomputable def bndE (R : Rib) (l : List Int) : Int × Int := if vldE R l ≠ 0 then (0, vldE R l) else if hldB R l = true then (l.getD 0 0, 0) else (0, 8)
set_option maxRecDepth 100000 in
set_option maxHeartbeats 4000000 in
theorem run_Holds {base : Nat} {h : Heap} {v lv : AVal} {R : Rib} {l : List Int} (hA : RibAt h v R) (hsm : R.F.length ≤ 1048576) (hI : Ints h lv l) :
    callL prog raw base (.fn 73 [] []) [v, lv] h = some (.tuple [.bool (hldE R l), .int .i64 (vldE R l)], h) := by
  have hAe := fun H (e : Ext h H) => hA.ext e
  obtain ⟨fv, wv, rfl, hF, hW⟩ := hA
  have o1 := hF.one
  have o2 := hW.one
  have ol := hI.one
  obtain ⟨G0, eG0⟩ : ∃ G0, G0 = h ++ [ribB R.L fv wv] := ⟨_, rfl⟩
  have x0 : Ext h G0 := by rw [eG0]; exact .app .refl
  have g0 : G0[h.length]? = some (ribB R.L fv wv) := by rw [eG0]; exact get_eq rfl
  have l0 : G0.length = h.length + 1 := by rw [eG0]; simp
  obtain ⟨_, H1, e1, x1, a, rfl, oa, hid⟩ := run_valued (base := h.length) (h := G0) (by omega) (hAe G0 x0) hsm (hI.ext x0)
  have l1 := x1.len
  have xx := x0.trans x1
  have hz : zer61.length = 61 := by decide
  have g1 : (H1 ++ [valBk zer61])[H1.length]? = some (valBk zer61) := get_eq rfl
  unfold ribB at eG0 g0
  refine callL_run func73 rfl rfl ?_
  by_cases c : vldE R l = 0
  · obtain ⟨hR, hll, hlb⟩ := vld_ok c
    have hL := hR.L
    obtain ⟨id, rfl, hD⟩ := hid c
    have hpl := padV_len (l := l) (by omega)
    rw [if_pos c, c] at e1
    have stp := stV61 (base := h.length) (l := padV l) g1 hpl hz
    rw [set_eq rfl] at stp
    obtain ⟨H2, eH2⟩ : ∃ H2, H2 = H1 ++ [valBk (padV l)] := ⟨_, rfl⟩
    have x2 : Ext H1 H2 := by rw [eH2]; exact .app .refl
    have q2 : H2[H1.length]? = some (valBk (padV l)) := by rw [eH2]; exact get_eq rfl
    rw [← eH2] at stp
    have ldp := ldA61 (l := padV l) (e := 136) (row := false) (ro := false) hpl
    have hh := fun base => run_holds (base := base) (b := hldB R (padV l)) (hD.ext x2) hR hpl (padV_b hlb) hldB_iff
    rw [hld_pad hR hll] at hh
    unfold valBk zer61 at stp
    unfold valBk at q2
    have re : hldE R l = hldB R l := by unfold hldE; rw [decide_eq_true c]; rfl
    rw [re, c]
    have hsp := @Nat.succ_ne_zero; repeat' (first | simp (disch := first | exact dschN42 | fail) only [go_sem, ↓reduceIte, hsp, ← eG0, g0, e1, stp, eq_self, q2, ldp, hh] | refine WP_drw ?_ | refine cnd_intro (fun hsp => ?_) fun hsp => ?_)
    exact fin_pl rfl rfl (xx.trans x2)
  · rw [if_neg c] at e1
    have stz := stV61 (base := h.length) (l := zer61) g1 hz hz
    rw [set_eq rfl] at stz
    obtain ⟨H2, eH2⟩ : ∃ H2, H2 = H1 ++ [valBk zer61] := ⟨_, rfl⟩
    have x2 : Ext H1 H2 := by rw [eH2]; exact .app .refl
    rw [← eH2] at stz
    unfold valBk zer61 at eH2
    have tc : (vldE R l = 0) = False := eq_false c
    have re : hldE R l = false := by unfold hldE; rw [decide_eq_false c]; rfl
    rw [re]
    have hsp := @Nat.succ_ne_zero; repeat' (first | simp (disch := first | exact dschN42 | fail) only [go_sem, ↓reduceIte, hsp, ← eG0, g0, e1, ← eH2, stz, tc] | refine WP_drw ?_ | refine cnd_intro (fun hsp => ?_) fun hsp => ?_)
    exact fin_pl rfl rfl (xx.trans x2)
set_option maxRecDepth 100000 in
set_option maxHeartbeats 4000000 in
theorem run_Bound {base : Nat} {h : Heap} {v lv : AVal} {R : Rib} {l : List Int} (hA : RibAt h v R) (hsm : R.F.length ≤ 1048576) (hI : Ints h lv l) :
    callL prog raw base (.fn 74 [] []) [v, lv] h = some (.tuple [.int .i64 (bndE R l).1, .int .i64 (bndE R l).2], h) := by
  have hAe := fun H (e : Ext h H) => hA.ext e
  obtain ⟨fv, wv, rfl, hF, hW⟩ := hA
  have o1 := hF.one
  have o2 := hW.one
  have ol := hI.one
  obtain ⟨G0, eG0⟩ : ∃ G0, G0 = h ++ [ribB R.L fv wv] := ⟨_, rfl⟩
  have x0 : Ext h G0 := by rw [eG0]; exact .app .refl
  have g0 : G0[h.length]? = some (ribB R.L fv wv) := by rw [eG0]; exact get_eq rfl
  have l0 : G0.length = h.length + 1 := by rw [eG0]; simp
  obtain ⟨_, H1, e1, x1, a, rfl, oa, hid⟩ := run_valued (base := h.length) (h := G0) (by omega) (hAe G0 x0) hsm (hI.ext x0)
  have l1 := x1.len
  have xx := x0.trans x1
  have hz : zer61.length = 61 := by decide
  have g1 : (H1 ++ [valBk zer61])[H1.length]? = some (valBk zer61) := get_eq rfl
  unfold ribB at eG0 g0
  refine callL_run func74 rfl rfl ?_
  by_cases c : vldE R l = 0
  · obtain ⟨hR, hll, hlb⟩ := vld_ok c
    have hL := hR.L
    obtain ⟨id, rfl, hD⟩ := hid c
    have hpl := padV_len (l := l) (by omega)
    rw [if_pos c, c] at e1
    have stp := stV61 (base := h.length) (l := padV l) g1 hpl hz
    rw [set_eq rfl] at stp
    obtain ⟨H2, eH2⟩ : ∃ H2, H2 = H1 ++ [valBk (padV l)] := ⟨_, rfl⟩
    have x2 : Ext H1 H2 := by rw [eH2]; exact .app .refl
    have q2 : H2[H1.length]? = some (valBk (padV l)) := by rw [eH2]; exact get_eq rfl
    rw [← eH2] at stp
    have ldp := ldA61 (l := padV l) (e := 136) (row := false) (ro := false) hpl
    have hh := fun base => run_holds (base := base) (b := hldB R (padV l)) (hD.ext x2) hR hpl (padV_b hlb) hldB_iff
    rw [hld_pad hR hll] at hh
    unfold valBk zer61 at stp
    unfold valBk at q2
    rcases Bool.eq_false_or_eq_true (hldB R l) with qb | qb
    · rw [qb] at hh
      have re : bndE R l = (l.getD 0 0, 0) := by unfold bndE; rw [if_neg (fun q => q c), if_pos qb]
      rw [re]
      have ld0 : ∀ z, ldB (some (false, z)) (some (valBk (padV l))) 0 0 = some (.int .i64 (l.getD 0 0)) := fun z => by rw [← padV_at (l := l) (i := 0) (by omega)]; exact ldB_ints (by omega)
      unfold valBk at ld0
      have hsp := @Nat.succ_ne_zero; repeat' (first | simp (disch := first | exact dschN42 | fail) only [go_sem, ↓reduceIte, hsp, ← eG0, g0, e1, stp, eq_self, q2, ldp, hh, ld0, Bool.not_true] | refine WP_drw ?_ | refine cnd_intro (fun hsp => ?_) fun hsp => ?_)
      exact fin_pl rfl rfl (xx.trans x2)
    · rw [qb] at hh
      have re : bndE R l = (0, 8) := by unfold bndE; rw [if_neg (fun q => q c), if_neg (by rw [qb]; simp)]
      rw [re]
      have hsp := @Nat.succ_ne_zero; repeat' (first | simp (disch := first | exact dschN42 | fail) only [go_sem, ↓reduceIte, hsp, ← eG0, g0, e1, stp, eq_self, q2, ldp, hh, Bool.not_false] | refine WP_drw ?_ | refine cnd_intro (fun hsp => ?_) fun hsp => ?_)
      exact fin_pl rfl rfl (xx.trans x2)
  · rw [if_neg c] at e1
    have stz := stV61 (base := h.length) (l := zer61) g1 hz hz
    rw [set_eq rfl] at stz
    obtain ⟨H2, eH2⟩ : ∃ H2, H2 = H1 ++ [valBk zer61] := ⟨_, rfl⟩
    have x2 : Ext H1 H2 := by rw [eH2]; exact .app .refl
    rw [← eH2] at stz
    unfold valBk zer61 at eH2
    have tc : (vldE R l = 0) = False := eq_false c
    have re : bndE R l = (0, vldE R l) := by unfold bndE; rw [if_pos c]
    rw [re]
    have hsp := @Nat.succ_ne_zero; repeat' (first | simp (disch := first | exact dschN42 | fail) only [go_sem, ↓reduceIte, hsp, ← eG0, g0, e1, ← eH2, stz, tc] | refine WP_drw ?_ | refine cnd_intro (fun hsp => ?_) fun hsp => ?_)
    exact fin_pl rfl rfl (xx.trans x2)
end Go.AM
/-
  The reference: what is earned from each position on (Made); whether values hold (Values, Holds).
-/
namespace Go.AM
open Go.Proofs.Try
attribute [-go_sem] put_ne put_same
attribute [local go_sem ↓] put_if
end Go.AM
/-
  The reference: whether values hold (Holds).
-/
namespace Go.AM
open Go.Proofs.Try
attribute [-go_sem] put_ne put_same
attribute [local go_sem ↓] put_if
end Go.AM
/-
  Plain: what is earned before a position, in the reference's row.
-/
namespace Go.AM
section
variable {R : Rib} {x : Nat}
end
end Go.AM
/-
  The reference: whether a best plan may use a want (Uses).
-/
namespace Go.AM
open Go.Proofs.Try
attribute [-go_sem] put_ne put_same
attribute [local go_sem ↓] put_if
end Go.AM
/-
  The reference: whether a want is needed (Needs), from which price on it is used (Raise).
-/
namespace Go.AM
open Go.Proofs.Try
attribute [-go_sem] put_ne put_same
attribute [local go_sem ↓] put_if
def lssN (R : Rib) (k i : Nat) : List Wnt := (R.W.take i).eraseIdx k
end Go.AM
/-
  CutWants, walked.
-/
namespace Go.AM
open Go.Proofs.Try
attribute [-go_sem] put_ne put_same
attribute [local go_sem ↓] put_if
def usP (R : Rib) (n : Nat) : List Int := (upto n).filter fun k => decide (k ∈ usN R R.L.toNat)
end Go.AM
