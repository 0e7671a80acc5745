/-
  Contracts: the chain of the examples, and what the chapter says of it (awake).
-/
import Derived.Test.YteanoaejoddnbaaU17
import Derived.Test.YteanoaejoddnbaaU15
import Derived.Test.YteanoaejoddnbaaU10
set_option linter.unusedSimpArgs false
set_option linter.unusedVariables false
namespace Go.AM
open Go.Proofs.Try
theorem dschL22 {p : Prop} (h : p := by first | exact Nat.ne_of_beq_eq_false rfl | assumption | (apply asOne; (first | exact One.int | exact One.bool | assumption | exact Ints.one (by assumption) | exact Rows.one (by assumption) | exact Own.one (by assumption) | exact One.lit ⟨rfl, rfl, rfl⟩)) | (apply asInts; (repeat first | assumption | exact ints_nil | apply Ints.app); done) | (apply asRows; (repeat first | assumption | exact Rows.nil | apply Rows.app); done) | (apply asScal; (first | apply allS1 | apply allS2 | apply allS3 | apply allS4) <;> (first | exact One.int | exact One.bool | assumption | exact Ints.one (by assumption) | exact Rows.one (by assumption) | exact Own.one (by assumption) | exact One.lit ⟨rfl, rfl, rfl⟩)) | exact litT rfl | exact litF rfl | omega | (simp only [List.length_append, List.length_cons, List.length_nil, List.length_set, List.length_reverse]; first | done | omega) | fail) : p := h
attribute [-go_sem] put_ne put_same
attribute [local go_sem ↓] put_if
def rws4 : List Rw3 := [(0, 1, 1), (5, 6, 0), (2, 4, 4), (3, 4, 4)]
def lac4 (r : Nat) : Lac := ⟨3, [1, 2, 3, 4], rws4.take r⟩
theorem bs4 {lit : Bool} {H : Heap} {a b c d : Int} : lit = false → bsA prog lit H 25 4 [(0, .int .i64 a), (1, .int .i64 b), (2, .int .i64 c), (3, .int .i64 d)] = some (.slice (some ⟨H.length, 0, 0⟩) 4 4, H ++ [rowB [a, b, c, d] 0]) := by
  intro hl; subst hl; simp [bsA, rowOf, Fc.el25, fillA, repCells, AVal.isN, AVal.cells, splice, rowB, ints]
theorem bs3 {lit : Bool} {H : Heap} {a b c : Int} : lit = false → bsA prog lit H 25 3 [(0, .int .i64 a), (1, .int .i64 b), (2, .int .i64 c)] = some (.slice (some ⟨H.length, 0, 0⟩) 3 3, H ++ [rowB [a, b, c] 0]) := by
  intro hl; subst hl; simp [bsA, rowOf, Fc.el25, fillA, repCells, AVal.isN, AVal.cells, splice, rowB, ints]
theorem bs5 {lit : Bool} {H : Heap} {a b c d e : Int} : lit = false → bsA prog lit H 25 5 [(0, .int .i64 a), (1, .int .i64 b), (2, .int .i64 c), (3, .int .i64 d), (4, .int .i64 e)] = some (.slice (some ⟨H.length, 0, 0⟩) 5 5, H ++ [rowB [a, b, c, d, e] 0]) := by
  intro hl; subst hl; simp [bsA, rowOf, Fc.el25, fillA, repCells, AVal.isN, AVal.cells, splice, rowB, ints]
theorem bsR4 {lit : Bool} {H : Heap} : bsA prog lit H 42 4 [(0, .agg [.int .i64 0, .int .i64 1, .int .i64 1]), (1, .agg [.int .i64 5, .int .i64 6, .int .i64 0]), (2, .agg [.int .i64 2, .int .i64 4, .int .i64 4]), (3, .agg [.int .i64 3, .int .i64 4, .int .i64 4])] = some (.slice (some ⟨H.length, 0, 0⟩) 4 4, H ++ [rowE encR 70 rws4 0]) := by
  simp [bsA, rowOf, Fc.el42, fillA, repCells, AVal.isN, AVal.cells, splice, rowE, flat, encR, rws4]
theorem bsM2 {lit : Bool} {H : Heap} : bsA prog lit H 33 2 [(0, .agg [.int .i64 1, .int .i64 0]), (1, .agg [.int .i64 3, .int .i64 1])] = some (.slice (some ⟨H.length, 0, 0⟩) 2 2, H ++ [rowE encM 36 [(1, 0), (3, 1)] 0]) := by
  simp [bsA, rowOf, Fc.el33, fillA, repCells, AVal.isN, AVal.cells, splice, rowE, flat, encM]
theorem run_Four {base r : Nat} {h : Heap} (hb : base ≤ h.length) (hr : r ≤ 4) : Ret prog raw base (.fn 95 [] []) [.int .i64 (r : Int)] h (fun w H => Ext h H ∧ LacAt H w (lac4 r)) := by
  obtain ⟨H1, e1⟩ : ∃ H1, H1 = h ++ [lacB 0 (.slice none 0 0) (.slice none 0 0)] := ⟨_, rfl⟩
  obtain ⟨H2, e2⟩ : ∃ H2, H2 = H1 ++ [rowE encR 70 rws4 0] := ⟨_, rfl⟩
  obtain ⟨H3, e3⟩ : ∃ H3, H3 = H2 ++ [rowB [1, 2, 3, 4] 0] := ⟨_, rfl⟩
  have l1 : H1.length = h.length + 1 := by rw [e1]; simp
  have l2 : H2.length = h.length + 2 := by rw [e2]; simp [l1]
  have l3 : H3.length = h.length + 3 := by rw [e3]; simp [l2]
  have x1 : Ext h H1 := by rw [e1]; exact .app .refl
  have x2 : Ext H1 H2 := by rw [e2]; exact .app .refl
  have x3 : Ext H2 H3 := by rw [e3]; exact .app .refl
  have g1 : H3[h.length]? = some (lacB 0 (.slice none 0 0) (.slice none 0 0)) := x3.get (x2.get (by rw [e1]; exact get_eq rfl))
  have g2 : H3[H1.length]? = some (rowE encR 70 rws4 0) := x3.get (by rw [e2]; exact get_eq rfl)
  have g3 : H3[H2.length]? = some (rowB [1, 2, 3, 4] 0) := by rw [e3]; exact get_eq rfl
  have ln : ∀ {H : Heap}, lenOpA prog H 42 (.slice (some ⟨H1.length, 0, 0⟩) 4 4) = some (.int .i64 4) := fun {H} => by simp [lenOpA, Fc.el42, lenA]
  have mn : min (r : Int) 4 = (r : Int) := by omega
  have mx : max 0 (r : Int) = (r : Int) := by omega
  have sl : sliceA prog 42 (.slice (some ⟨H1.length, 0, 0⟩) 4 4) none (some (.int .i64 (r : Int))) none = some (.slice (some ⟨H1.length, 0, 0⟩) r 4) := by
    simp only [sliceA, Fc.ar42, Fc.el42, optB, boundI (show (0 : Int) ≤ (r : Int) by omega) (show (r : Int) ≤ ((4 : Nat) : Int) by omega)]
    simp [ARef.add]
  have hfin : Ext h (H3.set h.length (lacB 3 (.slice (some ⟨H2.length, 0, 0⟩) 4 4) (.slice (some ⟨H1.length, 0, 0⟩) r 4))) ∧ LacAt (H3.set h.length (lacB 3 (.slice (some ⟨H2.length, 0, 0⟩) 4 4) (.slice (some ⟨H1.length, 0, 0⟩) r 4))) (.agg [.int .i64 3, .slice (some ⟨H2.length, 0, 0⟩) 4 4, .slice (some ⟨H1.length, 0, 0⟩) r 4]) (lac4 r) := by
    refine ⟨((x1.trans x2).trans x3).set (Nat.le_refl _), _, _, rfl, ?_, ?_⟩
    · refine ⟨⟨by show ([1, 2, 3, 4] : List Int).length < 2 ^ 60; decide, by show ∀ x ∈ ([1, 2, 3, 4] : List Int), _; decide⟩, .inr (.inr ⟨⟨H2.length, 0, 0⟩, 4, ints [1, 2, 3, 4], 3, true, false, rfl, ?_, rfl, by show 0 + ([1, 2, 3, 4] : List Int).length ≤ 4; decide, by show ([1, 2, 3, 4] : List Int).length ≤ 4; decide⟩)⟩
      rw [List.getElem?_set_ne (by show h.length ≠ H2.length; omega)]; exact g3
    · have hlen : (rws4.take r).length = r := by rw [List.length_take]; exact Nat.min_eq_left hr
      refine ⟨by show (rws4.take r).length < _; omega, .inr (.inr ⟨⟨H1.length, 0, 0⟩, 4, flat encR rws4, 70, true, false, by show _ = AVal.slice _ (rws4.take r).length _; rw [hlen], ?_, ?_, ?_, by show (rws4.take r).length ≤ 4; omega⟩)⟩
      · rw [List.getElem?_set_ne (by show h.length ≠ H1.length; omega)]; exact g2
      · show ((flat encR rws4).drop 0).take ((rws4.take r).length * 3) = flat encR (rws4.take r)
        rw [hlen]
        have : r = 0 ∨ r = 1 ∨ r = 2 ∨ r = 3 ∨ r = 4 := by omega
        rcases this with rfl | rfl | rfl | rfl | rfl <;> rfl
      · show 0 + (rws4.take r).length * 3 ≤ 12
        omega
  unfold lacB at e1 g1 hfin
  refine ret_raw func95 rfl (by kernel_rfl) ?_
  have hsp := @Nat.succ_ne_zero; repeat' (first | simp (disch := first | exact dschL22 | fail) only [go_sem, ↓reduceIte, hsp, ← e1, bsR4, ← e2, bs4, ← e3, ln, mn, mx, sl, g1] | refine WP_drw ?_ | refine cnd_intro (fun hsp => ?_) fun hsp => ?_)
  exact hfin
theorem kw4 : kwnE (lac4 2) = ([2, 0, -1, -1], 0) := by kernel_rfl
theorem cn4 : cntE (lac4 2) = (2, 0) := by kernel_rfl
theorem as4 : askE (lac4 2) = (2, 1, 0) := by kernel_rfl
theorem gp4 : gpsE (lac4 4) [2, 3] = (1, 0) := by kernel_rfl
theorem ri5 : risE [2, 0, 3, 1, 4] = ([0, 2, 4], 0) := by kernel_rfl
theorem mk5 : makE [2, 0, 3, 1, 4] [(1, 0), (3, 1)] = ([0, 1, 2, 3, 4], 0) := by kernel_rfl
end Go.AM
/-
  What the chapter says of its examples (awake).
-/
namespace Go.AM
open Go.Proofs.Try
theorem dschL23 {p : Prop} (h : p := by first | exact Nat.ne_of_beq_eq_false rfl | assumption | (apply asOne; (first | exact One.int | exact One.bool | assumption | exact Ints.one (by assumption) | exact Rows.one (by assumption) | exact Own.one (by assumption) | exact One.lit ⟨rfl, rfl, rfl⟩)) | (apply asInts; (repeat first | assumption | exact ints_nil | apply Ints.app); done) | (apply asRows; (repeat first | assumption | exact Rows.nil | apply Rows.app); done) | (apply asScal; (first | apply allS1 | apply allS2 | apply allS3 | apply allS4) <;> (first | exact One.int | exact One.bool | assumption | exact Ints.one (by assumption) | exact Rows.one (by assumption) | exact Own.one (by assumption) | exact One.lit ⟨rfl, rfl, rfl⟩)) | exact litT rfl | exact litF rfl | omega | (simp only [List.length_append, List.length_cons, List.length_nil, List.length_set, List.length_reverse]; first | done | omega) | fail) : p := h
attribute [-go_sem] put_ne put_same
attribute [local go_sem ↓] put_if
theorem small5 : Small [2, 0, 3, 1, 4] := ⟨by decide, by decide⟩
set_option maxRecDepth 100000 in
set_option maxHeartbeats 4000000 in
theorem run_awake {base : Nat} {h : Heap} : callL prog raw base (.fn 28 [] []) [] h = some (.bool true, h) := by
  obtain ⟨b, eb⟩ : ∃ b, b = h.length := ⟨_, rfl⟩
  obtain ⟨v1, H1, e1, x1, c1⟩ := run_Four (base := h.length) (r := 2) (h := h) (Nat.le_refl _) (by omega)
  have n1 := x1.len
  obtain ⟨_, H2, e2, x2, k1, rfl, o2⟩ := run_Known (base := h.length) (h := H1) (by omega) c1
  rw [kw4] at e2 o2
  have n2 := x2.len
  obtain ⟨v3, H3, e3, x3, c3⟩ := run_Four (base := h.length) (r := 2) (h := H2) (by omega) (by omega)
  have n3 := x3.len
  have e4 := run_Count (base := h.length) c3
  rw [cn4] at e4
  obtain ⟨v5, H5, e5, x5, c5⟩ := run_Four (base := h.length) (r := 2) (h := H3) (by omega) (by omega)
  have n5 := x5.len
  have e6 := run_Ask (base := h.length) c5
  rw [as4] at e6
  obtain ⟨v7, H7, e7, x7, c7⟩ := run_Four (base := h.length) (r := 4) (h := H5) (by omega) (by omega)
  have n7 := x7.len
  obtain ⟨H8, eH8⟩ : ∃ H8, H8 = H7 ++ [rowB [2, 3] 0] := ⟨_, rfl⟩
  have x8 : Ext H7 H8 := by rw [eH8]; exact .app .refl
  have n8 := x8.len
  have e8 := run_Gapes (base := h.length) (gap := [2, 3]) (gv := .slice (some ⟨H7.length, 0, 0⟩) 2 2) (c7.ext x8) (by rw [eH8]; exact slice_row rfl rfl ⟨by decide, by decide⟩)
  rw [gp4] at e8
  obtain ⟨H9, eH9⟩ : ∃ H9, H9 = H8 ++ [rowB [2, 0, 3, 1, 4] 0] := ⟨_, rfl⟩
  have x9 : Ext H8 H9 := by rw [eH9]; exact .app .refl
  have n9 := x9.len
  obtain ⟨_, H10, e10, x10, k2, rfl, o10⟩ := run_Rise (base := h.length) (h := H9) (v := .slice (some ⟨H8.length, 0, 0⟩) 5 5) (o := [2, 0, 3, 1, 4]) (by omega) (by rw [eH9]; exact slice_row rfl rfl small5)
  rw [ri5] at e10 o10
  have n10 := x10.len
  obtain ⟨H11, eH11⟩ : ∃ H11, H11 = H10 ++ [rowB [2, 0, 3, 1, 4] 0] := ⟨_, rfl⟩
  have x11 : Ext H10 H11 := by rw [eH11]; exact .app .refl
  have n11 := x11.len
  obtain ⟨H12, eH12⟩ : ∃ H12, H12 = H11 ++ [rowE encM 36 [(1, 0), (3, 1)] 0] := ⟨_, rfl⟩
  have x12 : Ext H11 H12 := by rw [eH12]; exact .app .refl
  have n12 := x12.len
  obtain ⟨_, H13, e13, x13, k3, rfl, o13⟩ := run_Make (base := h.length) (h := H12) (v := .slice (some ⟨H10.length, 0, 0⟩) 5 5) (mv := .slice (some ⟨H11.length, 0, 0⟩) 2 2) (o := [2, 0, 3, 1, 4]) (ms := [(1, 0), (3, 1)]) (by omega)
    (Ints.ext (by rw [eH11]; exact slice_row rfl rfl small5) x12) (Rows.own (by rw [eH12]; exact get_eq rfl) rfl (by decide)) (by decide)
  rw [mk5] at e13 o13
  have n13 := x13.len
  have ok1 := o2.one
  have ok2 := o10.one
  have ok3 := o13.one
  have i1 : Ints H2 k1 [2, 0, -1, -1] := ownE_ints o2 ⟨by decide, by decide⟩
  have i2 : Ints H10 k2 [0, 2, 4] := own_ints o10 ⟨by decide, by decide⟩
  have i3 : Ints H13 k3 [0, 1, 2, 3, 4] := ownE_ints o13 ⟨by decide, by decide⟩
  have y10 := (x11.trans x12).trans x13
  have y2 := (((((x3.trans x5).trans x7).trans x8).trans x9).trans x10).trans y10
  obtain ⟨K1, eK1⟩ : ∃ K1, K1 = H13 ++ [rowB [2, 0, -1, -1] 0] := ⟨_, rfl⟩
  have z1 : Ext H13 K1 := by rw [eK1]; exact .app .refl
  obtain ⟨K2, eK2⟩ : ∃ K2, K2 = K1 ++ [rowB [0, 2, 4] 0] := ⟨_, rfl⟩
  have z2 : Ext K1 K2 := by rw [eK2]; exact .app .refl
  obtain ⟨K3, eK3⟩ : ∃ K3, K3 = K2 ++ [rowB [0, 1, 2, 3, 4] 0] := ⟨_, rfl⟩
  have z3 : Ext K2 K3 := by rw [eK3]; exact .app .refl
  have q1 := run_eqI (base := h.length) (h := K1) (b := .slice (some ⟨H13.length, 0, 0⟩) 4 4) (m := [2, 0, -1, -1]) (i1.ext (y2.trans z1)) (by rw [eK1]; exact slice_row rfl rfl ⟨by decide, by decide⟩)
  have q2 := run_eqI (base := h.length) (h := K2) (b := .slice (some ⟨K1.length, 0, 0⟩) 3 3) (m := [0, 2, 4]) (i2.ext ((y10.trans z1).trans z2)) (by rw [eK2]; exact slice_row rfl rfl ⟨by decide, by decide⟩)
  have q3 := run_eqI (base := h.length) (h := K3) (b := .slice (some ⟨K2.length, 0, 0⟩) 5 5) (m := [0, 1, 2, 3, 4]) (i3.ext ((z1.trans z2).trans z3)) (by rw [eK3]; exact slice_row rfl rfl ⟨by decide, by decide⟩)
  rw [decide_eq_true rfl] at q1 q2 q3
  have xf : Ext h K3 := ((((x1.trans x2).trans y2).trans z1).trans z2).trans z3
  rw [show ((2 : Nat) : Int) = 2 from rfl] at e1 e3 e5
  rw [show ((4 : Nat) : Int) = 4 from rfl] at e7
  refine callL_run func28 rfl rfl ?_
  have hsp := @Nat.succ_ne_zero; repeat' (first | simp (disch := first | exact dschL23 | fail) only [go_sem, ↓reduceIte, hsp, e1, e2, e3, e4, e5, e6, e7, bs2, ← eH8, e8, bs5, ← eH9, e10, ← eH11, bsM2, ← eH12, e13, eq_self, decide_true, bs4, ← eK1, q1, bs3, ← eK2, q2, ← eK3, q3] | refine WP_drw ?_ | refine cnd_intro (fun hsp => ?_) fun hsp => ?_)
  exact fB rfl xf
end Go.AM
/-
  LaceRisen, walked: what comes ahead of its loops.
-/
namespace Go.AM
open Go.Proofs.Try
attribute [-go_sem] put_ne put_same
attribute [local go_sem ↓] put_if
/-- Two spools, a number from 1 to 7 and an order of so many cards; the other spool is as it was. -/
structure Risn (h H : Heap) (v0 v1 : AVal) (l0 l1 : List Int) (n : Nat) (w : AVal) (o : List Int) : Prop where
  bd : 1 ≤ n ∧ n ≤ 7
  ext : Ext h H
  own : OwnE encI 3 (h.length + 2) H w o
  ord : Ord n o
  len : h.length + 2 ≤ H.length
  q : SpAt H (h.length + 1) v1 l1 0
end Go.AM
/-
  Contracts: a chain that is made, with the order in which its cards really were laced (Made); rows of what is really seen (Rowed).
-/
namespace Go.AM
open Go.Proofs.Try
attribute [-go_sem] put_ne put_same
attribute [local go_sem ↓] put_if
/-- Cards that were made. -/
structure MadeOk (T : Int) (C : List Int) (N : Nat) : Prop where
  tb : 1 ≤ T ∧ T ≤ 8
  n : 1 ≤ C.length ∧ C.length ≤ N
  c : ∀ x ∈ C, 0 ≤ x ∧ x ≤ 2 ^ T.toNat - 1
  d : C.Nodup
end Go.AM
/-
  Contracts: rows of what is really seen (Rowed); what the statements out of numbers begin with.
-/
namespace Go.AM
open Go.Proofs.Try
attribute [-go_sem] put_ne put_same
attribute [local go_sem ↓] put_if
end Go.AM
/-
  What the statements out of numbers begin with; plain facts of what is found.
-/
namespace Go.AM
open Go.Proofs.Try
attribute [-go_sem] put_ne put_same
attribute [local go_sem ↓] put_if
/-- A chain that was made, in its box, with rows of what is really seen. -/
structure Strt (G H : Heap) (id : Nat) (v : AVal) (silk : List Int) (b : Nat) (T : Int) (C : List Int) (R : List Rw3) (o : List Int) (cv rv ov : AVal) (k N most : Nat) : Prop where
  sp : SpE G id v silk k H
  k : k ≤ 1000
  g : H[b]? = some (lacB T cv rv)
  b : G.length ≤ b ∧ b < H.length
  oC : OwnE encI 3 G.length H cv C
  oR : OwnE encR 70 G.length H rv R
  oO : OwnE encI 3 G.length H ov o
  made : MadeOk T C N
  ord : Ord C.length o
  seen : ∀ r ∈ R, SeenOk T C o r
  rl : R.length ≤ most
section
variable {G H : Heap} {id : Nat} {v : AVal} {silk : List Int} {b : Nat} {T : Int} {C : List Int} {R : List Rw3} {o : List Int} {cv rv ov : AVal} {k N most : Nat}
end
/-! ### What is found -/
end Go.AM
/-
  Plain: positions that decide, and looks.
-/
namespace Go.AM
section
variable {n : Nat} {os : List (List Int)} (hn : os.Nodup) (ho : ∀ o ∈ os, Ord n o)
include hn ho
end
/-! ### Rows of what is seen at a position, whole -/
def lookR (L : Lac) (p k : Nat) : Rw3 := ((p : Int), 2 ^ L.T.toNat - 1, L.C.getD k 0)
/-! ### The position that one look should be at -/
/-- The greatest number of the first cards. -/
def lvsK (os : List (List Int)) (p k : Nat) : Int := grt (lst (fun k => (os.countP fun o => decide (o.getD p 0 = (k : Int)) : Nat)) k)
theorem lvsK_all {n : Nat} {os : List (List Int)} {p : Nat} : lvsK os p n = lvsN n os p := rfl
end Go.AM
/-
  LaceSeen, walked.
-/
namespace Go.AM
open Go.Proofs.Try
attribute [-go_sem] put_ne put_same
attribute [local go_sem ↓] put_if
end Go.AM
/-
  LaceDecided, walked.
-/
namespace Go.AM
open Go.Proofs.Try
attribute [-go_sem] put_ne put_same
attribute [local go_sem ↓] put_if
end Go.AM
/-
  What is found of a chain with any rows; rings and gaps that are returned.
-/
namespace Go.AM
open Go.Proofs.Try
attribute [-go_sem] put_ne put_same
attribute [local go_sem ↓] put_if
end Go.AM
/-
  Plain: rows and cards by threads, as the reference has them.
-/
namespace Go.AM
theorem bit_out {x T t : Nat} (h : x < 2 ^ T) (ht : T ≤ t) : x.testBit t = false := Nat.testBit_lt_two_pow (Nat.lt_of_lt_of_le h (Nat.pow_le_pow_right (by decide) ht))
theorem sub_iff {T s m : Nat} (hs : s < 2 ^ T) : (∀ t, t < T → s.testBit t = true → m.testBit t = true) ↔ s &&& m = s := by
  constructor
  · intro h
    refine Nat.eq_of_testBit_eq fun t => ?_
    rw [Nat.testBit_and]
    by_cases ht : t < T
    · cases hb : s.testBit t with
      | false => rfl
      | true => rw [h t ht hb]; rfl
    · rw [bit_out hs (by omega)]; rfl
  · intro h t _ hb
    have := congrArg (fun x => x.testBit t) h
    simp only [Nat.testBit_and, hb, Bool.true_and] at this
    exact this
theorem agr_iff {T c m s : Nat} (hc : c < 2 ^ T) (hs : s < 2 ^ T) (hsub : s &&& m = s) : (∀ t, t < T → m.testBit t = true → c.testBit t = s.testBit t) ↔ c &&& m = s := by
  have hb := (sub_iff (m := m) hs).2 hsub
  constructor
  · intro h
    refine Nat.eq_of_testBit_eq fun t => ?_
    rw [Nat.testBit_and]
    by_cases ht : t < T
    · cases hm : m.testBit t with
      | true => rw [h t ht hm, Bool.and_true]
      | false =>
        rw [Bool.and_false]
        cases hq : s.testBit t with
        | false => rfl
        | true => rw [hb t ht hq] at hm; cases hm
    · rw [bit_out hc (by omega), bit_out hs (by omega)]; rfl
  · intro h t ht hm
    have := congrArg (fun x => x.testBit t) h
    simp only [Nat.testBit_and, hm, Bool.and_true] at this
    exact this
/-- Does a row agree with a card, thread by thread? -/
def agrB (L : Lac) (r : Rw3) (k : Nat) : Bool := (List.range L.T.toNat).all fun t => !r.2.1.toNat.testBit t || ((L.C.getD k 0).toNat.testBit t == r.2.2.toNat.testBit t)
theorem agrB_iff {L : Lac} (hL : LacOk L) {r : Rw3} (hr : r ∈ L.R) {k : Nat} (hk : k < L.C.length) : agrB L r k = true ↔ (L.C.getD k 0).toNat &&& r.2.1.toNat = r.2.2.toNat := by
  have hp : (2 : Int) ^ L.T.toNat = ((2 ^ L.T.toNat : Nat) : Int) := by simp
  have hc := hL.c _ (getD_mem' (d := 0) hk)
  have hr' := hL.r r hr
  rw [hp] at hc hr'
  rw [← agr_iff (T := L.T.toNat) (by omega) (by omega) hr'.2.2.2]
  unfold agrB
  simp only [List.all_eq_true, List.mem_range, Bool.or_eq_true, Bool.not_eq_true', beq_iff_eq]
  constructor
  · intro h t ht hm
    rcases h t ht with q | q
    · rw [hm] at q; cases q
    · exact q
  · intro h t ht
    cases hm : r.2.1.toNat.testBit t with
    | false => exact .inl rfl
    | true => exact .inr (h t ht hm)
def fitR (L : Lac) (p k : Nat) : Bool := L.R.all fun r => !decide (r.1.toNat % L.C.length = p) || agrB L r k
/-- Does an order explain the rows? -/
def xplB (L : Lac) (o : List Int) : Bool := L.R.all fun r => agrB L r (o.getD (r.1.toNat % o.length) 0).toNat
theorem xplB_iff {L : Lac} (hL : LacOk L) {o : List Int} (ho : Ord L.C.length o) : xplB L o = true ↔ Xpl L o := by
  have hn := hL.n
  rw [xpl_rows (by omega) ho.1]
  unfold xplB
  rw [List.all_eq_true]
  constructor
  · intro h r hr
    have := h r hr
    rw [ho.1] at this
    have hm := Nat.mod_lt r.1.toNat (show 0 < L.C.length by omega)
    have hk := (ord_at ho hm).2
    exact (agrB_iff hL hr (by omega)).1 this
  · intro h r hr
    rw [ho.1]
    have hm := Nat.mod_lt r.1.toNat (show 0 < L.C.length by omega)
    have hk := (ord_at ho hm).2
    exact (agrB_iff hL hr (by omega)).2 (h r hr)
/-- All orders that explain the rows, as the reference finds them. -/
def allR (L : Lac) : List (List Int) := (ordsF (fun _ _ => true) L.C.length L.C.length []).filter (xplB L)
end Go.AM
/-
  The reference: bounds, sets, threads, lists without a number twice, orders.
-/
namespace Go.AM
open Go.Proofs.Try
theorem dschL56 {p : Prop} (h : p := by first | exact Nat.ne_of_beq_eq_false rfl | assumption | (apply asOne; (first | exact One.int | exact One.bool | assumption | exact Ints.one (by assumption) | exact Rows.one (by assumption) | exact Own.one (by assumption) | exact One.lit ⟨rfl, rfl, rfl⟩)) | (apply asInts; (repeat first | assumption | exact ints_nil | apply Ints.app); done) | (apply asRows; (repeat first | assumption | exact Rows.nil | apply Rows.app); done) | (apply asScal; (first | apply allS1 | apply allS2 | apply allS3 | apply allS4) <;> (first | exact One.int | exact One.bool | assumption | exact Ints.one (by assumption) | exact Rows.one (by assumption) | exact Own.one (by assumption) | exact One.lit ⟨rfl, rfl, rfl⟩)) | exact litT rfl | exact litF rfl | omega | (simp only [List.length_append, List.length_cons, List.length_nil, List.length_set, List.length_reverse]; first | done | omega) | fail) : p := h
attribute [-go_sem] put_ne put_same
attribute [local go_sem ↓] put_if
theorem run_off {base : Nat} {h : Heap} {n lo hi : Int} : callL prog raw base (.fn 97 [] []) [.int .i64 n, .int .i64 lo, .int .i64 hi] h = some (.bool (!decide (lo ≤ n ∧ n ≤ hi)), h) := by
  refine callL_run func97 rfl rfl ?_
  by_cases c : n < lo
  · have t1 : (n < lo) = True := eq_true c
    have hsp := @Nat.succ_ne_zero; repeat' (first | simp (disch := first | exact dschL56 | fail) only [go_sem, ↓reduceIte, hsp, t1] | refine WP_drw ?_ | refine cnd_intro (fun hsp => ?_) fun hsp => ?_)
    exact fB (by rw [decide_eq_false (by omega)]; rfl)
  · have t1 : (n < lo) = False := eq_false c
    by_cases d : n > hi
    · have t2 : (n > hi) = True := eq_true d
      have hsp := @Nat.succ_ne_zero; repeat' (first | simp (disch := first | exact dschL56 | fail) only [go_sem, ↓reduceIte, hsp, t1, t2] | refine WP_drw ?_ | refine cnd_intro (fun hsp => ?_) fun hsp => ?_)
      exact fB (by rw [decide_eq_false (by omega)]; rfl)
    · have t2 : (n > hi) = False := eq_false d
      have hsp := @Nat.succ_ne_zero; repeat' (first | simp (disch := first | exact dschL56 | fail) only [go_sem, ↓reduceIte, hsp, t1, t2] | refine WP_drw ?_ | refine cnd_intro (fun hsp => ?_) fun hsp => ?_)
      exact fB (by rw [decide_eq_true (by omega)]; rfl)
theorem run_sets {base T : Nat} {h : Heap} (hT : T ≤ 20) : callL prog raw base (.fn 98 [] []) [.int .i64 (T : Int)] h = some (.int .i64 ((2 ^ T : Nat) : Int), h) := by
  refine callL_run func98 rfl rfl ?_
  have hsp := @Nat.succ_ne_zero; repeat' (first | simp (disch := first | exact dschL56 | fail) only [go_sem, ↓reduceIte, hsp] | refine WP_drw ?_ | refine cnd_intro (fun hsp => ?_) fun hsp => ?_)
  refine WP_count [(3, 11)] 0 T (Nat.zero_le _) (fun _ i fr H => fr 4 = .int .i64 (i : Int) ∧ fr 3 = .int .i64 ((2 ^ i : Nat) : Int) ∧ H = h) ?_ ?_ ?_
  · exact ⟨by (simp (disch := first | exact dschL56 | fail) only [go_sem, ↓reduceIte, Int.natCast_zero]; first | done | rfl), by simp (disch := first | exact dschL56 | fail) only [go_sem, ↓reduceIte]; rfl, rfl⟩
  · rintro i fr H hi0 hi hA ⟨r4, r3, rfl⟩
    have q0 := hA 0 rfl
    have q2 := hA 2 rfl
    try simp (disch := first | exact dschL56 | fail) only [go_sem, ↓reduceIte] at q0 q2
    have hlt : ((i : Int) < (T : Int)) = True := eq_true (by omega)
    have hp : 2 ^ i ≤ 2 ^ 20 := Nat.pow_le_pow_right (by decide) (by omega)
    have hm : binA prog .mul 3 (.int .i64 2) (.int .i64 ((2 ^ i : Nat) : Int)) = some (.int .i64 ((2 ^ (i + 1) : Nat) : Int)) := by
      rw [Nat.pow_succ]
      generalize 2 ^ i = p at hp
      rw [bin_mul, wrap64 (by omega) (by omega)]
      congr 2; omega
    have hsp := @Nat.succ_ne_zero; repeat' (first | simp (disch := first | exact dschL56 | fail) only [go_sem, ↓reduceIte, hsp, r4, r3, q0, q2, hlt, hm] | refine WP_drw ?_ | refine cnd_intro (fun hsp => ?_) fun hsp => ?_)
    exact ⟨by (repeat first | exact Agree.refl | assumption | refine Agree.put rfl ?_ | refine Agree.put0 ?_ | refine Agree.sub rfl (by assumption) ?_), by omega⟩
  · rintro fr H hA ⟨r4, r3, rfl⟩
    have q0 := hA 0 rfl
    have q2 := hA 2 rfl
    try simp (disch := first | exact dschL56 | fail) only [go_sem, ↓reduceIte] at q0 q2
    have hlt : ((T : Int) < (T : Int)) = False := eq_false (by omega)
    have hsp := @Nat.succ_ne_zero; repeat' (first | simp (disch := first | exact dschL56 | fail) only [go_sem, ↓reduceIte, hsp, r4, r3, q0, q2, hlt] | refine WP_drw ?_ | refine cnd_intro (fun hsp => ?_) fun hsp => ?_)
    exact fI rfl
theorem run_lifts {base x k : Nat} {h : Heap} (hx : x < 4611686018427387904) (hk : k ≤ 100) : callL prog raw base (.fn 99 [] []) [.int .i64 (x : Int), .int .i64 (k : Int)] h = some (.bool (x.testBit k), h) := by
  refine callL_run func99 rfl rfl ?_
  have hsp := @Nat.succ_ne_zero; repeat' (first | simp (disch := first | exact dschL56 | fail) only [go_sem, ↓reduceIte, hsp] | refine WP_drw ?_ | refine cnd_intro (fun hsp => ?_) fun hsp => ?_)
  refine WP_count [(0, 0), (5, 12)] 0 k (Nat.zero_le _) (fun _ i fr H => fr 5 = .int .i64 (i : Int) ∧ fr 0 = .int .i64 ((x / 2 ^ i : Nat) : Int) ∧ H = h) ?_ ?_ ?_
  · exact ⟨by (simp (disch := first | exact dschL56 | fail) only [go_sem, ↓reduceIte, Int.natCast_zero]; first | done | rfl), by simp (disch := first | exact dschL56 | fail) only [go_sem, ↓reduceIte]; simp, rfl⟩
  · rintro i fr H hi0 hi hA ⟨r5, r0, rfl⟩
    have q1 := hA 1 rfl
    have q4 := hA 4 rfl
    try simp (disch := first | exact dschL56 | fail) only [go_sem, ↓reduceIte] at q1 q4
    have hlt : ((i : Int) < (k : Int)) = True := eq_true (by omega)
    have hd : x / 2 ^ i ≤ x := Nat.div_le_self _ _
    have hm : binA prog .quo 3 (.int .i64 ((x / 2 ^ i : Nat) : Int)) (.int .i64 2) = some (.int .i64 ((x / 2 ^ (i + 1) : Nat) : Int)) := by
      rw [show x / 2 ^ (i + 1) = x / 2 ^ i / 2 by rw [Nat.pow_succ, Nat.div_div_eq_div_mul]]
      generalize x / 2 ^ i = y at hd
      show some (AVal.int .i64 (IntKind.i64.wrap ((y : Int).tdiv 2))) = _
      have e : ((y : Int).tdiv 2) = ((y / 2 : Nat) : Int) := rfl
      rw [e, wrap64 (by omega) (by omega)]
    have hsp := @Nat.succ_ne_zero; repeat' (first | simp (disch := first | exact dschL56 | fail) only [go_sem, ↓reduceIte, hsp, r5, r0, q1, q4, hlt, hm] | refine WP_drw ?_ | refine cnd_intro (fun hsp => ?_) fun hsp => ?_)
    exact ⟨by (repeat first | exact Agree.refl | assumption | refine Agree.put rfl ?_ | refine Agree.put0 ?_ | refine Agree.sub rfl (by assumption) ?_), by omega⟩
  · rintro fr H hA ⟨r5, r0, rfl⟩
    have q1 := hA 1 rfl
    have q4 := hA 4 rfl
    try simp (disch := first | exact dschL56 | fail) only [go_sem, ↓reduceIte] at q1 q4
    have hlt : ((k : Int) < (k : Int)) = False := eq_false (by omega)
    have hr := remN (x := ((x / 2 ^ k : Nat) : Int)) (n := 2) (Int.natCast_nonneg _) (by omega)
    rw [Int.toNat_natCast, show ((2 : Nat) : Int) = 2 from rfl] at hr
    have hsp := @Nat.succ_ne_zero; repeat' (first | simp (disch := first | exact dschL56 | fail) only [go_sem, ↓reduceIte, hsp, r5, r0, q1, q4, hlt, hr] | refine WP_drw ?_ | refine cnd_intro (fun hsp => ?_) fun hsp => ?_)
    refine fB ?_
    rw [Nat.testBit_eq_decide_div_mod_eq]
    exact decide_eq_decide.2 (by omega)
set_option maxHeartbeats 1000000 in
theorem run_rtwice {base : Nat} {h : Heap} {v : AVal} {l : List Int} (hI : Ints h v l) : callL prog raw base (.fn 100 [] []) [v] h = some (.bool (twB l), h) := by
  have hlb := hI.1.1
  have ov := hI.one
  have hl := lenI hI
  refine callL_run func100 rfl rfl ?_
  have hsp := @Nat.succ_ne_zero; repeat' (first | simp (disch := first | exact dschL56 | fail) only [go_sem, ↓reduceIte, hsp] | refine WP_drw ?_ | refine cnd_intro (fun hsp => ?_) fun hsp => ?_)
  refine WP_count [(2, 24)] 0 l.length (Nat.zero_le _) (fun _ i fr H => fr 3 = .int .i64 (i : Int) ∧ H = h ∧ (l.take i).Nodup) ?_ ?_ ?_
  · exact ⟨by (simp (disch := first | exact dschL56 | fail) only [go_sem, ↓reduceIte, Int.natCast_zero]; first | done | rfl), rfl, by simp⟩
  · rintro i fr H hi0 hi hA ⟨r3, rfl, hn⟩
    have q0 := hA 0 rfl
    try simp (disch := first | exact dschL56 | fail) only [go_sem, ↓reduceIte] at q0
    have hlt : ((i : Int) < (l.length : Int)) = True := eq_true (by omega)
    have ai := adrI (i := (i : Int)) (by omega) hI (by omega)
    rw [Int.toNat_natCast] at ai
    have li := loadI hI hi
    have hsp := @Nat.succ_ne_zero; repeat' (first | simp (disch := first | exact dschL56 | fail) only [go_sem, ↓reduceIte, hsp, r3, q0, hl, hlt] | refine WP_drw ?_ | refine cnd_intro (fun hsp => ?_) fun hsp => ?_)
    refine WP_count [(2, 2), (4, 24)] 0 i (Nat.zero_le _) (fun _ j fr K => fr 4 = .int .i64 (j : Int) ∧ K = H ∧ ∀ m, m < j → l.getD i 0 ≠ l.getD m 0) ?_ ?_ ?_
    · exact ⟨by (simp (disch := first | exact dschL56 | fail) only [go_sem, ↓reduceIte, Int.natCast_zero]; first | done | rfl), rfl, fun m hm => by omega⟩
    · rintro j fr2 K hj0 hj hA2 ⟨r4, rfl, hd⟩
      have d0 := hA2 0 rfl
      have d3 := hA2 3 rfl
      try simp (disch := first | exact dschL56 | fail) only [go_sem, ↓reduceIte, q0] at d0 d3
      have hlt2 : ((j : Int) < (i : Int)) = True := eq_true (by omega)
      have aj := adrI (i := (j : Int)) (by omega) hI (by omega)
      rw [Int.toNat_natCast] at aj
      have lj := loadI hI (i := j) (by omega)
      by_cases c : l.getD i 0 = l.getD j 0
      · have t1 : (l.getD i 0 = l.getD j 0) = True := eq_true c
        have hsp := @Nat.succ_ne_zero; repeat' (first | simp (disch := first | exact dschL56 | fail) only [go_sem, ↓reduceIte, hsp, r4, r3, d0, d3, q0, hlt2, ai, li, aj, lj, t1] | refine WP_drw ?_ | refine cnd_intro (fun hsp => ?_) fun hsp => ?_)
        refine fB ?_
        unfold twB
        refine (decide_eq_true ?_).symm
        intro hN
        rw [getD_at hi, getD_at (show j < l.length by omega)] at c
        have := nodup_inj hN _ _ c
        omega
      · have t1 : (l.getD i 0 = l.getD j 0) = False := eq_false c
        have hsp := @Nat.succ_ne_zero; repeat' (first | simp (disch := first | exact dschL56 | fail) only [go_sem, ↓reduceIte, hsp, r4, r3, d0, d3, q0, hlt2, ai, li, aj, lj, t1] | refine WP_drw ?_ | refine cnd_intro (fun hsp => ?_) fun hsp => ?_)
        refine ⟨by (repeat first | exact Agree.refl | assumption | refine Agree.put rfl ?_ | refine Agree.put0 ?_ | refine Agree.sub rfl (by assumption) ?_), by omega, fun m hm => ?_⟩
        by_cases e : m = j
        · rw [e]; exact c
        · exact hd m (by omega)
    · rintro fr2 K hA2 ⟨r4, rfl, hd⟩
      have d0 := hA2 0 rfl
      have d3 := hA2 3 rfl
      try simp (disch := first | exact dschL56 | fail) only [go_sem, ↓reduceIte, q0] at d0 d3
      have hlt2 : ((i : Int) < (i : Int)) = False := eq_false (by omega)
      have hsp := @Nat.succ_ne_zero; repeat' (first | simp (disch := first | exact dschL56 | fail) only [go_sem, ↓reduceIte, hsp, r4, r3, d0, d3, q0, hlt2] | refine WP_drw ?_ | refine cnd_intro (fun hsp => ?_) fun hsp => ?_)
      refine ⟨by (repeat first | exact Agree.refl | assumption | refine Agree.put rfl ?_ | refine Agree.put0 ?_ | refine Agree.sub rfl (by assumption) ?_), by omega, ?_⟩
      rw [take_succ' hi, nodup_snoc]
      refine ⟨hn, fun hm => ?_⟩
      obtain ⟨m, hm1, hm2⟩ := List.mem_iff_getElem.1 hm
      rw [List.length_take] at hm1
      rw [List.getElem_take] at hm2
      exact hd m (by omega) (by rw [← hm2, getD_at (show m < l.length by omega)])
  · rintro fr H hA ⟨r3, rfl, hn⟩
    have q0 := hA 0 rfl
    try simp (disch := first | exact dschL56 | fail) only [go_sem, ↓reduceIte] at q0
    have hlt : ((l.length : Int) < (l.length : Int)) = False := eq_false (by omega)
    rw [List.take_length] at hn
    have hsp := @Nat.succ_ne_zero; repeat' (first | simp (disch := first | exact dschL56 | fail) only [go_sem, ↓reduceIte, hsp, r3, q0, hl, hlt] | refine WP_drw ?_ | refine cnd_intro (fun hsp => ?_) fun hsp => ?_)
    exact fB (by unfold twB; rw [decide_eq_false (fun q => q hn)])
end Go.AM
/-
  The reference: the error of a chain (Check).
-/
namespace Go.AM
open Go.Proofs.Try
theorem dschL57 {p : Prop} (h : p := by first | exact Nat.ne_of_beq_eq_false rfl | assumption | (apply asOne; (first | exact One.int | exact One.bool | assumption | exact Ints.one (by assumption) | exact Rows.one (by assumption) | exact Own.one (by assumption) | exact One.lit ⟨rfl, rfl, rfl⟩)) | (apply asInts; (repeat first | assumption | exact ints_nil | apply Ints.app); done) | (apply asRows; (repeat first | assumption | exact Rows.nil | apply Rows.app); done) | (apply asScal; (first | apply allS1 | apply allS2 | apply allS3 | apply allS4) <;> (first | exact One.int | exact One.bool | assumption | exact Ints.one (by assumption) | exact Rows.one (by assumption) | exact Own.one (by assumption) | exact One.lit ⟨rfl, rfl, rfl⟩)) | exact litT rfl | exact litF rfl | omega | (simp only [List.length_append, List.length_cons, List.length_nil, List.length_set, List.length_reverse]; first | done | omega) | fail) : p := h
attribute [-go_sem] put_ne put_same
attribute [local go_sem ↓] put_if
abbrev rcB (T : Int) (cv rv : AVal) : ABlk := ⟨.cells [.int .i64 T, cv, rv] 49 false false, 0⟩
abbrev rrB (r : Rw3) : ABlk := ⟨.cells [.int .i64 r.1, .int .i64 r.2.1, .int .i64 r.2.2] 79 false false, 0⟩
section
variable {h : Heap} {rv : AVal} {R : List Rw3} {i : Nat} {r : Rw3}
theorem rrow_ad (hR : Rows encR h rv R) (hi : i < R.length) : indexAddrA prog 47 rv (.int .i64 (i : Int)) = some (elAdr rv encR.z i 0) := by
  have := hR.addr (P := prog) (i := (i : Int)) Fc.el47 Fc.ar47 (by omega) (by omega)
  rwa [Int.toNat_natCast] at this
theorem rrow_f0 (hR : Rows encR h rv R) (hi : i < R.length) : fieldAddrA prog 79 (elAdr rv encR.z i 0) 0 = some (elAdr rv encR.z i 0) := elAdr_field (P := prog) (i := i) (o := 0) (off := 0) (q := false) (n := 1) hR hi (by kernel_rfl) (by decide)
theorem rrow_f1 (hR : Rows encR h rv R) (hi : i < R.length) : fieldAddrA prog 79 (elAdr rv encR.z i 0) 1 = some (elAdr rv encR.z i 1) := elAdr_field (P := prog) (i := i) (o := 0) (off := 1) (q := false) (n := 1) hR hi (by kernel_rfl) (by decide)
theorem rrow_c0 (hR : Rows encR h rv R) (hx : R[i]? = some r) : loadP prog h 3 (elAdr rv encR.z i 0) = some (.int .i64 r.1) := hR.cell (P := prog) Fc.ty3 hx (o := 0) (a := .int .i64 r.1) rfl
theorem rrow_c1 (hR : Rows encR h rv R) (hx : R[i]? = some r) : loadP prog h 3 (elAdr rv encR.z i 1) = some (.int .i64 r.2.1) := hR.cell (P := prog) Fc.ty3 hx (o := 1) (a := .int .i64 r.2.1) rfl
theorem rrow_ld (hR : Rows encR h rv R) (hx : R[i]? = some r) : loadP prog h 79 (elAdr rv encR.z i 0) = some (.agg [.int .i64 r.1, .int .i64 r.2.1, .int .i64 r.2.2]) := hR.load (P := prog) Fc.ty79 hx
end
theorem setB_off {T x : Int} : (!decide (0 ≤ x ∧ x ≤ 2 ^ T.toNat - 1)) = !setB T x := rfl
set_option maxRecDepth 100000 in
set_option maxHeartbeats 4000000 in
theorem run_rcheck {base : Nat} {h : Heap} {v : AVal} {L : Lac} (hL : LacAt h v L) (hcl : L.C.length ≤ 1000) (hrl : L.R.length ≤ 1000) : callL prog raw base (.fn 33 [] []) [v] h = some (.int .i64 (chkL L), h) := by
  obtain ⟨cv, rv, rfl, hC, hR⟩ := hL
  have o1 := hC.one
  have o2 := hR.one
  obtain ⟨G, eG⟩ : ∃ G, G = h ++ [rcB L.T cv rv] := ⟨_, rfl⟩
  have xG : Ext h G := by rw [eG]; exact .app .refl
  have g0 : G[h.length]? = some (rcB L.T cv rv) := by rw [eG]; exact get_eq rfl
  have iC := hC.ext xG
  have iR := hR.ext xG
  have hn1 := lenI iC
  have hn2 := iR.len (P := prog) Fc.el47
  have of0 := fun base => run_off (base := base) (h := G) (n := L.T) (lo := 1) (hi := 8)
  unfold rcB at eG g0
  refine callL_run func33 rfl rfl ?_
  by_cases c0 : 1 ≤ L.T ∧ L.T ≤ 8
  · rw [decide_eq_true c0] at of0
    have of1 := fun base => run_off (base := base) (h := G) (n := (L.C.length : Int)) (lo := 1) (hi := 7)
    by_cases c1 : 1 ≤ (L.C.length : Int) ∧ (L.C.length : Int) ≤ 7
    · rw [decide_eq_true c1] at of1
      by_cases c2 : (L.R.length : Int) > 12
      · have t2 : ((L.R.length : Int) > 12) = True := eq_true c2
        have hsp := @Nat.succ_ne_zero; repeat' (first | simp (disch := first | exact dschL57 | fail) only [go_sem, ↓reduceIte, hsp, ← eG, g0, of0, Bool.not_true, hn1, of1, hn2, t2] | refine WP_drw ?_ | refine cnd_intro (fun hsp => ?_) fun hsp => ?_)
        refine fI ?_ xG
        unfold chkL
        rw [if_neg (by simpa using c0), if_pos (.inr c2)]
      · have t2 : ((L.R.length : Int) > 12) = False := eq_false c2
        have u2 : ¬ (¬ (1 ≤ (L.C.length : Int) ∧ (L.C.length : Int) ≤ 7) ∨ (L.R.length : Int) > 12) := by omega
        have u0 : ¬ ¬ (1 ≤ L.T ∧ L.T ≤ 8) := fun q => q c0
        obtain ⟨T, eT⟩ := Int.eq_ofNat_of_zero_le (show 0 ≤ L.T by omega)
        have hs := fun base => run_sets (base := base) (T := T) (h := G) (by omega)
        obtain ⟨W, eW⟩ : ∃ W : Int, W = 2 ^ L.T.toNat - 1 := ⟨_, rfl⟩
        have hW : ((2 ^ T : Nat) : Int) - 1 = W := by rw [eW, eT, Int.toNat_natCast]; simp
        have hp : 2 ^ T ≤ 2 ^ 8 := Nat.pow_le_pow_right (by decide) (by omega)
        have hp1 := Nat.one_le_two_pow (n := T)
        have hsb : ∀ x, setB L.T x = decide (0 ≤ x ∧ x ≤ W) := fun x => by rw [eW]; rfl
        obtain ⟨P2, eP2⟩ : ∃ P2, P2 = 2 ^ T := ⟨_, rfl⟩
        rw [← eP2] at hs hW hp hp1
        rw [← eT] at hs
        have hsp := @Nat.succ_ne_zero; repeat' (first | simp (disch := first | exact dschL57 | fail) only [go_sem, ↓reduceIte, hsp, ← eG, g0, of0, Bool.not_true, hn1, of1, hn2, t2, hs, hW] | refine WP_drw ?_ | refine cnd_intro (fun hsp => ?_) fun hsp => ?_)
        refine WP_count [(2, 2), (4, 41)] 0 L.C.length (Nat.zero_le _) (fun _ i fr H => fr 4 = .int .i64 (i : Int) ∧ H = G ∧ (L.C.take i).all (setB L.T) = true) ?_ ?_ ?_
        · exact ⟨by (simp (disch := first | exact dschL57 | fail) only [go_sem, ↓reduceIte, Int.natCast_zero]; first | done | rfl), rfl, by simp⟩
        · rintro i fr H hi0 hi hA ⟨r4, rfl, ha⟩
          have q1 := hA 1 rfl
          have q3 := hA 3 rfl
          try simp (disch := first | exact dschL57 | fail) only [go_sem, ↓reduceIte] at q1 q3
          have hlt : ((i : Int) < (L.C.length : Int)) = True := eq_true (by omega)
          have ai := adrI (i := (i : Int)) (by omega) iC (by omega)
          rw [Int.toNat_natCast] at ai
          have li := loadI iC hi
          have hx : L.C[i]? = some (L.C.getD i 0) := getD_some hi
          have ho := fun base => run_off (base := base) (h := H) (n := L.C.getD i 0) (lo := 0) (hi := W)
          rw [← hsb] at ho
          cases d : setB L.T (L.C.getD i 0) with
          | true =>
            rw [d] at ho
            have hsp := @Nat.succ_ne_zero; repeat' (first | simp (disch := first | exact dschL57 | fail) only [go_sem, ↓reduceIte, hsp, r4, q1, q3, g0, hn1, hlt, ai, li, ho, Bool.not_true] | refine WP_drw ?_ | refine cnd_intro (fun hsp => ?_) fun hsp => ?_)
            exact ⟨by (repeat first | exact Agree.refl | assumption | refine Agree.put rfl ?_ | refine Agree.put0 ?_ | refine Agree.sub rfl (by assumption) ?_), by omega, all_take hx ha d⟩
          | false =>
            rw [d] at ho
            have hsp := @Nat.succ_ne_zero; repeat' (first | simp (disch := first | exact dschL57 | fail) only [go_sem, ↓reduceIte, hsp, r4, q1, q3, g0, hn1, hlt, ai, li, ho, Bool.not_false] | refine WP_drw ?_ | refine cnd_intro (fun hsp => ?_) fun hsp => ?_)
            refine fI ?_ xG
            unfold chkL
            rw [if_neg u0, if_neg u2, if_pos (.inl (by rw [all_no hx d]; simp))]
        · rintro fr H hA ⟨r4, rfl, ha⟩
          have q1 := hA 1 rfl
          have q3 := hA 3 rfl
          try simp (disch := first | exact dschL57 | fail) only [go_sem, ↓reduceIte] at q1 q3
          have hlt : ((L.C.length : Int) < (L.C.length : Int)) = False := eq_false (by omega)
          rw [List.take_length] at ha
          have hsp := @Nat.succ_ne_zero; repeat' (first | simp (disch := first | exact dschL57 | fail) only [go_sem, ↓reduceIte, hsp, r4, q1, q3, g0, hn1, hlt] | refine WP_drw ?_ | refine cnd_intro (fun hsp => ?_) fun hsp => ?_)
          refine WP_count [(2, 2), (5, 65)] 0 L.R.length (Nat.zero_le _) (fun _ i fr K => fr 5 = .int .i64 (i : Int) ∧ K = H ∧ (L.R.take i).all (fun r => decide (0 ≤ r.1 ∧ r.1 ≤ 999) && setB L.T r.2.1) = true) ?_ ?_ ?_
          · exact ⟨by (simp (disch := first | exact dschL57 | fail) only [go_sem, ↓reduceIte, Int.natCast_zero]; first | done | rfl), rfl, by simp⟩
          · rintro i fr2 K hi0 hi hA2 ⟨r5, rfl, ha2⟩
            have d1 := hA2 1 rfl
            have d3 := hA2 3 rfl
            try simp (disch := first | exact dschL57 | fail) only [go_sem, ↓reduceIte, q1, q3] at d1 d3
            have hlt2 : ((i : Int) < (L.R.length : Int)) = True := eq_true (by omega)
            obtain ⟨r, er⟩ : ∃ r, r = L.R[i] := ⟨_, rfl⟩
            have hx : L.R[i]? = some r := by rw [er]; exact List.getElem?_eq_getElem hi
            have a1 := rrow_ad iR hi
            have a2 := rrow_f0 iR hi
            have a3 := rrow_f1 iR hi
            have b1 := rrow_c0 iR hx
            have b2 := rrow_c1 iR hx
            have h1 := fun base => run_off (base := base) (h := K) (n := r.1) (lo := 0) (hi := 999)
            have h2 := fun base => run_off (base := base) (h := K) (n := r.2.1) (lo := 0) (hi := W)
            rw [← hsb] at h2
            cases w1 : decide (0 ≤ r.1 ∧ r.1 ≤ 999) with
            | false =>
              rw [w1] at h1
              have hsp := @Nat.succ_ne_zero; repeat' (first | simp (disch := first | exact dschL57 | fail) only [go_sem, ↓reduceIte, hsp, r5, d1, d3, q1, q3, g0, hn2, hlt2, a1, a2, b1, h1, Bool.not_false] | refine WP_drw ?_ | refine cnd_intro (fun hsp => ?_) fun hsp => ?_)
              refine fI ?_ xG
              unfold chkL
              rw [if_neg u0, if_neg u2, if_pos (.inr (by rw [all_no hx (by rw [w1]; rfl)]; simp))]
            | true =>
              rw [w1] at h1
              cases w2 : setB L.T r.2.1 with
              | false =>
                rw [w2] at h2
                have hsp := @Nat.succ_ne_zero; repeat' (first | simp (disch := first | exact dschL57 | fail) only [go_sem, ↓reduceIte, hsp, r5, d1, d3, q1, q3, g0, hn2, hlt2, a1, a2, a3, b1, b2, h1, h2, Bool.not_true, Bool.not_false] | refine WP_drw ?_ | refine cnd_intro (fun hsp => ?_) fun hsp => ?_)
                refine fI ?_ xG
                unfold chkL
                rw [if_neg u0, if_neg u2, if_pos (.inr (by rw [all_no hx (by rw [w1, w2]; rfl)]; simp))]
              | true =>
                rw [w2] at h2
                have hsp := @Nat.succ_ne_zero; repeat' (first | simp (disch := first | exact dschL57 | fail) only [go_sem, ↓reduceIte, hsp, r5, d1, d3, q1, q3, g0, hn2, hlt2, a1, a2, a3, b1, b2, h1, h2, Bool.not_true] | refine WP_drw ?_ | refine cnd_intro (fun hsp => ?_) fun hsp => ?_)
                exact ⟨by (repeat first | exact Agree.refl | assumption | refine Agree.put rfl ?_ | refine Agree.put0 ?_ | refine Agree.sub rfl (by assumption) ?_), by omega, all_take hx ha2 (by rw [w1, w2]; rfl)⟩
          · rintro fr2 K hA2 ⟨r5, rfl, ha2⟩
            have d1 := hA2 1 rfl
            have d3 := hA2 3 rfl
            try simp (disch := first | exact dschL57 | fail) only [go_sem, ↓reduceIte, q1, q3] at d1 d3
            have hlt2 : ((L.R.length : Int) < (L.R.length : Int)) = False := eq_false (by omega)
            rw [List.take_length] at ha2
            have u3 : ¬ (¬ (L.C.all (setB L.T)) = true ∨ ¬ (L.R.all fun r => decide (0 ≤ r.1 ∧ r.1 ≤ 999) && setB L.T r.2.1) = true) := by rw [ha, ha2]; simp
            have hsp := @Nat.succ_ne_zero; repeat' (first | simp (disch := first | exact dschL57 | fail) only [go_sem, ↓reduceIte, hsp, r5, d1, d3, q1, q3, g0, hn2, hlt2] | refine WP_drw ?_ | refine cnd_intro (fun hsp => ?_) fun hsp => ?_)
            refine WP_count [(2, 2), (6, 98)] 0 L.R.length (Nat.zero_le _) (fun _ i fr K2 => fr 6 = .int .i64 (i : Int) ∧ Ext K K2 ∧ (L.R.take i).all (fun r => setB L.T r.2.2 && subB r.2.2 r.2.1) = true) ?_ ?_ ?_
            · exact ⟨by (simp (disch := first | exact dschL57 | fail) only [go_sem, ↓reduceIte, Int.natCast_zero]; first | done | rfl), .refl, by simp⟩
            · rintro i fr3 K2 hi0 hi hA3 ⟨r6, xK, ha3⟩
              have z1 := hA3 1 rfl
              have z3 := hA3 3 rfl
              try simp (disch := first | exact dschL57 | fail) only [go_sem, ↓reduceIte, d1, d3] at z1 z3
              have hlt3 : ((i : Int) < (L.R.length : Int)) = True := eq_true (by omega)
              obtain ⟨r, er⟩ : ∃ r, r = L.R[i] := ⟨_, rfl⟩
              have hx : L.R[i]? = some r := by rw [er]; exact List.getElem?_eq_getElem hi
              have hmk := List.all_eq_true.1 ha2 r (List.mem_of_getElem? hx)
              rw [Bool.and_eq_true, hsb, decide_eq_true_eq, decide_eq_true_eq] at hmk
              have iR2 := iR.ext xK
              have a1 := rrow_ad iR2 hi
              have b1 := rrow_ld iR2 hx
              have hn2' := iR2.len (P := prog) Fc.el47
              have g2 := xK.get g0
              obtain ⟨K3, eK3⟩ : ∃ K3, K3 = K2 ++ [rrB r] := ⟨_, rfl⟩
              have x3 : Ext K2 K3 := by rw [eK3]; exact .app .refl
              have g3 : K3[K2.length]? = some (rrB r) := by rw [eK3]; exact get_eq rfl
              have g03 := x3.get g2
              have h1 := fun base => run_off (base := base) (h := K3) (n := r.2.2) (lo := 0) (hi := W)
              rw [← hsb] at h1
              have xf := (xG.trans xK).trans x3
              have lK2 := (xG.trans xK).len
              unfold rrB at eK3 g3
              cases w1 : setB L.T r.2.2 with
              | false =>
                rw [w1] at h1
                have hsp := @Nat.succ_ne_zero; repeat' (first | simp (disch := first | exact dschL57 | fail) only [go_sem, ↓reduceIte, hsp, r6, z1, z3, d1, d3, q1, q3, g2, hn2', hlt3, a1, b1, ← eK3, g3, h1, Bool.not_false] | refine WP_drw ?_ | refine cnd_intro (fun hsp => ?_) fun hsp => ?_)
                refine fI ?_ xf
                unfold chkL
                rw [if_neg u0, if_neg u2, if_neg u3, if_pos (by rw [all_no hx (by rw [w1]; rfl)]; simp)]
              | true =>
                rw [w1] at h1
                have hsw := w1
                rw [hsb, decide_eq_true_eq] at hsw
                obtain ⟨mk, emk⟩ := Int.eq_ofNat_of_zero_le hmk.2.1
                obtain ⟨sw, esw⟩ := Int.eq_ofNat_of_zero_le hsw.1
                rw [esw] at hsw
                rw [emk] at hmk
                rw [esw] at h1
                rw [emk, esw] at g3
                have hsT : sw < 2 ^ T := by rw [← eP2]; omega
                have hsp := @Nat.succ_ne_zero; repeat' (first | simp (disch := first | exact dschL57 | fail) only [go_sem, ↓reduceIte, hsp, r6, z1, z3, d1, d3, q1, q3, g2, hn2', hlt3, a1, b1, ← eK3, g3, h1, Bool.not_true] | refine WP_drw ?_ | refine cnd_intro (fun hsp => ?_) fun hsp => ?_)
                refine WP_count [(2, 2), (8, 98)] 0 T (Nat.zero_le _) (fun _ k fr K4 => fr 8 = .int .i64 (k : Int) ∧ K4 = K3 ∧ ∀ m, m < k → sw.testBit m = true → mk.testBit m = true) ?_ ?_ ?_
                · exact ⟨by (simp (disch := first | exact dschL57 | fail) only [go_sem, ↓reduceIte, Int.natCast_zero]; first | done | rfl), rfl, fun m hm => by omega⟩
                · rintro k fr4 K4 hk0 hk hA4 ⟨r8, rfl, hm⟩
                  have y1 := hA4 1 rfl
                  have y3 := hA4 3 rfl
                  have y6 := hA4 6 rfl
                  have y7 := hA4 7 rfl
                  try simp (disch := first | exact dschL57 | fail) only [go_sem, ↓reduceIte, z1, z3] at y1 y3 y6 y7
                  have hlt4 : ((k : Int) < L.T) = True := eq_true (by omega)
                  have l1 := fun base => run_lifts (base := base) (h := K4) (x := sw) (k := k) (by omega) (by omega)
                  have l2 := fun base => run_lifts (base := base) (h := K4) (x := mk) (k := k) (by omega) (by omega)
                  cases e1 : sw.testBit k with
                  | false =>
                    rw [e1] at l1
                    have hsp := @Nat.succ_ne_zero; repeat' (first | simp (disch := first | exact dschL57 | fail) only [go_sem, ↓reduceIte, hsp, r8, y1, y3, y6, y7, z1, z3, d1, d3, q1, q3, g03, g3, hlt4, l1] | refine WP_drw ?_ | refine cnd_intro (fun hsp => ?_) fun hsp => ?_)
                    refine ⟨by (repeat first | exact Agree.refl | assumption | refine Agree.put rfl ?_ | refine Agree.put0 ?_ | refine Agree.sub rfl (by assumption) ?_), by omega, fun m hmk2 q => ?_⟩
                    by_cases em : m = k
                    · rw [em, e1] at q; cases q
                    · exact hm m (by omega) q
                  | true =>
                    rw [e1] at l1
                    cases e2 : mk.testBit k with
                    | true =>
                      rw [e2] at l2
                      have hsp := @Nat.succ_ne_zero; repeat' (first | simp (disch := first | exact dschL57 | fail) only [go_sem, ↓reduceIte, hsp, r8, y1, y3, y6, y7, z1, z3, d1, d3, q1, q3, g03, g3, hlt4, l1, l2] | refine WP_drw ?_ | refine cnd_intro (fun hsp => ?_) fun hsp => ?_)
                      refine ⟨by (repeat first | exact Agree.refl | assumption | refine Agree.put rfl ?_ | refine Agree.put0 ?_ | refine Agree.sub rfl (by assumption) ?_), by omega, fun m hmk2 q => ?_⟩
                      by_cases em : m = k
                      · rw [em]; exact e2
                      · exact hm m (by omega) q
                    | false =>
                      rw [e2] at l2
                      have hsp := @Nat.succ_ne_zero; repeat' (first | simp (disch := first | exact dschL57 | fail) only [go_sem, ↓reduceIte, hsp, r8, y1, y3, y6, y7, z1, z3, d1, d3, q1, q3, g03, g3, hlt4, l1, l2] | refine WP_drw ?_ | refine cnd_intro (fun hsp => ?_) fun hsp => ?_)
                      refine fI ?_ xf
                      have hsub : subB r.2.2 r.2.1 = false := by
                        unfold subB
                        rw [emk, esw, Int.toNat_natCast, Int.toNat_natCast]
                        refine decide_eq_false fun q => ?_
                        have := (sub_iff hsT).2 q k hk e1
                        rw [e2] at this; cases this
                      unfold chkL
                      rw [if_neg u0, if_neg u2, if_neg u3, if_pos (by rw [all_no hx (by rw [w1, hsub]; rfl)]; simp)]
                · rintro fr4 K4 hA4 ⟨r8, rfl, hm⟩
                  have y1 := hA4 1 rfl
                  have y3 := hA4 3 rfl
                  have y6 := hA4 6 rfl
                  have y7 := hA4 7 rfl
                  try simp (disch := first | exact dschL57 | fail) only [go_sem, ↓reduceIte, z1, z3] at y1 y3 y6 y7
                  have hlt4 : ((T : Int) < L.T) = False := eq_false (by omega)
                  have hsp := @Nat.succ_ne_zero; repeat' (first | simp (disch := first | exact dschL57 | fail) only [go_sem, ↓reduceIte, hsp, r8, y1, y3, y6, y7, z1, z3, d1, d3, q1, q3, g03, g3, hlt4, r6] | refine WP_drw ?_ | refine cnd_intro (fun hsp => ?_) fun hsp => ?_)
                  have hsub : subB r.2.2 r.2.1 = true := by
                    unfold subB
                    rw [emk, esw, Int.toNat_natCast, Int.toNat_natCast]
                    exact decide_eq_true ((sub_iff hsT).1 hm)
                  exact ⟨by (repeat first | exact Agree.refl | assumption | refine Agree.put rfl ?_ | refine Agree.put0 ?_ | refine Agree.sub rfl (by assumption) ?_), by omega, xK.trans x3, all_take hx ha3 (by rw [w1, hsub]; rfl)⟩
            · rintro fr3 K2 hA3 ⟨r6, xK, ha3⟩
              have z1 := hA3 1 rfl
              have z3 := hA3 3 rfl
              try simp (disch := first | exact dschL57 | fail) only [go_sem, ↓reduceIte, d1, d3] at z1 z3
              have hlt3 : ((L.R.length : Int) < (L.R.length : Int)) = False := eq_false (by omega)
              rw [List.take_length] at ha3
              have u4 : ¬ (¬ (L.R.all fun r => setB L.T r.2.2 && subB r.2.2 r.2.1) = true) := by rw [ha3]; simp
              have iR2 := iR.ext xK
              have hn2' := iR2.len (P := prog) Fc.el47
              have g2 := xK.get g0
              have iC2 := iC.ext xK
              have hn1' := lenI iC2
              have hsp := @Nat.succ_ne_zero; repeat' (first | simp (disch := first | exact dschL57 | fail) only [go_sem, ↓reduceIte, hsp, r6, z1, z3, d1, d3, q1, q3, g2, hn2', hlt3] | refine WP_drw ?_ | refine cnd_intro (fun hsp => ?_) fun hsp => ?_)
              refine WP_count [(2, 121)] 0 L.C.length (Nat.zero_le _) (fun _ i fr K => fr 9 = .int .i64 (i : Int) ∧ K = K2 ∧ (L.C.take i).Nodup) ?_ ?_ ?_
              · exact ⟨by (simp (disch := first | exact dschL57 | fail) only [go_sem, ↓reduceIte, Int.natCast_zero]; first | done | rfl), rfl, by simp⟩
              · rintro i fr4 K4 hi0 hi hA4 ⟨r9, rfl, hn⟩
                have y1 := hA4 1 rfl
                try simp (disch := first | exact dschL57 | fail) only [go_sem, ↓reduceIte, z1] at y1
                have hlt4 : ((i : Int) < (L.C.length : Int)) = True := eq_true (by omega)
                have ai := adrI (i := (i : Int)) (by omega) iC2 (by omega)
                rw [Int.toNat_natCast] at ai
                have li := loadI iC2 hi
                have hsp := @Nat.succ_ne_zero; repeat' (first | simp (disch := first | exact dschL57 | fail) only [go_sem, ↓reduceIte, hsp, r9, y1, z1, z3, d1, d3, q1, q3, g2, hn1', hlt4] | refine WP_drw ?_ | refine cnd_intro (fun hsp => ?_) fun hsp => ?_)
                refine WP_count [(2, 2), (10, 121)] 0 i (Nat.zero_le _) (fun _ j fr K => fr 10 = .int .i64 (j : Int) ∧ K = K4 ∧ ∀ m, m < j → L.C.getD i 0 ≠ L.C.getD m 0) ?_ ?_ ?_
                · exact ⟨by (simp (disch := first | exact dschL57 | fail) only [go_sem, ↓reduceIte, Int.natCast_zero]; first | done | rfl), rfl, fun m hm => by omega⟩
                · rintro j fr5 K5 hj0 hj hA5 ⟨r10, rfl, hd⟩
                  have x1 := hA5 1 rfl
                  have x9 := hA5 9 rfl
                  try simp (disch := first | exact dschL57 | fail) only [go_sem, ↓reduceIte, y1] at x1 x9
                  have hlt5 : ((j : Int) < (i : Int)) = True := eq_true (by omega)
                  have aj := adrI (i := (j : Int)) (by omega) iC2 (by omega)
                  rw [Int.toNat_natCast] at aj
                  have lj := loadI iC2 (i := j) (by omega)
                  by_cases c : L.C.getD i 0 = L.C.getD j 0
                  · have t1 : (L.C.getD i 0 = L.C.getD j 0) = True := eq_true c
                    have hsp := @Nat.succ_ne_zero; repeat' (first | simp (disch := first | exact dschL57 | fail) only [go_sem, ↓reduceIte, hsp, r10, r9, x1, x9, y1, z1, z3, d1, d3, q1, q3, hlt5, g2, ai, li, aj, lj, t1] | refine WP_drw ?_ | refine cnd_intro (fun hsp => ?_) fun hsp => ?_)
                    refine fI ?_ (xG.trans xK)
                    have htw : twB L.C = true := by
                      unfold twB
                      refine decide_eq_true ?_
                      intro hN
                      rw [getD_at hi, getD_at (show j < L.C.length by omega)] at c
                      have := nodup_inj hN _ _ c
                      omega
                    unfold chkL
                    rw [if_neg u0, if_neg u2, if_neg u3, if_neg u4, if_pos htw]
                  · have t1 : (L.C.getD i 0 = L.C.getD j 0) = False := eq_false c
                    have hsp := @Nat.succ_ne_zero; repeat' (first | simp (disch := first | exact dschL57 | fail) only [go_sem, ↓reduceIte, hsp, r10, r9, x1, x9, y1, z1, z3, d1, d3, q1, q3, hlt5, g2, ai, li, aj, lj, t1] | refine WP_drw ?_ | refine cnd_intro (fun hsp => ?_) fun hsp => ?_)
                    refine ⟨by (repeat first | exact Agree.refl | assumption | refine Agree.put rfl ?_ | refine Agree.put0 ?_ | refine Agree.sub rfl (by assumption) ?_), by omega, fun m hm => ?_⟩
                    by_cases e : m = j
                    · rw [e]; exact c
                    · exact hd m (by omega)
                · rintro fr5 K5 hA5 ⟨r10, rfl, hd⟩
                  have x1 := hA5 1 rfl
                  have x9 := hA5 9 rfl
                  try simp (disch := first | exact dschL57 | fail) only [go_sem, ↓reduceIte, y1] at x1 x9
                  have hlt5 : ((i : Int) < (i : Int)) = False := eq_false (by omega)
                  have hsp := @Nat.succ_ne_zero; repeat' (first | simp (disch := first | exact dschL57 | fail) only [go_sem, ↓reduceIte, hsp, r10, r9, x1, x9, y1, z1, z3, d1, d3, q1, q3, hlt5] | refine WP_drw ?_ | refine cnd_intro (fun hsp => ?_) fun hsp => ?_)
                  refine ⟨by (repeat first | exact Agree.refl | assumption | refine Agree.put rfl ?_ | refine Agree.put0 ?_ | refine Agree.sub rfl (by assumption) ?_), by omega, ?_⟩
                  rw [take_succ' hi, nodup_snoc]
                  refine ⟨hn, fun hm => ?_⟩
                  obtain ⟨m, hm1, hm2⟩ := List.mem_iff_getElem.1 hm
                  rw [List.length_take] at hm1
                  rw [List.getElem_take] at hm2
                  exact hd m (by omega) (by rw [← hm2, getD_at (show m < L.C.length by omega)])
              · rintro fr4 K4 hA4 ⟨r9, rfl, hn⟩
                have y1 := hA4 1 rfl
                try simp (disch := first | exact dschL57 | fail) only [go_sem, ↓reduceIte, z1] at y1
                have hlt4 : ((L.C.length : Int) < (L.C.length : Int)) = False := eq_false (by omega)
                rw [List.take_length] at hn
                have hsp := @Nat.succ_ne_zero; repeat' (first | simp (disch := first | exact dschL57 | fail) only [go_sem, ↓reduceIte, hsp, r9, y1, z1, z3, d1, d3, q1, q3, g2, hn1', hlt4] | refine WP_drw ?_ | refine cnd_intro (fun hsp => ?_) fun hsp => ?_)
                refine fI ?_ (xG.trans xK)
                have htw : twB L.C = false := by unfold twB; exact decide_eq_false (fun q => q hn)
                unfold chkL
                rw [if_neg u0, if_neg u2, if_neg u3, if_neg u4, if_neg (by rw [htw]; simp)]
    · rw [decide_eq_false c1] at of1
      have hsp := @Nat.succ_ne_zero; repeat' (first | simp (disch := first | exact dschL57 | fail) only [go_sem, ↓reduceIte, hsp, ← eG, g0, of0, Bool.not_true, hn1, of1, Bool.not_false] | refine WP_drw ?_ | refine cnd_intro (fun hsp => ?_) fun hsp => ?_)
      refine fI ?_ xG
      unfold chkL
      rw [if_neg (by simpa using c0), if_pos (.inl c1)]
  · rw [decide_eq_false c0] at of0
    have hsp := @Nat.succ_ne_zero; repeat' (first | simp (disch := first | exact dschL57 | fail) only [go_sem, ↓reduceIte, hsp, ← eG, g0, of0, Bool.not_false] | refine WP_drw ?_ | refine cnd_intro (fun hsp => ?_) fun hsp => ?_)
    refine fI ?_ xG
    unfold chkL
    rw [if_pos c0]
end Go.AM
