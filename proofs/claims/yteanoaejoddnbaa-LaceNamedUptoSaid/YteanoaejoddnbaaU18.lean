/-
  Contracts: the chain of the examples, and what the chapter says of it (awake).
-/
import Derived.Test.YteanoaejoddnbaaU17
import Derived.Test.YteanoaejoddnbaaU15
import Derived.Test.YteanoaejoddnbaaU11
import Derived.Test.YteanoaejoddnbaaU14
import Derived.Test.YteanoaejoddnbaaU10
import Derived.Test.YteanoaejoddnbaaU9
set_option linter.unusedSimpArgs false
set_option linter.unusedVariables false
namespace Go.AM
open Go.Proofs.Try
theorem dschL22 {p : Prop} (h : p := by first | exact Nat.ne_of_beq_eq_false rfl | assumption | (apply asOne; (first | exact One.int | exact One.bool | assumption | exact Ints.one (by assumption) | exact Rows.one (by assumption) | exact Own.one (by assumption) | exact One.lit ⟨rfl, rfl, rfl⟩)) | (apply asInts; (repeat first | assumption | exact ints_nil | apply Ints.app); done) | (apply asRows; (repeat first | assumption | exact Rows.nil | apply Rows.app); done) | (apply asScal; (first | apply allS1 | apply allS2 | apply allS3 | apply allS4) <;> (first | exact One.int | exact One.bool | assumption | exact Ints.one (by assumption) | exact Rows.one (by assumption) | exact Own.one (by assumption) | exact One.lit ⟨rfl, rfl, rfl⟩)) | exact litT rfl | exact litF rfl | omega | (simp only [List.length_append, List.length_cons, List.length_nil, List.length_set, List.length_reverse]; first | done | omega) | fail) : p := h
attribute [-go_sem] put_ne put_same
attribute [local go_sem ↓] put_if
def rws4 : List Rw3 := [(0, 1, 1), (5, 6, 0), (2, 4, 4), (3, 4, 4)]
def lac4 (r : Nat) : Lac := ⟨3, [1, 2, 3, 4], rws4.take r⟩
theorem bs4 {lit : Bool} {H : Heap} {a b c d : Int} : lit = false → bsA prog lit H 25 4 [(0, .int .i64 a), (1, .int .i64 b), (2, .int .i64 c), (3, .int .i64 d)] = some (.slice (some ⟨H.length, 0, 0⟩) 4 4, H ++ [rowB [a, b, c, d] 0]) := by
  intro hl; subst hl; simp [bsA, rowOf, Fc.el25, fillA, repCells, AVal.isN, AVal.cells, splice, rowB, ints]
theorem bs3 {lit : Bool} {H : Heap} {a b c : Int} : lit = false → bsA prog lit H 25 3 [(0, .int .i64 a), (1, .int .i64 b), (2, .int .i64 c)] = some (.slice (some ⟨H.length, 0, 0⟩) 3 3, H ++ [rowB [a, b, c] 0]) := by
  intro hl; subst hl; simp [bsA, rowOf, Fc.el25, fillA, repCells, AVal.isN, AVal.cells, splice, rowB, ints]
theorem bs5 {lit : Bool} {H : Heap} {a b c d e : Int} : lit = false → bsA prog lit H 25 5 [(0, .int .i64 a), (1, .int .i64 b), (2, .int .i64 c), (3, .int .i64 d), (4, .int .i64 e)] = some (.slice (some ⟨H.length, 0, 0⟩) 5 5, H ++ [rowB [a, b, c, d, e] 0]) := by
  intro hl; subst hl; simp [bsA, rowOf, Fc.el25, fillA, repCells, AVal.isN, AVal.cells, splice, rowB, ints]
theorem bsR4 {lit : Bool} {H : Heap} : bsA prog lit H 42 4 [(0, .agg [.int .i64 0, .int .i64 1, .int .i64 1]), (1, .agg [.int .i64 5, .int .i64 6, .int .i64 0]), (2, .agg [.int .i64 2, .int .i64 4, .int .i64 4]), (3, .agg [.int .i64 3, .int .i64 4, .int .i64 4])] = some (.slice (some ⟨H.length, 0, 0⟩) 4 4, H ++ [rowE encR 70 rws4 0]) := by
  simp [bsA, rowOf, Fc.el42, fillA, repCells, AVal.isN, AVal.cells, splice, rowE, flat, encR, rws4]
theorem bsM2 {lit : Bool} {H : Heap} : bsA prog lit H 33 2 [(0, .agg [.int .i64 1, .int .i64 0]), (1, .agg [.int .i64 3, .int .i64 1])] = some (.slice (some ⟨H.length, 0, 0⟩) 2 2, H ++ [rowE encM 36 [(1, 0), (3, 1)] 0]) := by
  simp [bsA, rowOf, Fc.el33, fillA, repCells, AVal.isN, AVal.cells, splice, rowE, flat, encM]
theorem run_Four {base r : Nat} {h : Heap} (hb : base ≤ h.length) (hr : r ≤ 4) : Ret prog raw base (.fn 95 [] []) [.int .i64 (r : Int)] h (fun w H => Ext h H ∧ LacAt H w (lac4 r)) := by
  obtain ⟨H1, e1⟩ : ∃ H1, H1 = h ++ [lacB 0 (.slice none 0 0) (.slice none 0 0)] := ⟨_, rfl⟩
  obtain ⟨H2, e2⟩ : ∃ H2, H2 = H1 ++ [rowE encR 70 rws4 0] := ⟨_, rfl⟩
  obtain ⟨H3, e3⟩ : ∃ H3, H3 = H2 ++ [rowB [1, 2, 3, 4] 0] := ⟨_, rfl⟩
  have l1 : H1.length = h.length + 1 := by rw [e1]; simp
  have l2 : H2.length = h.length + 2 := by rw [e2]; simp [l1]
  have l3 : H3.length = h.length + 3 := by rw [e3]; simp [l2]
  have x1 : Ext h H1 := by rw [e1]; exact .app .refl
  have x2 : Ext H1 H2 := by rw [e2]; exact .app .refl
  have x3 : Ext H2 H3 := by rw [e3]; exact .app .refl
  have g1 : H3[h.length]? = some (lacB 0 (.slice none 0 0) (.slice none 0 0)) := x3.get (x2.get (by rw [e1]; exact get_eq rfl))
  have g2 : H3[H1.length]? = some (rowE encR 70 rws4 0) := x3.get (by rw [e2]; exact get_eq rfl)
  have g3 : H3[H2.length]? = some (rowB [1, 2, 3, 4] 0) := by rw [e3]; exact get_eq rfl
  have ln : ∀ {H : Heap}, lenOpA prog H 42 (.slice (some ⟨H1.length, 0, 0⟩) 4 4) = some (.int .i64 4) := fun {H} => by simp [lenOpA, Fc.el42, lenA]
  have mn : min (r : Int) 4 = (r : Int) := by omega
  have mx : max 0 (r : Int) = (r : Int) := by omega
  have sl : sliceA prog 42 (.slice (some ⟨H1.length, 0, 0⟩) 4 4) none (some (.int .i64 (r : Int))) none = some (.slice (some ⟨H1.length, 0, 0⟩) r 4) := by
    simp only [sliceA, Fc.ar42, Fc.el42, optB, boundI (show (0 : Int) ≤ (r : Int) by omega) (show (r : Int) ≤ ((4 : Nat) : Int) by omega)]
    simp [ARef.add]
  have hfin : Ext h (H3.set h.length (lacB 3 (.slice (some ⟨H2.length, 0, 0⟩) 4 4) (.slice (some ⟨H1.length, 0, 0⟩) r 4))) ∧ LacAt (H3.set h.length (lacB 3 (.slice (some ⟨H2.length, 0, 0⟩) 4 4) (.slice (some ⟨H1.length, 0, 0⟩) r 4))) (.agg [.int .i64 3, .slice (some ⟨H2.length, 0, 0⟩) 4 4, .slice (some ⟨H1.length, 0, 0⟩) r 4]) (lac4 r) := by
    refine ⟨((x1.trans x2).trans x3).set (Nat.le_refl _), _, _, rfl, ?_, ?_⟩
    · refine ⟨⟨by show ([1, 2, 3, 4] : List Int).length < 2 ^ 60; decide, by show ∀ x ∈ ([1, 2, 3, 4] : List Int), _; decide⟩, .inr (.inr ⟨⟨H2.length, 0, 0⟩, 4, ints [1, 2, 3, 4], 3, true, false, rfl, ?_, rfl, by show 0 + ([1, 2, 3, 4] : List Int).length ≤ 4; decide, by show ([1, 2, 3, 4] : List Int).length ≤ 4; decide⟩)⟩
      rw [List.getElem?_set_ne (by show h.length ≠ H2.length; omega)]; exact g3
    · have hlen : (rws4.take r).length = r := by rw [List.length_take]; exact Nat.min_eq_left hr
      refine ⟨by show (rws4.take r).length < _; omega, .inr (.inr ⟨⟨H1.length, 0, 0⟩, 4, flat encR rws4, 70, true, false, by show _ = AVal.slice _ (rws4.take r).length _; rw [hlen], ?_, ?_, ?_, by show (rws4.take r).length ≤ 4; omega⟩)⟩
      · rw [List.getElem?_set_ne (by show h.length ≠ H1.length; omega)]; exact g2
      · show ((flat encR rws4).drop 0).take ((rws4.take r).length * 3) = flat encR (rws4.take r)
        rw [hlen]
        have : r = 0 ∨ r = 1 ∨ r = 2 ∨ r = 3 ∨ r = 4 := by omega
        rcases this with rfl | rfl | rfl | rfl | rfl <;> rfl
      · show 0 + (rws4.take r).length * 3 ≤ 12
        omega
  unfold lacB at e1 g1 hfin
  refine ret_raw func95 rfl (by kernel_rfl) ?_
  have hsp := @Nat.succ_ne_zero; repeat' (first | simp (disch := first | exact dschL22 | fail) only [go_sem, ↓reduceIte, hsp, ← e1, bsR4, ← e2, bs4, ← e3, ln, mn, mx, sl, g1] | refine WP_drw ?_ | refine cnd_intro (fun hsp => ?_) fun hsp => ?_)
  exact hfin
theorem kw4 : kwnE (lac4 2) = ([2, 0, -1, -1], 0) := by kernel_rfl
theorem cn4 : cntE (lac4 2) = (2, 0) := by kernel_rfl
theorem as4 : askE (lac4 2) = (2, 1, 0) := by kernel_rfl
theorem gp4 : gpsE (lac4 4) [2, 3] = (1, 0) := by kernel_rfl
theorem ri5 : risE [2, 0, 3, 1, 4] = ([0, 2, 4], 0) := by kernel_rfl
theorem mk5 : makE [2, 0, 3, 1, 4] [(1, 0), (3, 1)] = ([0, 1, 2, 3, 4], 0) := by kernel_rfl
end Go.AM
/-
  What the chapter says of its examples (awake).
-/
namespace Go.AM
open Go.Proofs.Try
theorem dschL23 {p : Prop} (h : p := by first | exact Nat.ne_of_beq_eq_false rfl | assumption | (apply asOne; (first | exact One.int | exact One.bool | assumption | exact Ints.one (by assumption) | exact Rows.one (by assumption) | exact Own.one (by assumption) | exact One.lit ⟨rfl, rfl, rfl⟩)) | (apply asInts; (repeat first | assumption | exact ints_nil | apply Ints.app); done) | (apply asRows; (repeat first | assumption | exact Rows.nil | apply Rows.app); done) | (apply asScal; (first | apply allS1 | apply allS2 | apply allS3 | apply allS4) <;> (first | exact One.int | exact One.bool | assumption | exact Ints.one (by assumption) | exact Rows.one (by assumption) | exact Own.one (by assumption) | exact One.lit ⟨rfl, rfl, rfl⟩)) | exact litT rfl | exact litF rfl | omega | (simp only [List.length_append, List.length_cons, List.length_nil, List.length_set, List.length_reverse]; first | done | omega) | fail) : p := h
attribute [-go_sem] put_ne put_same
attribute [local go_sem ↓] put_if
theorem small5 : Small [2, 0, 3, 1, 4] := ⟨by decide, by decide⟩
set_option maxRecDepth 100000 in
set_option maxHeartbeats 4000000 in
theorem run_awake {base : Nat} {h : Heap} : callL prog raw base (.fn 28 [] []) [] h = some (.bool true, h) := by
  obtain ⟨b, eb⟩ : ∃ b, b = h.length := ⟨_, rfl⟩
  obtain ⟨v1, H1, e1, x1, c1⟩ := run_Four (base := h.length) (r := 2) (h := h) (Nat.le_refl _) (by omega)
  have n1 := x1.len
  obtain ⟨_, H2, e2, x2, k1, rfl, o2⟩ := run_Known (base := h.length) (h := H1) (by omega) c1
  rw [kw4] at e2 o2
  have n2 := x2.len
  obtain ⟨v3, H3, e3, x3, c3⟩ := run_Four (base := h.length) (r := 2) (h := H2) (by omega) (by omega)
  have n3 := x3.len
  have e4 := run_Count (base := h.length) c3
  rw [cn4] at e4
  obtain ⟨v5, H5, e5, x5, c5⟩ := run_Four (base := h.length) (r := 2) (h := H3) (by omega) (by omega)
  have n5 := x5.len
  have e6 := run_Ask (base := h.length) c5
  rw [as4] at e6
  obtain ⟨v7, H7, e7, x7, c7⟩ := run_Four (base := h.length) (r := 4) (h := H5) (by omega) (by omega)
  have n7 := x7.len
  obtain ⟨H8, eH8⟩ : ∃ H8, H8 = H7 ++ [rowB [2, 3] 0] := ⟨_, rfl⟩
  have x8 : Ext H7 H8 := by rw [eH8]; exact .app .refl
  have n8 := x8.len
  have e8 := run_Gapes (base := h.length) (gap := [2, 3]) (gv := .slice (some ⟨H7.length, 0, 0⟩) 2 2) (c7.ext x8) (by rw [eH8]; exact slice_row rfl rfl ⟨by decide, by decide⟩)
  rw [gp4] at e8
  obtain ⟨H9, eH9⟩ : ∃ H9, H9 = H8 ++ [rowB [2, 0, 3, 1, 4] 0] := ⟨_, rfl⟩
  have x9 : Ext H8 H9 := by rw [eH9]; exact .app .refl
  have n9 := x9.len
  obtain ⟨_, H10, e10, x10, k2, rfl, o10⟩ := run_Rise (base := h.length) (h := H9) (v := .slice (some ⟨H8.length, 0, 0⟩) 5 5) (o := [2, 0, 3, 1, 4]) (by omega) (by rw [eH9]; exact slice_row rfl rfl small5)
  rw [ri5] at e10 o10
  have n10 := x10.len
  obtain ⟨H11, eH11⟩ : ∃ H11, H11 = H10 ++ [rowB [2, 0, 3, 1, 4] 0] := ⟨_, rfl⟩
  have x11 : Ext H10 H11 := by rw [eH11]; exact .app .refl
  have n11 := x11.len
  obtain ⟨H12, eH12⟩ : ∃ H12, H12 = H11 ++ [rowE encM 36 [(1, 0), (3, 1)] 0] := ⟨_, rfl⟩
  have x12 : Ext H11 H12 := by rw [eH12]; exact .app .refl
  have n12 := x12.len
  obtain ⟨_, H13, e13, x13, k3, rfl, o13⟩ := run_Make (base := h.length) (h := H12) (v := .slice (some ⟨H10.length, 0, 0⟩) 5 5) (mv := .slice (some ⟨H11.length, 0, 0⟩) 2 2) (o := [2, 0, 3, 1, 4]) (ms := [(1, 0), (3, 1)]) (by omega)
    (Ints.ext (by rw [eH11]; exact slice_row rfl rfl small5) x12) (Rows.own (by rw [eH12]; exact get_eq rfl) rfl (by decide)) (by decide)
  rw [mk5] at e13 o13
  have n13 := x13.len
  have ok1 := o2.one
  have ok2 := o10.one
  have ok3 := o13.one
  have i1 : Ints H2 k1 [2, 0, -1, -1] := ownE_ints o2 ⟨by decide, by decide⟩
  have i2 : Ints H10 k2 [0, 2, 4] := own_ints o10 ⟨by decide, by decide⟩
  have i3 : Ints H13 k3 [0, 1, 2, 3, 4] := ownE_ints o13 ⟨by decide, by decide⟩
  have y10 := (x11.trans x12).trans x13
  have y2 := (((((x3.trans x5).trans x7).trans x8).trans x9).trans x10).trans y10
  obtain ⟨K1, eK1⟩ : ∃ K1, K1 = H13 ++ [rowB [2, 0, -1, -1] 0] := ⟨_, rfl⟩
  have z1 : Ext H13 K1 := by rw [eK1]; exact .app .refl
  obtain ⟨K2, eK2⟩ : ∃ K2, K2 = K1 ++ [rowB [0, 2, 4] 0] := ⟨_, rfl⟩
  have z2 : Ext K1 K2 := by rw [eK2]; exact .app .refl
  obtain ⟨K3, eK3⟩ : ∃ K3, K3 = K2 ++ [rowB [0, 1, 2, 3, 4] 0] := ⟨_, rfl⟩
  have z3 : Ext K2 K3 := by rw [eK3]; exact .app .refl
  have q1 := run_eqI (base := h.length) (h := K1) (b := .slice (some ⟨H13.length, 0, 0⟩) 4 4) (m := [2, 0, -1, -1]) (i1.ext (y2.trans z1)) (by rw [eK1]; exact slice_row rfl rfl ⟨by decide, by decide⟩)
  have q2 := run_eqI (base := h.length) (h := K2) (b := .slice (some ⟨K1.length, 0, 0⟩) 3 3) (m := [0, 2, 4]) (i2.ext ((y10.trans z1).trans z2)) (by rw [eK2]; exact slice_row rfl rfl ⟨by decide, by decide⟩)
  have q3 := run_eqI (base := h.length) (h := K3) (b := .slice (some ⟨K2.length, 0, 0⟩) 5 5) (m := [0, 1, 2, 3, 4]) (i3.ext ((z1.trans z2).trans z3)) (by rw [eK3]; exact slice_row rfl rfl ⟨by decide, by decide⟩)
  rw [decide_eq_true rfl] at q1 q2 q3
  have xf : Ext h K3 := ((((x1.trans x2).trans y2).trans z1).trans z2).trans z3
  rw [show ((2 : Nat) : Int) = 2 from rfl] at e1 e3 e5
  rw [show ((4 : Nat) : Int) = 4 from rfl] at e7
  refine callL_run func28 rfl rfl ?_
  have hsp := @Nat.succ_ne_zero; repeat' (first | simp (disch := first | exact dschL23 | fail) only [go_sem, ↓reduceIte, hsp, e1, e2, e3, e4, e5, e6, e7, bs2, ← eH8, e8, bs5, ← eH9, e10, ← eH11, bsM2, ← eH12, e13, eq_self, decide_true, bs4, ← eK1, q1, bs3, ← eK2, q2, ← eK3, q3] | refine WP_drw ?_ | refine cnd_intro (fun hsp => ?_) fun hsp => ?_)
  exact fB rfl xf
end Go.AM
/-
  LaceRisen, walked: what comes ahead of its loops.
-/
namespace Go.AM
open Go.Proofs.Try
attribute [-go_sem] put_ne put_same
attribute [local go_sem ↓] put_if
theorem perm_ord {n : Nat} {o : List Int} (h : o.Perm (upto n)) : Ord n o := ⟨by rw [h.length_eq, upto_len], fun x hx => upto_mem.1 (h.mem_iff.1 hx), h.nodup_iff.2 (upto_nd n)⟩
/-- Two spools, a number from 1 to 7 and an order of so many cards; the other spool is as it was. -/
structure Risn (h H : Heap) (v0 v1 : AVal) (l0 l1 : List Int) (n : Nat) (w : AVal) (o : List Int) : Prop where
  bd : 1 ≤ n ∧ n ≤ 7
  ext : Ext h H
  own : OwnE encI 3 (h.length + 2) H w o
  ord : Ord n o
  len : h.length + 2 ≤ H.length
  q : SpAt H (h.length + 1) v1 l1 0
end Go.AM
/-
  Contracts: a chain that is made, with the order in which its cards really were laced (Made); rows of what is really seen (Rowed).
-/
namespace Go.AM
open Go.Proofs.Try
theorem dschL48 {p : Prop} (h : p := by first | exact Nat.ne_of_beq_eq_false rfl | assumption | (apply asOne; (first | exact One.int | exact One.bool | assumption | exact Ints.one (by assumption) | exact Rows.one (by assumption) | exact Own.one (by assumption) | exact One.lit ⟨rfl, rfl, rfl⟩)) | (apply asSp; (repeat first | assumption | apply SpAt.set | (refine SpAt.new ?_ (by (first | rfl | (simp only [List.length_append, List.length_cons, List.length_nil, List.length_set]; done) | (simp only [List.length_append, List.length_cons, List.length_nil, List.length_set]; omega)))) | apply SpAt.app | apply Bytes.app); done) | (apply asBytes; (repeat first | assumption | apply Bytes.app); done) | (apply asInts; (repeat first | assumption | exact ints_nil | apply Ints.app); done) | (apply asRows; (repeat first | assumption | exact Rows.nil | apply Rows.app); done) | (apply asScal; (first | apply allS1 | apply allS2 | apply allS3 | apply allS4) <;> (first | exact One.int | exact One.bool | assumption | exact Ints.one (by assumption) | exact Rows.one (by assumption) | exact Own.one (by assumption) | exact One.lit ⟨rfl, rfl, rfl⟩)) | exact litT rfl | exact litF rfl | omega | (simp only [List.length_append, List.length_cons, List.length_nil, List.length_set, List.length_reverse]; first | done | omega) | fail) : p := h
attribute [-go_sem] put_ne put_same
attribute [local go_sem ↓] put_if
/-- Cards that were made. -/
structure MadeOk (T : Int) (C : List Int) (N : Nat) : Prop where
  tb : 1 ≤ T ∧ T ≤ 8
  n : 1 ≤ C.length ∧ C.length ≤ N
  c : ∀ x ∈ C, 0 ≤ x ∧ x ≤ 2 ^ T.toNat - 1
  d : C.Nodup
theorem MadeOk.lac {T : Int} {C o : List Int} {N : Nat} {R : List Rw3} (x : MadeOk T C N) (hN : N ≤ 7) (hR : R.length ≤ 12) (hr : ∀ r ∈ R, SeenOk T C o r) : LacOk ⟨T, C, R⟩ :=
  ⟨x.tb, ⟨x.n.1, by have := x.n.2; simp only; omega⟩, hR, x.c, fun r h => by
    obtain ⟨a, b, c, d⟩ := hr r h
    have h1 : r.2.2.toNat ≤ r.2.1.toNat := by rw [← d]; exact Nat.and_le_right
    refine ⟨by omega, b, ⟨c, by simp only; omega⟩, ?_⟩
    rw [← d, Nat.and_assoc, Nat.and_self], x.d⟩
theorem MadeOk.xpl {T : Int} {C o : List Int} {N : Nat} {R : List Rw3} (x : MadeOk T C N) (ho : Ord C.length o) (hr : ∀ r ∈ R, SeenOk T C o r) : Xpl ⟨T, C, R⟩ o :=
  (xpl_rows (L := ⟨T, C, R⟩) (by have := x.n.1; simp only; omega) ho.1).2 fun r h => (hr r h).is
theorem stL48 {base : Nat} {l : List Oper} {s : St} {Q : AExit → St → Prop} : WP prog raw base (.region 12 l.toArray true) s Q = WPS prog raw base (.region 12 l.toArray true) s Q := WP_stop
attribute [local go_sem ↓ 3000] stL48
set_option maxRecDepth 100000 in
set_option maxHeartbeats 4000000 in
theorem run_Made {base id k0 N : Nat} {h : Heap} {v : AVal} {silk : List Int} (hb : base ≤ h.length) (hS : SpAt h id v silk k0) (hk : k0 ≤ 100000) (hN : 1 ≤ N ∧ N ≤ 7) :
    Ret prog raw base (.fn 44 [] []) [.ptr (some ⟨id, 0, 0⟩), .int .i64 (N : Int)] h (fun w H => ∃ T C o cv ov k', w = .tuple [.agg [.int .i64 T, cv, .slice none 0 0], ov] ∧ (k0 ≤ k' ∧ k' ≤ k0 + 100) ∧ SpE h id v silk k' H ∧ Own encI 3 h.length H cv C ∧ OwnE encI 3 h.length H ov o ∧ MadeOk T C N ∧ Ord C.length o) := by
  have hid := lt_of_get hS.1
  have hS0 : SpAt (h ++ [lacB 0 (.slice none 0 0) (.slice none 0 0)]) id v silk k0 := hS.app
  have b1 := up_bd (silk := silk) (k := k0) (n := 8 - 1) (by omega)
  have b2 := up_bd (silk := silk) (k := k0 + 1) (n := (N : Int) - 1) (by omega)
  obtain ⟨G, eG⟩ : ∃ G, G = h ++ [lacB 0 (.slice none 0 0) (.slice none 0 0)] := ⟨_, rfl⟩
  rw [← eG] at hS0
  have lG : G.length = h.length + 1 := by rw [eG]; simp
  have xG : Ext h G := by rw [eG]; exact .app .refl
  have g0 : G[h.length]? = some (lacB 0 (.slice none 0 0) (.slice none 0 0)) := by rw [eG]; exact get_eq rfl
  have f1 := fun base => run_from (base := base) (lo := 1) (hi := 8) hS0 (by omega) (by omega) (by omega)
  obtain ⟨T, eT⟩ : ∃ T, T = 1 + up silk k0 (8 - 1) := ⟨_, rfl⟩
  have hT : 1 ≤ T ∧ T ≤ 8 := by omega
  rw [← eT] at f1
  obtain ⟨G1, eG1⟩ : ∃ G1, G1 = G.set id (spB v silk (k0 + 1)) := ⟨_, rfl⟩
  rw [← eG1] at f1
  have q1 : SpE h id v silk (k0 + 1) G1 := by rw [eG1]; exact ((SpE.refl hS).ext xG).step hid
  have l1 : G1.length = h.length + 1 := by rw [eG1, List.length_set, lG]
  have g1 : G1[h.length]? = some (lacB 0 (.slice none 0 0) (.slice none 0 0)) := by rw [eG1, List.getElem?_set_ne (by omega)]; exact g0
  obtain ⟨G2, eG2⟩ : ∃ G2, G2 = G1 ++ [lacB T (.slice none 0 0) (.slice none 0 0)] := ⟨_, rfl⟩
  have q2 : SpE h id v silk (k0 + 1) G2 := by rw [eG2]; exact q1.app
  have l2 : G2.length = h.length + 2 := by rw [eG2]; simp [l1]
  have g2 : G2[h.length]? = some (lacB 0 (.slice none 0 0) (.slice none 0 0)) := by rw [eG2]; exact get_app g1
  have c2 : G2[h.length + 1]? = some (lacB T (.slice none 0 0) (.slice none 0 0)) := by rw [eG2]; exact get_eq (by rw [l1])
  have f2 := fun base => run_from (base := base) (lo := 1) (hi := (N : Int)) (q2.at hS) (by omega) (by omega) (by omega)
  obtain ⟨M, eM⟩ := Int.eq_ofNat_of_zero_le (show 0 ≤ 1 + up silk (k0 + 1) ((N : Int) - 1) by omega)
  have hM : 1 ≤ M ∧ M ≤ N := by omega
  rw [eM] at f2
  obtain ⟨G3, eG3⟩ : ∃ G3, G3 = G2.set id (spB v silk (k0 + 1 + 1)) := ⟨_, rfl⟩
  rw [← eG3] at f2
  have q3 : SpE h id v silk (k0 + 1 + 1) G3 := by rw [eG3]; exact q2.step hid
  have l3 : G3.length = h.length + 2 := by rw [eG3, List.length_set, l2]
  have g3 : G3[h.length]? = some (lacB 0 (.slice none 0 0) (.slice none 0 0)) := by rw [eG3, List.getElem?_set_ne (by omega)]; exact g2
  have c3 : G3[h.length + 1]? = some (lacB T (.slice none 0 0) (.slice none 0 0)) := by rw [eG3, List.getElem?_set_ne (by omega)]; exact c2
  obtain ⟨hw1, hw2⟩ := pow_le8 hT
  have sh := shl_one (w := T) (by omega) (by omega)
  obtain ⟨W, eW⟩ : ∃ W : Int, W = 2 ^ T.toNat := ⟨_, rfl⟩
  rw [← eW] at sh hw1 hw2
  clear eT eM b1 b2
  rw [show h.length + 1 = G1.length from l1.symm] at c2 c3
  unfold lacB at eG eG2
  refine ret_raw func44 rfl (by kernel_rfl) ?_
  have hsp := @Nat.succ_ne_zero; repeat' (first | simp (disch := first | exact dschL48 | fail) only [go_sem, ↓reduceIte, hsp, ← eG, f1, ← eG2, f2] | refine WP_drw ?_ | refine cnd_intro (fun hsp => ?_) fun hsp => ?_)
  refine WP_count [(7, 7), (14, 46)] 0 M (Nat.zero_le _) (fun _ i fr K => fr 14 = .int .i64 (i : Int) ∧ ∃ C cv k', (k0 ≤ k' ∧ k' ≤ k0 + 2 + 4 * i) ∧ SpE h id v silk k' K ∧ K[h.length]? = some (lacB 0 (.slice none 0 0) (.slice none 0 0)) ∧ K[G1.length]? = some (lacB T cv (.slice none 0 0)) ∧ Own encI 3 (h.length + 2) K cv C ∧ (0 < i → 1 ≤ C.length) ∧ C.length ≤ i ∧ (∀ x ∈ C, 0 ≤ x ∧ x ≤ W - 1) ∧ C.Nodup ∧ h.length + 2 ≤ K.length) ?_ ?_ ?_
  · exact ⟨by (simp (disch := first | exact dschL48 | fail) only [go_sem, ↓reduceIte, Int.natCast_zero]; first | done | rfl), [], _, k0 + 1 + 1, by omega, q3, g3, c3, Own.nil, by omega, by simp, by simp, by simp, by omega⟩
  · rintro i fr K hi0 hi hA ⟨r14, C, cv, k', hk', xK, gK, cK, oC, hC0, hCl, hCb, hCn, lK⟩
    have p0 := hA 0 rfl
    have p4 := hA 4 rfl
    have p5 := hA 5 rfl
    have p6 := hA 6 rfl
    have p13 := hA 13 rfl
    try simp (disch := first | exact dschL48 | fail) only [go_sem, ↓reduceIte] at p0 p4 p5 p6 p13
    have hlt : ((i : Int) < (M : Int)) = True := eq_true (by omega)
    have oc := oC.one
    have hSK := xK.at hS
    have ub1 := up_bd (silk := silk) (k := k') (n := W - 1) (by omega)
    have e1 := fun base => run_upto (base := base) (n := W - 1) hSK (by omega) (by omega)
    obtain ⟨K1, eK1⟩ : ∃ K1, K1 = K.set id (spB v silk (k' + 1)) := ⟨_, rfl⟩
    rw [← eK1] at e1
    have xK1 : SpE h id v silk (k' + 1) K1 := by rw [eK1]; exact xK.step hid
    have ub2 := up_bd (silk := silk) (k := k' + 1) (n := 2) (by omega)
    have e2 := fun base => run_upto (base := base) (n := 2) (xK1.at hS) (by omega) (by omega)
    obtain ⟨z, ez⟩ := Int.eq_ofNat_of_zero_le ub2.1
    rw [ez] at e2 ub2
    obtain ⟨K2, eK2⟩ : ∃ K2, K2 = K.set id (spB v silk (k' + 1 + 1)) := ⟨_, rfl⟩
    have eK12 : K1.set id (spB v silk (k' + 1 + 1)) = K2 := by rw [eK1, List.set_set, eK2]
    rw [eK12] at e2
    generalize up silk k' (W - 1) = x0 at ub1 e1
    have cK1 : K1[G1.length]? = some (lacB T cv (.slice none 0 0)) := by rw [eK1, List.getElem?_set_ne (by omega)]; exact cK
    unfold lacB at cK
    have hsp := @Nat.succ_ne_zero; repeat' (first | simp (disch := first | exact dschL48 | fail) only [go_sem, ↓reduceIte, hsp, r14, p0, p4, p5, p6, p13, hlt, cK, sh, e1, e2] | refine WP_drw ?_ | refine cnd_intro (fun hsp => ?_) fun hsp => ?_)
    refine WP_count [(7, 7), (24, 34)] 0 z (Nat.zero_le _) (fun _ j fr K' => fr 24 = .int .i64 (j : Int) ∧ ∃ x k2, fr 7 = .int .i64 x ∧ (0 ≤ x ∧ x ≤ W - 1) ∧ k2 = k' + 2 + j ∧ K' = K.set id (spB v silk k2)) ?_ ?_ ?_
    · exact ⟨by (simp (disch := first | exact dschL48 | fail) only [go_sem, ↓reduceIte, Int.natCast_zero]; first | done | rfl), x0, k' + 1 + 1, by simp (disch := first | exact dschL48 | fail) only [go_sem, ↓reduceIte], by omega, by omega, eK2⟩
    · rintro j fr2 K' hj0 hj hA2 ⟨r24, x, k2, r7, hx, hk2, eK'⟩
      have q0 := hA2 0 rfl
      have q4 := hA2 4 rfl
      have q5 := hA2 5 rfl
      have q6 := hA2 6 rfl
      have q13 := hA2 13 rfl
      have q14 := hA2 14 rfl
      have q23 := hA2 23 rfl
      try simp (disch := first | exact dschL48 | fail) only [go_sem, ↓reduceIte, p0, p4, p5, p6, p13] at q0 q4 q5 q6 q13 q14 q23
      have hlt2 : ((j : Int) < (z : Int)) = True := eq_true (by omega)
      have cK' : K'[G1.length]? = some (lacB T cv (.slice none 0 0)) := by rw [eK', List.getElem?_set_ne (by omega)]; exact cK
      have xK' : SpE h id v silk k2 K' := by rw [eK']; exact xK.step hid
      have ub3 := up_bd (silk := silk) (k := k2) (n := W - 1) (by omega)
      have e3 := fun base => run_upto (base := base) (n := W - 1) (xK'.at hS) (by omega) (by omega)
      obtain ⟨y, ey⟩ := Int.eq_ofNat_of_zero_le ub3.1
      rw [ey] at e3 ub3
      obtain ⟨x', ex'⟩ := Int.eq_ofNat_of_zero_le hx.1
      rw [ex'] at r7 hx
      have an := andN (t := 3) (a := x') (b := y) (by omega) (by omega)
      have hle : x' &&& y ≤ x' := Nat.and_le_left
      have eK'' : K'.set id (spB v silk (k2 + 1)) = K.set id (spB v silk (k2 + 1)) := by rw [eK', List.set_set]
      rw [eK''] at e3
      unfold lacB at cK'
      have hsp := @Nat.succ_ne_zero; repeat' (first | simp (disch := first | exact dschL48 | fail) only [go_sem, ↓reduceIte, hsp, r24, r7, q0, q4, q5, q6, q13, q14, q23, hlt2, cK', sh, e3, an] | refine WP_drw ?_ | refine cnd_intro (fun hsp => ?_) fun hsp => ?_)
      exact ⟨by (repeat first | exact Agree.refl | assumption | refine Agree.put rfl ?_ | refine Agree.put0 ?_ | refine Agree.sub rfl (by assumption) ?_), by omega, _, k2 + 1, rfl, by omega, by omega, rfl⟩
    · rintro fr2 K' hA2 ⟨r24, x, k2, r7, hx, hk2, eK'⟩
      have q0 := hA2 0 rfl
      have q4 := hA2 4 rfl
      have q5 := hA2 5 rfl
      have q6 := hA2 6 rfl
      have q13 := hA2 13 rfl
      have q14 := hA2 14 rfl
      have q23 := hA2 23 rfl
      try simp (disch := first | exact dschL48 | fail) only [go_sem, ↓reduceIte, p0, p4, p5, p6, p13] at q0 q4 q5 q6 q13 q14 q23
      have hlt2 : ((z : Int) < (z : Int)) = False := eq_false (by omega)
      have cK' : K'[G1.length]? = some (lacB T cv (.slice none 0 0)) := by rw [eK', List.getElem?_set_ne (by omega)]; exact cK
      have gK' : K'[h.length]? = some (lacB 0 (.slice none 0 0) (.slice none 0 0)) := by rw [eK', List.getElem?_set_ne (by omega)]; exact gK
      have xK' : SpE h id v silk k2 K' := by rw [eK']; exact xK.step hid
      have oC' : Own encI 3 (h.length + 2) K' cv C := by rw [eK']; exact oC.set (by omega)
      have lK' : K'.length = K.length := by rw [eK', List.length_set]
      have iC : Ints K' cv C := own_ints oC' ⟨by omega, fun y hy => by have := hCb y hy; omega⟩
      have hct := fun base => run_contains (base := base) (x := x) iC
      have cK'' := cK'
      unfold lacB at cK''
      by_cases cm : x ∈ C
      · rw [decide_eq_true cm] at hct
        have hsp := @Nat.succ_ne_zero; repeat' (first | simp (disch := first | exact dschL48 | fail) only [go_sem, ↓reduceIte, hsp, r14, r24, r7, q0, q4, q5, q6, q13, q14, q23, p0, p4, p5, p6, p13, hlt2, cK'', hct] | refine WP_drw ?_ | refine cnd_intro (fun hsp => ?_) fun hsp => ?_)
        exact ⟨by (repeat first | exact Agree.refl | assumption | refine Agree.put rfl ?_ | refine Agree.put0 ?_ | refine Agree.sub rfl (by assumption) ?_), by omega, C, cv, k2, by omega, xK', gK', rfl, oC', fun _ => List.length_pos_of_mem cm, by omega, hCb, hCn, by omega⟩
      · rw [decide_eq_false cm] at hct
        obtain ⟨w', K3, ea, oW, lW, eW2, oneW, kW⟩ := OwnE.snocI (base := base) (x := x) (.inl oC') (by omega) (by omega) (by omega)
        have cK3 := kW.box cK'
        have gK3 := kW.box gK'
        unfold lacB at cK3
        have xK3 : SpE h id v silk k2 K3 := eW2 _ (by rw [List.length_set]; omega) xK'
        have hsp := @Nat.succ_ne_zero; repeat' (first | simp (disch := first | exact dschL48 | fail) only [go_sem, ↓reduceIte, hsp, r14, r24, r7, q0, q4, q5, q6, q13, q14, q23, p0, p4, p5, p6, p13, hlt2, cK'', hct, ea, cK3] | refine WP_drw ?_ | refine cnd_intro (fun hsp => ?_) fun hsp => ?_)
        refine ⟨by (repeat first | exact Agree.refl | assumption | refine Agree.put rfl ?_ | refine Agree.put0 ?_ | refine Agree.sub rfl (by assumption) ?_), by omega, C ++ [x], w', k2, by omega, Ext.set xK3 (by rw [List.length_set]; omega), gK3, rfl, Own.setBox oW cK3, fun _ => by simp, by simp; omega, fun y hy => ?_, ?_, by omega⟩
        · rcases List.mem_append.1 hy with hy | hy
          · exact hCb y hy
          · rw [List.mem_singleton] at hy; rw [hy]; exact hx
        · exact nodup_snoc.2 ⟨hCn, cm⟩
  · rintro fr K hA ⟨r14, C, cv, k', hk', xK, gK, cK, oC, hC0, hCl, hCb, hCn, lK⟩
    have p0 := hA 0 rfl
    have p4 := hA 4 rfl
    have p5 := hA 5 rfl
    have p6 := hA 6 rfl
    have p13 := hA 13 rfl
    try simp (disch := first | exact dschL48 | fail) only [go_sem, ↓reduceIte] at p0 p4 p5 p6 p13
    have hlt : ((M : Int) < (M : Int)) = False := eq_false (by omega)
    have oc := oC.one
    have hc1 := hC0 (by omega)
    have iC : Ints K cv C := own_ints oC ⟨by omega, fun y hy => by have := hCb y hy; omega⟩
    have hlc := lenI iC
    obtain ⟨w, K2, eo, y, o, oo, hp⟩ := run_order (base := base) (n := C.length) (h := K) (by omega) (xK.at hS) (by omega) (by omega)
    have xK2 : SpE h id v silk (k' + C.length) K2 := (xK.step (k' := k' + C.length) hid).trans y
    have ow := oo.one
    have ly := y.len
    have cK2 : K2[G1.length]? = some (lacB T cv (.slice none 0 0)) := y.get (by omega) cK
    have gK2 : K2[h.length]? = some (lacB 0 (.slice none 0 0) (.slice none 0 0)) := y.get (by omega) gK
    have oC2 : Own encI 3 (h.length + 2) K2 cv C := (oC.set (by omega)).ext y
    unfold lacB at cK cK2 gK2
    have hsp := @Nat.succ_ne_zero; repeat' (first | simp (disch := first | exact dschL48 | fail) only [go_sem, ↓reduceIte, hsp, r14, p0, p4, p5, p6, p13, hlt] | refine WP_drw ?_ | refine cnd_intro (fun hsp => ?_) fun hsp => ?_)
    refine WPS_go ?_
    have hlow : refsLow K.length (.agg [.int .i64 T, cv, .slice none 0 0]) := by
      have := oC.low_refs
      simpa [refsLow, AVal.refs, refsL] using this
    refine WP_wild [⟨0, 44, 6, ⟨G1.length, 0, 0⟩, .agg [.int .i64 T, cv, .slice none 0 0], 6⟩] (by kernel_rfl) (by kernel_rfl) (by kernel_rfl) ⟨hlow, trivial⟩ fun K3 hK => ?_
    iterate 8
      rw [TRS_cons]
      refine ⟨by first | (simp (disch := first | exact dschL48 | fail) only [go_sem, ↓reduceIte, p0, p4, p5, p6, p13, cK, hlc, eo, cK2, gK2, ldsQ_cons, ldsQ_nil, grdQ_cons, grdQ_nil, if_true, Nat.reduceLeDiff]; done) | exact trivial, ?_⟩
      simp (disch := first | exact dschL48 | fail) only [go_sem, ↓reduceIte, p0, p4, p5, p6, p13, cK, hlc, eo, cK2, gK2]
    rw [TRS_nil]
    refine ⟨by first | (simp (disch := first | exact dschL48 | fail) only [go_sem, ↓reduceIte, p0, p4, p5, p6, p13, cK, hlc, eo, cK2, gK2, ldsQ_cons, ldsQ_nil, grdQ_cons, grdQ_nil, if_true, Nat.reduceLeDiff]; done) | exact trivial, ?_⟩
    subst hK
    have hsp := @Nat.succ_ne_zero; repeat' (first | simp (disch := first | exact dschL48 | fail) only [go_sem, ↓reduceIte, hsp, p0, p4, p5, p6, p13] | refine WP_drw ?_ | refine cnd_intro (fun hsp => ?_) fun hsp => ?_)
    exact ⟨T, C, o, cv, _, k' + C.length, rfl, by omega, Ext.set xK2 (by rw [List.length_set]; omega), (oC2.setBox gK2).low (by omega), (oo.setBox gK2).low (by omega), ⟨hT, by omega, by rw [← eW]; exact hCb, hCn⟩, perm_ord hp⟩
end Go.AM
/-
  Contracts: rows of what is really seen (Rowed); what the statements out of numbers begin with.
-/
namespace Go.AM
open Go.Proofs.Try
theorem dschL49 {p : Prop} (h : p := by first | exact Nat.ne_of_beq_eq_false rfl | assumption | (apply asOne; (first | exact One.int | exact One.bool | assumption | exact Ints.one (by assumption) | exact Rows.one (by assumption) | exact Own.one (by assumption) | exact One.lit ⟨rfl, rfl, rfl⟩)) | (apply asSp; (repeat first | assumption | apply SpAt.set | (refine SpAt.new ?_ (by (first | rfl | (simp only [List.length_append, List.length_cons, List.length_nil, List.length_set]; done) | (simp only [List.length_append, List.length_cons, List.length_nil, List.length_set]; omega)))) | apply SpAt.app | apply Bytes.app); done) | (apply asBytes; (repeat first | assumption | apply Bytes.app); done) | (apply asInts; (repeat first | assumption | exact ints_nil | apply Ints.app); done) | (apply asRows; (repeat first | assumption | exact Rows.nil | apply Rows.app); done) | (apply asScal; (first | apply allS1 | apply allS2 | apply allS3 | apply allS4) <;> (first | exact One.int | exact One.bool | assumption | exact Ints.one (by assumption) | exact Rows.one (by assumption) | exact Own.one (by assumption) | exact One.lit ⟨rfl, rfl, rfl⟩)) | exact litT rfl | exact litF rfl | omega | (simp only [List.length_append, List.length_cons, List.length_nil, List.length_set, List.length_reverse]; first | done | omega) | fail) : p := h
attribute [-go_sem] put_ne put_same
attribute [local go_sem ↓] put_if
theorem stL49 {base : Nat} {l : List Oper} {s : St} {Q : AExit → St → Prop} : WP prog raw base (.region 4 l.toArray true) s Q = WPS prog raw base (.region 4 l.toArray true) s Q := WP_stop
attribute [local go_sem ↓ 3000] stL49
set_option maxRecDepth 100000 in
set_option maxHeartbeats 4000000 in
theorem run_Rowed {base id k0 N most : Nat} {h : Heap} {v cv ov : AVal} {silk C o : List Int} {T : Int} (hb : base ≤ h.length) (hS : SpAt h id v silk k0) (hk : k0 ≤ 100000) (hC : OwnE encI 3 0 h cv C) (hO : OwnE encI 3 0 h ov o) (hm : MadeOk T C N) (hN : N ≤ 7) (ho : Ord C.length o) (hmo : most ≤ 12) :
    Ret prog raw base (.fn 45 [] []) [.ptr (some ⟨id, 0, 0⟩), .agg [.int .i64 T, cv, .slice none 0 0], ov, .int .i64 (most : Int)] h (fun w H => ∃ R rv k', w = .agg [.int .i64 T, cv, rv] ∧ (k0 ≤ k' ∧ k' ≤ k0 + 100) ∧ SpE h id v silk k' H ∧ Own encR 70 h.length H rv R ∧ R.length ≤ most ∧ ∀ r ∈ R, SeenOk T C o r) := by
  have hid := lt_of_get hS.1
  have oc := hC.one
  have oo := hO.one
  obtain ⟨hm1, hm2, hm3, hm4⟩ := hm
  obtain ⟨G, eG⟩ : ∃ G, G = h ++ [lacB T cv (.slice none 0 0)] ++ [lacB 0 (.slice none 0 0) (.slice none 0 0)] := ⟨_, rfl⟩
  have xG : Ext h G := by rw [eG]; exact .app (.app .refl)
  have lG : G.length = h.length + 2 := by rw [eG]; simp
  have c0 : G[h.length]? = some (lacB T cv (.slice none 0 0)) := by rw [eG]; exact get_app (get_eq rfl)
  have g0 : G[h.length + 1]? = some (lacB 0 (.slice none 0 0) (.slice none 0 0)) := by rw [eG]; exact get_eq (by simp)
  have b1 := up_bd (silk := silk) (k := k0) (n := (most : Int)) (by omega)
  have f1 := fun base => run_upto (base := base) (n := (most : Int)) (hS.ext xG) (by omega) (by omega)
  obtain ⟨M, eM⟩ := Int.eq_ofNat_of_zero_le b1.1
  rw [eM] at f1 b1
  obtain ⟨G1, eG1⟩ : ∃ G1, G1 = G.set id (spB v silk (k0 + 1)) := ⟨_, rfl⟩
  rw [← eG1] at f1
  have q1 : SpE h id v silk (k0 + 1) G1 := by rw [eG1]; exact ((SpE.refl hS).ext xG).step hid
  have l1 : G1.length = h.length + 2 := by rw [eG1, List.length_set, lG]
  have c1 : G1[h.length]? = some (lacB T cv (.slice none 0 0)) := by rw [eG1, List.getElem?_set_ne (by omega)]; exact c0
  have g1 : G1[h.length + 1]? = some (lacB 0 (.slice none 0 0) (.slice none 0 0)) := by rw [eG1, List.getElem?_set_ne (by omega)]; exact g0
  have eG' := eG
  unfold lacB at eG'
  refine ret_raw func45 rfl (by kernel_rfl) ?_
  have hsp := @Nat.succ_ne_zero; repeat' (first | simp (disch := first | exact dschL49 | fail) only [go_sem, ↓reduceIte, hsp, ← eG', f1] | refine WP_drw ?_ | refine cnd_intro (fun hsp => ?_) fun hsp => ?_)
  refine WP_count [(12, 27)] 0 M (Nat.zero_le _) (fun _ i fr K => fr 12 = .int .i64 (i : Int) ∧ ∃ R rv k', (k0 ≤ k' ∧ k' = k0 + 1 + 4 * i) ∧ SpE h id v silk k' K ∧ K[h.length]? = some (lacB T cv rv) ∧ K[h.length + 1]? = some (lacB 0 (.slice none 0 0) (.slice none 0 0)) ∧ Own encR 70 (h.length + 2) K rv R ∧ R.length = i ∧ (∀ r ∈ R, SeenOk T C o r) ∧ h.length + 2 ≤ K.length) ?_ ?_ ?_
  · exact ⟨by (simp (disch := first | exact dschL49 | fail) only [go_sem, ↓reduceIte, Int.natCast_zero]; first | done | rfl), [], _, k0 + 1, by omega, q1, c1, g1, Own.nil, rfl, by simp, by omega⟩
  · rintro i fr K hi0 hi hA ⟨r12, R, rv, k', hk', xK, cK, gK, oR, hRl, hRs, lK⟩
    have p0 := hA 0 rfl
    have p2 := hA 2 rfl
    have p5 := hA 5 rfl
    have p8 := hA 8 rfl
    have p11 := hA 11 rfl
    try simp (disch := first | exact dschL49 | fail) only [go_sem, ↓reduceIte] at p0 p2 p5 p8 p11
    have hlt : ((i : Int) < (M : Int)) = True := eq_true (by omega)
    have orr := oR.one
    have hlr : lenOpA prog K 42 rv = some (.int .i64 (i : Int)) := by rw [← hRl]; exact own_len oR Fc.el42 (by omega)
    have t12 : ((i : Int) < 12) = True := eq_true (by omega)
    have hSK := xK.at hS
    have hCK := hC.spE hS xK
    have hOK := hO.spE hS xK
    obtain ⟨r, er, hr⟩ := run_Seen hSK (by omega) hCK orr hOK (by omega) hm1 hm3 ho (by omega)
    obtain ⟨K1, eK1⟩ : ∃ K1, K1 = K.set id (spB v silk (k' + 4)) := ⟨_, rfl⟩
    rw [← eK1] at er
    have xK1 : SpE h id v silk (k' + 4) K1 := by rw [eK1]; exact xK.step hid
    have cK1 : K1[h.length]? = some (lacB T cv rv) := by rw [eK1, List.getElem?_set_ne (by omega)]; exact cK
    have gK1 : K1[h.length + 1]? = some (lacB 0 (.slice none 0 0) (.slice none 0 0)) := by rw [eK1, List.getElem?_set_ne (by omega)]; exact gK
    have lK1 : K1.length = K.length := by rw [eK1, List.length_set]
    have oR1 : Own encR 70 (h.length + 2) K1 rv R := by rw [eK1]; exact oR.set (by omega)
    obtain ⟨w', K2, ea, oW, lW, eW2, oneW, kW⟩ := snocR (base := base) (r := r) (.inl oR1) (by omega) (by omega) (by omega)
    have cK2 := kW.box cK1
    have gK2 := kW.box gK1
    have xK2 : SpE h id v silk (k' + 4) K2 := eW2 _ (by rw [List.length_set]; omega) xK1
    have hlow : refsLow K.length rv := oR.low_refs
    unfold lacB at cK cK1 cK2
    have hsp := @Nat.succ_ne_zero; repeat' (first | simp (disch := first | exact dschL49 | fail) only [go_sem, ↓reduceIte, hsp, r12, p0, p2, p5, p8, p11, hlt, cK, hlr, t12] | refine WP_drw ?_ | refine cnd_intro (fun hsp => ?_) fun hsp => ?_)
    refine WPS_go ?_
    refine WP_wild [⟨1, 42, 18, ⟨h.length, 0, 2⟩, rv, 7⟩] (by kernel_rfl) (by kernel_rfl) (by kernel_rfl) ⟨hlow, trivial⟩ fun K3 hK => ?_
    iterate 10
      rw [TRS_cons]
      refine ⟨by first | (simp (disch := first | exact dschL49 | fail) only [go_sem, ↓reduceIte, p0, p2, p5, p8, p11, cK, er, cK1, bsR1, ea, cK2, ldsQ_cons, ldsQ_nil, grdQ_cons, grdQ_nil, if_true, Nat.reduceLeDiff]; done) | exact trivial, ?_⟩
      simp (disch := first | exact dschL49 | fail) only [go_sem, ↓reduceIte, p0, p2, p5, p8, p11, cK, er, cK1, bsR1, ea, cK2]
    rw [TRS_nil]
    refine ⟨by first | (simp (disch := first | exact dschL49 | fail) only [go_sem, ↓reduceIte, p0, p2, p5, p8, p11, cK, er, cK1, bsR1, ea, cK2, ldsQ_cons, ldsQ_nil, grdQ_cons, grdQ_nil, if_true, Nat.reduceLeDiff]; done) | exact trivial, ?_⟩
    subst hK
    have hsp := @Nat.succ_ne_zero; repeat' (first | simp (disch := first | exact dschL49 | fail) only [go_sem, ↓reduceIte, hsp, r12, p0, p2, p5, p8, p11] | refine WP_drw ?_ | refine cnd_intro (fun hsp => ?_) fun hsp => ?_)
    refine ⟨by (repeat first | exact Agree.refl | assumption | refine Agree.put rfl ?_ | refine Agree.put0 ?_ | refine Agree.sub rfl (by assumption) ?_), by omega, R ++ [r], w', k' + 4, by omega, Ext.set xK2 (by rw [List.length_set]; omega), rfl, gK2, Own.setBox oW cK2, by simp [hRl], fun y hy => ?_, by omega⟩
    rcases List.mem_append.1 hy with hy | hy
    · exact hRs y hy
    · rw [List.mem_singleton] at hy; rw [hy]; exact hr
  · rintro fr K hA ⟨r12, R, rv, k', hk', xK, cK, gK, oR, hRl, hRs, lK⟩
    have p0 := hA 0 rfl
    have p2 := hA 2 rfl
    have p5 := hA 5 rfl
    have p8 := hA 8 rfl
    have p11 := hA 11 rfl
    try simp (disch := first | exact dschL49 | fail) only [go_sem, ↓reduceIte] at p0 p2 p5 p8 p11
    have hlt : ((M : Int) < (M : Int)) = False := eq_false (by omega)
    have orr := oR.one
    unfold lacB at cK gK
    have hsp := @Nat.succ_ne_zero; repeat' (first | simp (disch := first | exact dschL49 | fail) only [go_sem, ↓reduceIte, hsp, r12, p0, p2, p5, p8, p11, hlt, cK, gK] | refine WP_drw ?_ | refine cnd_intro (fun hsp => ?_) fun hsp => ?_)
    exact ⟨R, rv, _, rfl, by omega, Ext.set xK (by rw [List.length_set]; omega), (oR.setBox gK).low (by omega), by omega, hRs⟩
end Go.AM
/-
  What the statements out of numbers begin with; plain facts of what is found.
-/
namespace Go.AM
open Go.Proofs.Try
attribute [-go_sem] put_ne put_same
attribute [local go_sem ↓] put_if
/-- A chain that was made, in its box, with rows of what is really seen. -/
structure Strt (G H : Heap) (id : Nat) (v : AVal) (silk : List Int) (b : Nat) (T : Int) (C : List Int) (R : List Rw3) (o : List Int) (cv rv ov : AVal) (k N most : Nat) : Prop where
  sp : SpE G id v silk k H
  k : k ≤ 1000
  g : H[b]? = some (lacB T cv rv)
  b : G.length ≤ b ∧ b < H.length
  oC : OwnE encI 3 G.length H cv C
  oR : OwnE encR 70 G.length H rv R
  oO : OwnE encI 3 G.length H ov o
  made : MadeOk T C N
  ord : Ord C.length o
  seen : ∀ r ∈ R, SeenOk T C o r
  rl : R.length ≤ most
section
variable {G H : Heap} {id : Nat} {v : AVal} {silk : List Int} {b : Nat} {T : Int} {C : List Int} {R : List Rw3} {o : List Int} {cv rv ov : AVal} {k N most : Nat}
theorem Strt.lac (x : Strt G H id v silk b T C R o cv rv ov k N most) (hN : N ≤ 7) (hm : most ≤ 12) : chkL ⟨T, C, R⟩ = 0 := chkL_iff.2 (x.made.lac hN (by have := x.rl; omega) x.seen)
theorem Strt.xpl (x : Strt G H id v silk b T C R o cv rv ov k N most) : o ∈ fnd ⟨T, C, R⟩ := fnd_mem.2 ⟨x.ord, x.made.xpl x.ord x.seen⟩
theorem Strt.own (x : Strt G H id v silk b T C R o cv rv ov k N most) : OwnC G.length H (.agg [.int .i64 T, cv, rv]) ⟨T, C, R⟩ := ⟨cv, rv, rfl, x.oC, x.oR⟩
theorem Strt.at (x : Strt G H id v silk b T C R o cv rv ov k N most) (hN : N ≤ 7) (hm : most ≤ 12) : LacAt H (.agg [.int .i64 T, cv, rv]) ⟨T, C, R⟩ := x.own.at (lac_small (x.lac hN hm)) (by have := x.rl; simp only; omega)
theorem Strt.ints (x : Strt G H id v silk b T C R o cv rv ov k N most) (hN : N ≤ 7) : Ints H ov o := ownE_ints x.oO (ord_small x.ord (by have := x.made.n; omega))
theorem Strt.bd (x : Strt G H id v silk b T C R o cv rv ov k N most) : 1 ≤ C.length ∧ C.length ≤ N := x.made.n
end
set_option maxHeartbeats 1000000 in
theorem run_start {base id k0 N most : Nat} {G : Heap} {v : AVal} {silk : List Int} (hb : base ≤ G.length) (hS : SpAt G id v silk k0) (hk : k0 ≤ 100) (hN : 1 ≤ N ∧ N ≤ 7) (hm : most ≤ 12) :
    ∃ H1 H2 T C R o cv rv ov k, callL prog raw base (.fn 44 [] []) [.ptr (some ⟨id, 0, 0⟩), .int .i64 (N : Int)] G = some (.tuple [.agg [.int .i64 T, cv, .slice none 0 0], ov], H1) ∧
      callL prog raw base (.fn 45 [] []) [.ptr (some ⟨id, 0, 0⟩), .agg [.int .i64 T, cv, .slice none 0 0], ov, .int .i64 (most : Int)] (H1 ++ [lacB T cv (.slice none 0 0)]) = some (.agg [.int .i64 T, cv, rv], H2) ∧
      One cv ∧ One ov ∧ One rv ∧ H2[H1.length]? = some (lacB T cv (.slice none 0 0)) ∧ G.length ≤ H1.length ∧ Strt G (H2.set H1.length (lacB T cv rv)) id v silk H1.length T C R o cv rv ov k N most := by
  have hid := lt_of_get hS.1
  obtain ⟨_, H1, e1, T, C, o, cv, ov, k1, rfl, hk1, q1, oC, oO, mk, ho⟩ := run_Made (base := base) (N := N) hb hS (by omega) hN
  have l1 := q1.len
  obtain ⟨B, eB⟩ : ∃ B, B = H1 ++ [lacB T cv (.slice none 0 0)] := ⟨_, rfl⟩
  have xB : Ext H1 B := by rw [eB]; exact .app .refl
  have lB' : B.length = H1.length + 1 := by rw [eB]; simp
  have gB : B[H1.length]? = some (lacB T cv (.slice none 0 0)) := by rw [eB]; exact get_eq rfl
  have qB := q1.ext xB
  obtain ⟨_, H2, e2, R, rv, k2, rfl, hk2, q2, oR, hRl, hRs⟩ := run_Rowed (base := base) (h := B) (most := most) (by omega) (qB.at hS) (by omega) ((OwnE.ext (.inl oC) xB).low (Nat.zero_le _)) ((oO.ext xB).low (Nat.zero_le _)) mk hN.2 ho hm
  have l2 := q2.len
  have g2 : H2[H1.length]? = some (lacB T cv (.slice none 0 0)) := q2.get (by omega) gB
  have hSB := qB.at hS
  rw [eB] at e2
  refine ⟨H1, H2, T, C, R, o, cv, rv, ov, k2, e1, e2, oC.one, oO.one, oR.one, g2, l1, ⟨?_, by omega, by rw [List.getElem?_set_self (by omega)], by rw [List.length_set]; omega, ?_, ?_, ?_, mk, ho, hRs, hRl⟩⟩
  · have : SpE G id v silk k2 H2 := (qB.step (k' := k2) hid).trans q2
    exact Ext.set this (by rw [List.length_set]; omega)
  · exact ((OwnE.ext (.inl oC) xB).spE hSB q2).setBox g2
  · exact OwnE.setBox ((OwnE.low (.inl oR) (by omega))) g2
  · exact ((oO.ext xB).spE hSB q2).setBox g2
/-! ### What is found -/
theorem fndE_in {L : Lac} {o : List Int} (hc : chkL L = 0) (h : o ∈ fnd L) : fndE L = (fnd L, 0) ∧ fnd L ≠ [] := by
  have hne : fnd L ≠ [] := fun q => by rw [q] at h; cases h
  exact ⟨by unfold fndE; rw [if_neg (by simp [hc]), if_neg hne], hne⟩
theorem found_all {L : Lac} {o : List Int} (hc : chkL L = 0) (h : o ∈ fnd L) : cntE L = (((fnd L).length : Int), 0) ∧ kwnE L = (knwL L.C.length (fnd L), 0) ∧ frsE L = ((fnd L).headD [], 0) ∧ (fnd L).headD [] ∈ fnd L ∧ askE L = ((askN L.C.length (fnd L) L.C.length).1, (askN L.C.length (fnd L) L.C.length).2, 0) ∧ dcdE L = (dcdL L.C.length (fnd L), 0) ∧ 1 ≤ (fnd L).length := by
  obtain ⟨e, hne⟩ := fndE_in hc h
  refine ⟨?_, ?_, ?_, ?_, ?_, ?_, List.length_pos_of_mem h⟩
  · unfold cntE; rw [e]; simp
  · unfold kwnE; rw [e]; simp
  · unfold frsE; rw [e]; simp
  · cases q : fnd L with
    | nil => exact absurd q hne
    | cons a l => simp
  · unfold askE; rw [e]; simp
  · unfold dcdE; rw [e]; simp
theorem knwL_len {n : Nat} {os : List (List Int)} : (knwL n os).length = n := lst_len
theorem knwL_at {n p : Nat} {os : List (List Int)} (hp : p < n) : (knwL n os).getD p 0 = if (os.all fun x => decide (x.getD p 0 = (os.headD []).getD p 0)) = true then (os.headD []).getD p 0 else -1 := lst_get hp
/-- A card that is sure is in all orders. -/
theorem knwL_sure {n p : Nat} {os : List (List Int)} (hp : p < n) (h : (knwL n os).getD p 0 ≠ -1) : ∀ x ∈ os, x.getD p 0 = (knwL n os).getD p 0 := by
  rw [knwL_at hp] at h ⊢
  split
  · rename_i q
    exact fun x hx => of_decide_eq_true (List.all_eq_true.1 q x hx)
  · rename_i q
    rw [if_neg q] at h
    exact absurd rfl h
theorem fnd_bd {L : Lac} {o : List Int} {p : Nat} (ho : o ∈ fnd L) (hp : p < L.C.length) : 0 ≤ o.getD p 0 ∧ o.getD p 0 < (L.C.length : Int) := (ord_at (fnd_ord ho) hp).2
theorem knwL_bd {L : Lac} {p : Nat} {o : List Int} (ho : o ∈ fnd L) (hp : p < L.C.length) : -1 ≤ (knwL L.C.length (fnd L)).getD p 0 ∧ (knwL L.C.length (fnd L)).getD p 0 < (L.C.length : Int) := by
  by_cases h : (knwL L.C.length (fnd L)).getD p 0 = -1
  · omega
  · have := knwL_sure hp h o ho
    have h2 := fnd_bd ho hp
    omega
theorem knwL_small {L : Lac} {o : List Int} (ho : o ∈ fnd L) (hn : L.C.length ≤ 7) : Small (knwL L.C.length (fnd L)) := by
  refine ⟨by rw [knwL_len]; omega, fun x hx => ?_⟩
  obtain ⟨p, hp, e⟩ := List.mem_iff_getElem.1 hx
  rw [knwL_len] at hp
  have := knwL_bd ho hp
  rw [getD_at (by rw [knwL_len]; exact hp), e] at this
  omega
end Go.AM
/-
  Plain: positions that decide, and looks.
-/
namespace Go.AM
section
variable {n : Nat} {os : List (List Int)} (hn : os.Nodup) (ho : ∀ o ∈ os, Ord n o)
include hn ho
end
/-! ### Rows of what is seen at a position, whole -/
def lookR (L : Lac) (p k : Nat) : Rw3 := ((p : Int), 2 ^ L.T.toNat - 1, L.C.getD k 0)
/-! ### The position that one look should be at -/
/-- The greatest number of the first cards. -/
def lvsK (os : List (List Int)) (p k : Nat) : Int := grt (lst (fun k => (os.countP fun o => decide (o.getD p 0 = (k : Int)) : Nat)) k)
theorem lvsK_all {n : Nat} {os : List (List Int)} {p : Nat} : lvsK os p n = lvsN n os p := rfl
end Go.AM
/-
  LaceSeen, walked.
-/
namespace Go.AM
open Go.Proofs.Try
attribute [-go_sem] put_ne put_same
attribute [local go_sem ↓] put_if
end Go.AM
/-
  LaceDecided, walked.
-/
namespace Go.AM
open Go.Proofs.Try
attribute [-go_sem] put_ne put_same
attribute [local go_sem ↓] put_if
end Go.AM
/-
  What is found of a chain with any rows; rings and gaps that are returned.
-/
namespace Go.AM
open Go.Proofs.Try
attribute [-go_sem] put_ne put_same
attribute [local go_sem ↓] put_if
end Go.AM
/-
  Plain: rows and cards by threads, as the reference has them.
-/
namespace Go.AM
/-- Does a row agree with a card, thread by thread? -/
def agrB (L : Lac) (r : Rw3) (k : Nat) : Bool := (List.range L.T.toNat).all fun t => !r.2.1.toNat.testBit t || ((L.C.getD k 0).toNat.testBit t == r.2.2.toNat.testBit t)
def fitR (L : Lac) (p k : Nat) : Bool := L.R.all fun r => !decide (r.1.toNat % L.C.length = p) || agrB L r k
/-- Does an order explain the rows? -/
def xplB (L : Lac) (o : List Int) : Bool := L.R.all fun r => agrB L r (o.getD (r.1.toNat % o.length) 0).toNat
/-- All orders that explain the rows, as the reference finds them. -/
def allR (L : Lac) : List (List Int) := (ordsF (fun _ _ => true) L.C.length L.C.length []).filter (xplB L)
end Go.AM
/-
  The reference: bounds, sets, threads, lists without a number twice, orders.
-/
namespace Go.AM
open Go.Proofs.Try
attribute [-go_sem] put_ne put_same
attribute [local go_sem ↓] put_if
end Go.AM
/-
  The reference: the error of a chain (Check).
-/
namespace Go.AM
open Go.Proofs.Try
attribute [-go_sem] put_ne put_same
attribute [local go_sem ↓] put_if
abbrev rcB (T : Int) (cv rv : AVal) : ABlk := ⟨.cells [.int .i64 T, cv, rv] 49 false false, 0⟩
abbrev rrB (r : Rw3) : ABlk := ⟨.cells [.int .i64 r.1, .int .i64 r.2.1, .int .i64 r.2.2] 79 false false, 0⟩
section
variable {h : Heap} {rv : AVal} {R : List Rw3} {i : Nat} {r : Rw3}
end
theorem setB_off {T x : Int} : (!decide (0 ≤ x ∧ x ≤ 2 ^ T.toNat - 1)) = !setB T x := rfl
end Go.AM
/-
  The reference: rows and cards, cards and positions, orders and rows.
-/
namespace Go.AM
open Go.Proofs.Try
attribute [-go_sem] put_ne put_same
attribute [local go_sem ↓] put_if
end Go.AM
/-
  The reference: all orders, those that explain the rows.
-/
namespace Go.AM
open Go.Proofs.Try
attribute [-go_sem] put_ne put_same
attribute [local go_sem ↓] put_if
section
variable {b : Nat} {H H' : Heap} {v : AVal} {ts : List (List Int)}
/-- Lists in a list that lies behind b, they behind e. -/
def AllX (b e : Nat) (H : Heap) (v : AVal) (ts : List (List Int)) : Prop := ∃ vs : List AVal, Own encZ 25 b H v vs ∧ vs.length = ts.length ∧ ∀ (i : Nat) x t, vs[i]? = some x → ts[i]? = some t → OwnE encI 3 e H x t
end
def allF (n d : Nat) (l : List Int) (k : Int) : List (List Int) := if ((fun (_ _ : Nat) => true) l.length k.toNat && decide (k ∉ l)) = true then ordsF (fun _ _ => true) n d (l ++ [k]) else []
theorem ordsF_all {n d : Nat} {l : List Int} : ordsF (fun _ _ => true) n (d + 1) l = (upto n).flatMap (allF n d l) := rfl
end Go.AM
/-
  The reference: the cards that are sure (Known); a chain as the reference has it (theirs).
-/
namespace Go.AM
open Go.Proofs.Try
attribute [-go_sem] put_ne put_same
attribute [local go_sem ↓] put_if
def kvR (os : List (List Int)) (i q : Nat) : Int := if ((os.take i).all fun x => decide (x.getD q 0 = (os.headD []).getD q 0)) = true then (os.headD []).getD q 0 else -1
def knS (n : Nat) (os : List (List Int)) (i p : Nat) : List Int := lst (fun q => if q < p then kvR os (i + 1) q else kvR os i q) n
end Go.AM
/-
  Arguments that came in, slices of structs that hold slices among them: rows of memory whose cells stand for each other.
-/
namespace Go.AM
open Go.Proofs.Try Go.RowKit Go.ChangeShapes Go.WideShapes Go.ChangeAt
open Go.Proofs.Yteanoaejoddnbaa (Rows.uptoSmall Rows.uptoBulkAll Rows.uptoBulk)
set_option maxRecDepth 100000
def Rw.okG (μ : Mu) (w : World) (r : Rw) : Prop := ∃ (C : Array Value) (T : TypeId) (fz : Nat × Nat), w.heap[r.blk]? = some (.cells C T fz) ∧ r.off + r.cs.length ≤ C.size ∧
  ∀ (i : Nat) (x : AVal) (y : Value), r.cs[i]? = some x → C[r.off + i]? = some y → VR μ x y
/-- All rows stand. -/
def RsOk (w : World) (R : List Rw) : Prop := ∀ r ∈ R, r.okG (muR R) w
/-- What came in can be opened behind any rows: cells, and what holds of them. -/
def Opens (W : World) (cs : List Value) (Q : Heap → List AVal → Prop) : Prop := ∀ R, RsOk W R → ∃ S vs, RsOk W (R ++ S) ∧ VRs (muR (R ++ S)) vs cs ∧ Q (heapR (R ++ S)) vs
/-- .. one value. -/
def OpensV (W : World) (V : Value) (Q : Heap → AVal → Prop) : Prop := ∀ R, RsOk W R → ∃ S v, RsOk W (R ++ S) ∧ VR (muR (R ++ S)) v V ∧ Q (heapR (R ++ S)) v
/-! ### Bulk -/
/-! ### Slices -/
end Go.AM
/-
  Arguments that came in: chains, rows, lists of numbers, lists of lists, moves.
-/
namespace Go.AM
open Go.Proofs.Try Go.RowKit Go.ChangeShapes Go.WideShapes Go.ChangeAt
open Go.Proofs.Yteanoaejoddnbaa (Rows.uptoSmall Rows.uptoBulkAll Rows.uptoBulk)
set_option maxRecDepth 100000
def IntsN (N : Nat) (H : Heap) (v : AVal) : Prop := ∃ l, Ints H v l ∧ l.length ≤ N
/-- A chain that came in, its slices no longer than these. -/
def LacN (N : Nat) (H : Heap) (v : AVal) : Prop := ∃ L, LacAt H v L ∧ L.C.length ≤ N ∧ L.R.length ≤ N
def MovN (N : Nat) (H : Heap) (v : AVal) : Prop := ∃ l, Rows encM H v l ∧ l.length ≤ N
/-- Lists of lists, read. -/
def RelZ (H : Heap) (v : AVal) (ps : List (List Int)) : Prop := ∃ vs : List AVal, Rows encZ H v vs ∧ vs.length = ps.length ∧ ∀ (i : Nat) x t, vs[i]? = some x → ps[i]? = some t → Ints H x t
def PilN (N : Nat) (H : Heap) (v : AVal) : Prop := ∃ ps, RelZ H v ps ∧ ps.length ≤ N ∧ ∀ t ∈ ps, t.length ≤ N
def RowV (_ : Heap) (v : AVal) : Prop := ∃ r : Rw3, v = .agg [.int .i64 r.1, .int .i64 r.2.1, .int .i64 r.2.2]
def IntV (_ : Heap) (v : AVal) : Prop := ∃ n : Int, v = .int .i64 n
section
variable {H : Type} {enc : TypeId × Value → H} {W : World} {n N : Nat}
end
end Go.AM
/-
  LaceFinds, walked.
-/
namespace Go.AM
open Go.Proofs.Try
attribute [-go_sem] put_ne put_same
attribute [local go_sem ↓] put_if
end Go.AM
/-
  The reference: gaps.
-/
namespace Go.AM
open Go.Proofs.Try
attribute [-go_sem] put_ne put_same
attribute [local go_sem ↓] put_if
end Go.AM
/-
  The reference: an order along a ring (Turned).
-/
namespace Go.AM
open Go.Proofs.Try
attribute [-go_sem] put_ne put_same
attribute [local go_sem ↓] put_if
end Go.AM
/-
  LaceRings, walked.
-/
namespace Go.AM
open Go.Proofs.Try
attribute [-go_sem] put_ne put_same
attribute [local go_sem ↓] put_if
end Go.AM
/-
  The reference: positions that decide (chosen, before, decides, Decide), what one look leaves (Leaves).
-/
namespace Go.AM
open Go.Proofs.Try
attribute [-go_sem] put_ne put_same
attribute [local go_sem ↓] put_if
/-! ### Leaves -/
def lvsR (os : List (List Int)) (p : Nat) : Nat → Int
  | 0 => 0
  | i + 1 => max (lvsR os p i) ((os.countP fun o => decide ((os.getD i []).getD p 0 = o.getD p 0) : Nat) : Int)
/-! ### Decide -/
end Go.AM
/-
  LaceAsks, walked.
-/
namespace Go.AM
open Go.Proofs.Try
attribute [-go_sem] put_ne put_same
attribute [local go_sem ↓] put_if
end Go.AM
/-
  A slice of one's own is cleared.
-/
namespace Go.AM
open Go.Proofs.Try
section
variable {α β : Type} {E : Enc α} {E2 : Enc β} {e e2 t : TypeId} {b base : Nat} {H G : Heap} {v w x : AVal} {l m : List α} {l2 : List β} {zs : List AVal}
end
end Go.AM
/-
  LaceChecks, walked.
-/
namespace Go.AM
open Go.Proofs.Try
attribute [-go_sem] put_ne put_same
attribute [local go_sem ↓] put_if
end Go.AM
/-
  The reference: orders alone, what rises, one move (Alone, Rise, Make).
-/
namespace Go.AM
open Go.Proofs.Try
attribute [-go_sem] put_ne put_same
attribute [local go_sem ↓] put_if
def adjB (o x : List Int) (j : Nat) : Bool := (List.range j).all fun i => decide (i = 0 ∨ o.getD (x.getD (i - 1) 0).toNat 0 < o.getD (x.getD i 0).toNat 0)
end Go.AM
/-
  The reference: one move (Make); lists of moves, lists of lists: copies, equality.
-/
namespace Go.AM
open Go.Proofs.Try
attribute [-go_sem] put_ne put_same
attribute [local go_sem ↓] put_if
def insT (e : List Int) (x : Int) (t i : Nat) : List Int := if t < i then (e.take i).insertIdx t x else e.take i
/-! ### Moves -/
/-! ### Lists of lists -/
end Go.AM
/-
  Lists of lists copied; Shows, and Shows as the reference has it.
-/
namespace Go.AM
open Go.Proofs.Try
attribute [-go_sem] put_ne put_same
attribute [local go_sem ↓] put_if
end Go.AM
/-
  The reference: whether piles show an order (Shows).
-/
namespace Go.AM
open Go.Proofs.Try
attribute [-go_sem] put_ne put_same
attribute [local go_sem ↓] put_if
def encO : Enc Bool := ⟨1, fun b => [.bool b], fun _ => rfl, by decide⟩
def mrk (n : Nat) (S : List Int) : List Bool := (List.range n).map fun k : Nat => decide ((k : Int) ∈ S)
abbrev mkB (n : Nat) (S : List Int) : ABlk := rowE encO 4 (mrk n S) 0
end Go.AM
/-
  LaceMends, walked.
-/
namespace Go.AM
open Go.Proofs.Try
attribute [-go_sem] put_ne put_same
attribute [local go_sem ↓] put_if
end Go.AM
