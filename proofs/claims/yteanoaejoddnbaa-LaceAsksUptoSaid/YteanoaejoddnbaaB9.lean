/-
  Arguments that came in: chains, rows, lists of numbers, lists of lists, moves.
-/
import Derived.Test.YteanoaejoddnbaaU10
set_option linter.unusedSimpArgs false
set_option linter.unusedVariables false
namespace Go.AM
open Go.Proofs.Try Go.RowKit Go.ChangeShapes Go.WideShapes Go.ChangeAt
open Go.Proofs.Yteanoaejoddnbaa (Rows.uptoSmall Rows.uptoBulkAll Rows.uptoBulk)
set_option maxRecDepth 100000
def IntsN (N : Nat) (H : Heap) (v : AVal) : Prop := ∃ l, Ints H v l ∧ l.length ≤ N
/-- A chain that came in, its slices no longer than these. -/
def LacN (N : Nat) (H : Heap) (v : AVal) : Prop := ∃ L, LacAt H v L ∧ L.C.length ≤ N ∧ L.R.length ≤ N
theorem LacN.ext {N : Nat} {G H : Heap} {v : AVal} (h : LacN N G v) (e : Ext G H) : LacN N H v := by
  obtain ⟨L, h1, h2⟩ := h
  exact ⟨L, h1.ext e, h2⟩
def MovN (N : Nat) (H : Heap) (v : AVal) : Prop := ∃ l, Rows encM H v l ∧ l.length ≤ N
/-- Lists of lists, read. -/
def RelZ (H : Heap) (v : AVal) (ps : List (List Int)) : Prop := ∃ vs : List AVal, Rows encZ H v vs ∧ vs.length = ps.length ∧ ∀ (i : Nat) x t, vs[i]? = some x → ps[i]? = some t → Ints H x t
def PilN (N : Nat) (H : Heap) (v : AVal) : Prop := ∃ ps, RelZ H v ps ∧ ps.length ≤ N ∧ ∀ t ∈ ps, t.length ≤ N
def RowV (_ : Heap) (v : AVal) : Prop := ∃ r : Rw3, v = .agg [.int .i64 r.1, .int .i64 r.2.1, .int .i64 r.2.2]
def IntV (_ : Heap) (v : AVal) : Prop := ∃ n : Int, v = .int .i64 n
section
variable {H : Type} {enc : TypeId × Value → H} {W : World} {n N : Nat}
theorem one_cell {f : Field} {cs : List Value} {c : Value} {i : Nat} (ho : f.offset = i) (hk : prog.cellsOf f.type = 1) (hc : cs[i]? = some c) : (cs.drop f.offset).take (prog.cellsOf f.type) = [c] := by
  rw [ho, hk]
  have hi := (List.getElem?_eq_some_iff.1 hc)
  rw [List.drop_eq_getElem_cons hi.1, hi.2]
  rfl
theorem opens_row {cs : List Value} {y : DataW H × List MemPlace} (h : DataW.trod enc prog W 0 (fun _ => true) true n 70 cs = some y) :
    ∃ b : Int × Int × Int, cs = [.int .i64 b.1, .int .i64 b.2.1, .int .i64 b.2.2] := by
  obtain ⟨y0, y1, y2, m, rfl, hl, h0, h1, h2⟩ := Go.Deep.trod_struct3 underlying70 h
  have hl4 : cs.length = 3 := hl.trans (by kernel_rfl)
  match cs, hl4 with
  | [c0, c1, c2], _ =>
    rw [one_cell (i := 0) rfl (by kernel_rfl) rfl] at h0
    rw [one_cell (i := 1) rfl (by kernel_rfl) rfl] at h1
    rw [one_cell (i := 2) rfl (by kernel_rfl) rfl] at h2
    obtain ⟨z0, q0, -, -⟩ := DataW.trod_int underlying3 h0
    obtain ⟨z1, q1, -, -⟩ := DataW.trod_int underlying3 h1
    obtain ⟨z2, q2, -, -⟩ := DataW.trod_int underlying3 h2
    simp only [List.cons.injEq, and_true] at q0 q1 q2
    exact ⟨(z0, z1, z2), by rw [q0, q1, q2]⟩
theorem opens_ints3 {a b c : Int} : Opens W [.int .i64 a, .int .i64 b, .int .i64 c] (fun _ vs => vs = [.int .i64 a, .int .i64 b, .int .i64 c]) :=
  (opens_cons opens_int (opens_cons opens_int (opens_cons opens_int opens_nil fun _ _ _ h _ => h) fun _ _ _ h _ => h) fun _ _ _ h _ => h).mono fun _ vs ⟨v0, _, h0, h1, v1, _, h2, h3, v2, _, h4, h5, h6⟩ => by
    subst h6 h5 h4 h3 h2 h1 h0; rfl
theorem opens_chain {base : Nat} {V : Value} {d : DataW H} {p : List MemPlace} (hN : N < 2 ^ 60) (hval : Value.okWide prog W .any base 44 V) (h : DataW.Trod enc prog W 0 (fun _ => true) true 44 V d p) (hb : Rows.uptoBulk d ≤ N) :
    OpensV W V (LacN N) := by
  obtain ⟨v0, v1, v2, y0, y1, y2, m, rfl, rfl, rfl, h0, h1, h2⟩ := Go.Joins.open_agg3 underlying44 (by kernel_rfl) (by kernel_rfl) hval h
  obtain ⟨z0, q0, -, -⟩ := DataW.trod_int underlying3 h0
  simp only [List.cons.injEq, and_true] at q0
  subst q0
  have hC := opens_ints underlying25 underlying3 (by kernel_rfl) hN h1 (Nat.le_trans (bulk_agg (by simp)) hb)
  have hR := opens_slice encR (Q := fun _ _ => True) (fun _ _ _ h _ => h) underlying42 (by kernel_rfl) hN h2 (Nat.le_trans (bulk_agg (by simp)) hb) fun cs k y hy hyb => by
    obtain ⟨s, rfl⟩ := opens_row hy
    exact opens_ints3.mono fun _ _ h => ⟨s, h, trivial⟩
  refine (Opens.agg (A := #[.int .i64 z0, v1, v2]) (opens_cons opens_int (opens_cons hC (opens_cons hR opens_nil fun _ _ _ h e => ⟨h.choose, h.choose_spec.1.ext e, h.choose_spec.2⟩)
    fun _ _ _ h e => ⟨h.choose, h.choose_spec.1.ext e, h.choose_spec.2⟩) fun _ _ _ h _ => h)).mono fun K v hv => ?_
  obtain ⟨_, rfl, u0, _, rfl, rfl, u1, _, rfl, ⟨c, k1, k2⟩, u2, _, rfl, ⟨s, j1, -, j3⟩, rfl⟩ := hv
  exact ⟨⟨z0, c, s⟩, ⟨u1, u2, rfl, k1, j1⟩, k2, j3⟩
end
end Go.AM
