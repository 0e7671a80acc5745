/-
  Arguments that came in, slices of structs that hold slices among them: rows of memory whose cells stand for each other.
-/
import Derived.Test.YtlhmeoeamcgcmaaGreatB1
import Derived.Test.YtlhmeoeamcgcmaaGreatA8
import Derived.Test.YtlhmeoeamcgcmaaGreatG0
set_option linter.unusedSimpArgs false
set_option linter.unusedVariables false
namespace Go.AM
open Go.Proofs.Tryz Go.RowKit Go.ChangeShapes Go.WideShapes Go.ChangeAt
open Go.Proofs.YtlhmeoeamcgcmaaGreat (Rows.uptoSmall Rows.uptoBulkAll Rows.uptoBulk)
set_option maxRecDepth 100000
def Rw.okG (μ : Mu) (w : World) (r : Rw) : Prop := ∃ (C : Array Value) (T : TypeId) (fz : Nat × Nat), w.heap[r.blk]? = some (.cells C T fz) ∧ r.off + r.cs.length ≤ C.size ∧
  ∀ (i : Nat) (x : AVal) (y : Value), r.cs[i]? = some x → C[r.off + i]? = some y → VR μ x y
/-- All rows stand. -/
def RsOk (w : World) (R : List Rw) : Prop := ∀ r ∈ R, r.okG (muR R) w
/-- What came in can be opened behind any rows: cells, and what holds of them. -/
def Opens (W : World) (cs : List Value) (Q : Heap → List AVal → Prop) : Prop := ∀ R, RsOk W R → ∃ S vs, RsOk W (R ++ S) ∧ VRs (muR (R ++ S)) vs cs ∧ Q (heapR (R ++ S)) vs
/-- .. one value. -/
def OpensV (W : World) (V : Value) (Q : Heap → AVal → Prop) : Prop := ∀ R, RsOk W R → ∃ S v, RsOk W (R ++ S) ∧ VR (muR (R ++ S)) v V ∧ Q (heapR (R ++ S)) v
/-! ### Bulk -/
/-! ### Slices -/
end Go.AM
/-
  Arguments that came in: looms, breaks, sights.
-/
namespace Go.AM
open Go.Proofs.Tryz Go.RowKit Go.ChangeShapes Go.WideShapes Go.ChangeAt
open Go.Proofs.YtlhmeoeamcgcmaaGreat (Rows.uptoSmall Rows.uptoBulkAll Rows.uptoBulk)
set_option maxRecDepth 100000
/-- A loom that came in, its slices no longer than these. -/
def LomN (N : Nat) (H : Heap) (v : AVal) : Prop := ∃ L, LomAt H v L ∧ L.ps.length ≤ N ∧ L.ss.length ≤ N ∧ ∀ p ∈ L.ps, p.rib.length ≤ N
def RowsN {α : Type} (E : Enc α) (N : Nat) (H : Heap) (v : AVal) : Prop := ∃ l, Rows E H v l ∧ l.length ≤ N
def PrtN (N : Nat) (H : Heap) (p : PrtV) : Prop := ∃ l, Ints H p.v l ∧ l.length ≤ N
section
variable {H : Type} {enc : TypeId × Value → H} {W : World} {n N : Nat}
def BrkV (_ : Heap) (v : AVal) : Prop := ∃ a b c : Int, v = .agg [.int .i64 a, .int .i64 b, .int .i64 c]
def SgtV (_ : Heap) (v : AVal) : Prop := ∃ s : Sgt, v = .agg (encS.cells s)
def IntV (_ : Heap) (v : AVal) : Prop := ∃ n : Int, v = .int .i64 n
end
end Go.AM
