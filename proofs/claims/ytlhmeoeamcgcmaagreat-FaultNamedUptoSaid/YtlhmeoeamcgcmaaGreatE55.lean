/-
  Contracts: the reference's spots of a break, and where a part is excluded.
-/
import Derived.Test.YtlhmeoeamcgcmaaGreatE54
import Derived.Test.YtlhmeoeamcgcmaaGreatWJ
set_option linter.unusedSimpArgs false
set_option linter.unusedVariables false
namespace Go.AM
open Go.Proofs.Tryz
attribute [-go_sem] put_ne put_same
attribute [local go_sem ↓] put_if
def rowSp (L : Lom) (b : Int × Int × Int) (r : Int) (n : Nat) : List (Int × Int) := ((upto n).filter fun t => splR L b (r, t)).map fun t => (r, t)
def sptR (L : Lom) (b : Int × Int × Int) (n : Nat) : List (Int × Int) := (upto n).flatMap fun r => rowSp L b r L.T.toNat
/-! ### Excluded -/
def exS (q : Prt) (t : Int) (s : Sgt) : Bool := !s.bad && (decide (s.lo ≤ t ∧ t ≤ s.hi) && wks q (s.rib, t))
def excR (L : Lom) (k : Nat) (n : Nat) : List Int := (upto n).filter fun t => L.ss.any (exS (L.ps.getD k prt0) t)
end Go.AM
/-
  Plain: what the reference says is what fault says.
-/
namespace Go.AM
end Go.AM
