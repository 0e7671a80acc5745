/-
  Contracts: the sights that are the weaver's in all truths, as the reference says it.
-/
import Derived.Test.YtlhmeoeamcgcmaaGreatE61
set_option linter.unusedSimpArgs false
set_option linter.unusedVariables false
namespace Go.AM
open Go.Proofs.Tryz
attribute [-go_sem] put_ne put_same
attribute [local go_sem ↓] put_if
def wvsB (L : Lom) (ts : List (List Brk)) (s : Sgt) : Bool := s.bad && ts.all fun t => wvB L t s
def wvsR (L : Lom) (ts : List (List Brk)) (n : Nat) : List Int := (upto n).filter fun i => wvsB L ts (L.ss.getD i.toNat sgt0)
end Go.AM
/-
  What a weaver pays; plain: the truths that the reference lists.
-/
namespace Go.AM
open Go.Proofs.Tryz
attribute [-go_sem] put_ne put_same
attribute [local go_sem ↓] put_if
/-! ### How many truths there are -/
/-! ### The truths -/
def trsR (L : Lom) : List (List Brk) := (allR L.T.toNat 0 L.ps.length).filter (xplM L)
/-! ### Fine -/
def finM (L : Lom) (p : Int) : Int × Int := if chkM L ≠ 0 then (0, chkM L) else if ¬ (0 ≤ p ∧ p ≤ 1000) then (0, 3) else if (wvrM L).2 ≠ 0 then (0, (wvrM L).2) else (p * ((wvrM L).1.length : Int), 0)
end Go.AM
/-
  Plain: the weaver's sights, as the reference says them.
-/
namespace Go.AM
/-- The error of Other, as the reference says it. -/
def othR (L : Lom) (i : Int) : Int := if ¬ (0 ≤ i ∧ i < (L.ss.length : Int)) then 1 else if badI L i = false then 8 else if (wvrM L).2 ≠ 0 then (wvrM L).2 else if i ∈ (wvrM L).1 then 6 else 0
end Go.AM
