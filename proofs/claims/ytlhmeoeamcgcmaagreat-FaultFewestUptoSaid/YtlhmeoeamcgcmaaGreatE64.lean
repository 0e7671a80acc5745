/-
  Contracts: the sights that are the weaver's in all truths, as the reference says it.
-/
import Derived.Test.YtlhmeoeamcgcmaaGreatE63
set_option linter.unusedSimpArgs false
set_option linter.unusedVariables false
namespace Go.AM
open Go.Proofs.Tryz
attribute [-go_sem] put_ne put_same
attribute [local go_sem ↓] put_if
def wvsB (L : Lom) (ts : List (List Brk)) (s : Sgt) : Bool := s.bad && ts.all fun t => wvB L t s
def wvsR (L : Lom) (ts : List (List Brk)) (n : Nat) : List Int := (upto n).filter fun i => wvsB L ts (L.ss.getD i.toNat sgt0)
theorem all_take_succ {α : Type} (f : α → Bool) {l : List α} {n : Nat} {x : α} (h : l[n]? = some x) : (l.take (n + 1)).all f = ((l.take n).all f && f x) := by
  rw [List.take_add_one, h, List.all_append]
  simp
end Go.AM
