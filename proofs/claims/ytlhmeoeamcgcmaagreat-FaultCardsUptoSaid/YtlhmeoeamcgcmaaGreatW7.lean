/-
  Plain theory: the first ones of the best lists, in lexicographic order; sets named by bits.
-/
import Derived.Test.YtlhmeoeamcgcmaaGreatW6
set_option linter.unusedSimpArgs false
set_option linter.unusedVariables false
namespace Go.AM
def lexB : List Int → List Int → Bool
  | x :: a, y :: b => if x = y then lexB a b else decide (x < y)
  | _, _ => false
/-! ### The best of all -/
def pickO {α : Type} (better : α → α → Bool) (p : α → Bool) (b : Option α) (x : α) : Option α := if (p x && b.all fun y => better x y) = true then some x else b
/-! ### Sets named by bits -/
def memS (n s : Nat) : List Int := (upto n).filter fun i => s.testBit i.toNat
/-! ### The greatest packed list, the least clash -/
def btG (x y : List Int) : Bool := decide (y.length < x.length) || (decide (x.length = y.length) && lexB x y)
def btL (x y : List Int) : Bool := decide (x.length < y.length) || (decide (x.length = y.length) && lexB x y)
/-- The sets from 1 up to a number. -/
def setsR (n : Nat) : Nat → List (List Int)
  | 0 => []
  | k + 1 => setsR n k ++ [memS n (k + 1)]
end Go.AM
