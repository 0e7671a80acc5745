/-
  Contracts: short lists of integers are sorted in place (slices.Sort, at most 12 elements).
-/
import Derived.Test.YtlhmeoeamcgcmaaGreatK1
import Derived.Test.YtlhmeoeamcgcmaaGreatKJ
import Derived.Test.YtlhmeoeamcgcmaaGreatK7
set_option linter.unusedSimpArgs false
set_option linter.unusedVariables false
namespace Go.AM
open Go.Proofs.Tryz
attribute [-go_sem] put_ne put_same
attribute [local go_sem ↓] put_if
theorem ev_str {fr : AFrame} {s : ByteArray} : ev fr (.const (.string s)) = .str s := rfl
/-! ### The length in bits -/
def lenT (n : Nat) : Nat := [0, 1, 2, 2, 3, 3, 3, 3, 4, 4, 4, 4, 4].getD n 0
/-! ### Insertion -/
/-- Sorted up to i, but for what comes before j. -/
def Srt (m : List Int) (i j : Nat) : Prop := ∀ a b, a < b → b ≤ i → b ≠ j → m.getD a 0 ≤ m.getD b 0
def swp (m : List Int) (j : Nat) : List Int := (m.set (j + 1) (m.getD j 0)).set j (m.getD (j + 1) 0)
abbrev srB (m : List Int) (e : TypeId) (ver : Nat) : ABlk := ⟨.cells (ints m) e true false, ver⟩
/-- A list of integers, sorted. -/
def srtL (l : List Int) : List Int := l.mergeSort fun a b => decide (a ≤ b)
end Go.AM
