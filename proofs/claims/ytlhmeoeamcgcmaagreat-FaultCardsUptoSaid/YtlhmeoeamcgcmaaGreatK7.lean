/-
  One's own slices that grow: what is yielded, and the heap behind it, said outright.
-/
import Derived.Test.YtlhmeoeamcgcmaaGreatA8
set_option linter.unusedSimpArgs false
set_option linter.unusedVariables false
namespace Go.AM
section
variable {α β : Type} {E : Enc α} {E2 : Enc β} {P : Program} {base b b2 k : Nat} {h H : Heap} {v w x : AVal} {l m : List α} {l2 : List β} {t e e2 : TypeId} {zs : List AVal}
def snV (h : Heap) (v : AVal) (k : Nat) : AVal := match v with
  | .slice (some r) n _ => .slice (some ⟨r.id, r.ver + 1, 0⟩) (n + k) (n + k)
  | _ => .slice (some ⟨h.length, 0, 0⟩) k k
def snH (E : Enc α) (e : TypeId) (h : Heap) (v : AVal) (l m : List α) : Heap := match v with
  | .slice (some r) _ _ => h.set r.id (rowE E e (l ++ m) (r.ver + 1))
  | _ => h ++ [rowE E e m 0]
/-- Two slices that do not lie in one block. -/
def Asun (v w : AVal) : Prop := ∀ r n c s k d, v = .slice (some r) n c → w = .slice (some s) k d → r.id ≠ s.id
end
end Go.AM
