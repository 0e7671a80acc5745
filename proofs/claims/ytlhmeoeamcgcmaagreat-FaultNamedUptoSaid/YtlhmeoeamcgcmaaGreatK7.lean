/-
  One's own slices that grow: what is yielded, and the heap behind it, said outright.
-/
import Derived.Test.YtlhmeoeamcgcmaaGreatA8
set_option linter.unusedSimpArgs false
set_option linter.unusedVariables false
namespace Go.AM
section
variable {α β : Type} {E : Enc α} {E2 : Enc β} {P : Program} {base b b2 k : Nat} {h H : Heap} {v w x : AVal} {l m : List α} {l2 : List β} {t e e2 : TypeId} {zs : List AVal}
def snV (h : Heap) (v : AVal) (k : Nat) : AVal := match v with
  | .slice (some r) n _ => .slice (some ⟨r.id, r.ver + 1, 0⟩) (n + k) (n + k)
  | _ => .slice (some ⟨h.length, 0, 0⟩) k k
def snH (E : Enc α) (e : TypeId) (h : Heap) (v : AVal) (l m : List α) : Heap := match v with
  | .slice (some r) _ _ => h.set r.id (rowE E e (l ++ m) (r.ver + 1))
  | _ => h ++ [rowE E e m 0]
/-- Two slices that do not lie in one block. -/
def Asun (v w : AVal) : Prop := ∀ r n c s k d, v = .slice (some r) n c → w = .slice (some s) k d → r.id ≠ s.id
end
/-- A counted loop in a block: what holds behind it is said once, whichever way it ends. -/
theorem WP_cmeet {P : Program} {raw : FuncId → Bool} {base : Nat} {c : Code} {id : Nat} {FR : AFrame} {H : Heap} {Q : AExit → St → Prop} (mod : List (Nat × Nat)) (a N : Nat) (haN : a ≤ N) (J : Heap → Nat → AFrame → Heap → Prop) (X : AFrame → Heap → Prop) (h0 : J H a FR H)
    (step : ∀ i fr h, a ≤ i → i < N → Agree mod fr FR → J H i fr h → WP P raw base c ⟨fr, h⟩ (thenQ (fun s' => Agree mod s'.fr FR ∧ J H (i + 1) s'.fr s'.h) (inBlockQ id (thenQ (fun s' => Agree mod s'.fr FR ∧ X s'.fr s'.h) Q))))
    (last : ∀ fr h, Agree mod fr FR → J H N fr h → WP P raw base c ⟨fr, h⟩ (thenQ (fun _ => False) (inBlockQ id (thenQ (fun s' => Agree mod s'.fr FR ∧ X s'.fr s'.h) Q))))
    (k : ∀ fr h, Agree mod fr FR → X fr h → Q .normal ⟨fr, h⟩) : WP P raw base (.loop c) ⟨FR, H⟩ (inBlockQ id Q) := by
  have key : ∀ e s', inBlockQ id (thenQ (fun s' => Agree mod s'.fr FR ∧ X s'.fr s'.h) Q) e s' → inBlockQ id Q e s' := fun e s' hq => by
    cases e with
    | normal => exact k _ _ hq.1 hq.2
    | ret => exact hq
    | exit id' =>
      simp only [inBlockQ] at hq ⊢
      split
      · rename_i c; rw [if_pos c] at hq; exact k _ _ hq.1 hq.2
      · rename_i c; rw [if_neg c] at hq; exact hq
  refine WP_count mod a N haN J h0 (fun i fr h h1 h2 h3 h4 => ?_) fun fr h h3 h4 => ?_
  · obtain ⟨e, s', h5, h6⟩ := step i fr h h1 h2 h3 h4
    refine ⟨e, s', h5, ?_⟩
    cases e with
    | normal => exact h6
    | ret => exact key .ret s' h6
    | exit id' => exact key (.exit id') s' h6
  · obtain ⟨e, s', h5, h6⟩ := last fr h h3 h4
    refine ⟨e, s', h5, ?_⟩
    cases e with
    | normal => exact h6
    | ret => exact key .ret s' h6
    | exit id' => exact key (.exit id') s' h6
end Go.AM
