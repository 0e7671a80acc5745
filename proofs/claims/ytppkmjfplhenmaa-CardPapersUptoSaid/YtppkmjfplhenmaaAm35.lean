/-
  Rests in a walk: the frame and the heap get names, and what is known of them is said anew.
-/
import Derived.Test.YtppkmjfplhenmaaAm34
set_option linter.unusedSimpArgs false
set_option linter.unusedVariables false
namespace Go.AM
section
variable {P : Program} {raw : FuncId → Bool} {base : Nat} {Q : AExit → St → Prop} {fr : AFrame} {h : Heap}
/-- A walk that has come to a rest. -/
def WPS (P : Program) (raw : FuncId → Bool) (base : Nat) (c : Code) (s : St) (Q : AExit → St → Prop) (_ : DepW c Q := ⟨⟩) : Prop := WP P raw base c s Q
theorem WP_stop {c : Code} {s : St} : WP P raw base c s Q = WPS P raw base c s Q := rfl
theorem WPS_go {c : Code} {s : St} (h : WP P raw base c s Q) : WPS P raw base c s Q := h
theorem WPS_rest {c : Code} (k : ∀ FR H, FR = fr → H = h → WP P raw base c ⟨FR, H⟩ Q) : WPS P raw base c ⟨fr, h⟩ Q := k fr h rfl rfl
theorem WPS_restF {c : Code} (k : ∀ FR, FR = fr → WP P raw base c ⟨FR, h⟩ Q) : WPS P raw base c ⟨fr, h⟩ Q := k fr rfl
theorem put_if {fr : AFrame} {t d : Nat} {v : AVal} : put fr (some d) v t = if t = d then v else fr t := rfl
theorem set_id {H : Heap} {i : Nat} {b : ABlk} (x : H[i]? = some b) : H.set i b = H := by
  obtain ⟨h1, h2⟩ := List.getElem?_eq_some_iff.1 x
  rw [← h2, List.set_getElem_self]
/-- A rest. -/
theorem WP_rest {c : Code} (k : ∀ FR H, FR = fr → H = h → WP P raw base c ⟨FR, H⟩ Q) : WP P raw base c ⟨fr, h⟩ Q := k fr h rfl rfl
/-- The block that a value points to. -/
def atP (H : Heap) (v : AVal) : Option ABlk := match v with | .ptr (some r) => H[r.id]? | _ => none
theorem atP_ptr {H : Heap} {r : ARef} : atP H (.ptr (some r)) = H[r.id]? := rfl
theorem fr_at {FR fr : AFrame} {v : AVal} (e : FR = fr) (r : Nat) (x : fr r = v) : FR r = v := by rw [e]; exact x
theorem blk_at {H h : Heap} {b : Option ABlk} (e : H = h) (i : Nat) (x : h[i]? = b) : H[i]? = b := by rw [e]; exact x
theorem len_at {H h : Heap} {n : Nat} (e : H = h) (x : h.length = n) : H.length = n := by rw [e]; exact x
theorem ext_at {H h g : Heap} (e : H = h) (x : Ext g h) : Ext g H := by rw [e]; exact x
/-- A counted loop behind a rest: N rounds from a on; what holds before the i-th, of the heap at the start, the frame, the heap. -/
theorem WP_count {c : Code} {FR : AFrame} {H : Heap} (mod : List (Nat × Nat)) (a N : Nat) (haN : a ≤ N) (J : Heap → Nat → AFrame → Heap → Prop) (h0 : J H a FR H)
    (step : ∀ i fr h, a ≤ i → i < N → Agree mod fr FR → J H i fr h → WP P raw base c ⟨fr, h⟩ (thenQ (fun s' => Agree mod s'.fr FR ∧ J H (i + 1) s'.fr s'.h) Q))
    (last : ∀ fr h, Agree mod fr FR → J H N fr h → WP P raw base c ⟨fr, h⟩ (thenQ (fun _ => False) Q)) : WP P raw base (.loop c) ⟨FR, H⟩ Q := by
  refine WP_iter mod (fun H i fr h => a ≤ i ∧ i ≤ N ∧ J H i fr h) (fun i => N - i) a ⟨Nat.le_refl _, haN, h0⟩ ?_
  rintro i fr h hA ⟨h1, h2, hJ⟩
  by_cases hi : i < N
  · obtain ⟨e, s1, h3, h4⟩ := step i fr h h1 hi hA hJ
    refine ⟨e, s1, h3, ?_⟩
    cases e with
    | normal => exact ⟨h4.1, i + 1, ⟨by omega, by omega, h4.2⟩, by omega⟩
    | exit id => exact h4
    | ret => exact h4
  · have : i = N := by omega
    subst this
    obtain ⟨e, s1, h3, h4⟩ := last fr h hA hJ
    refine ⟨e, s1, h3, ?_⟩
    cases e with
    | normal => exact h4.elim
    | exit id => exact h4
    | ret => exact h4
end
end Go.AM
