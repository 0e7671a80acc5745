/-
  Rests in a walk: the frame and the heap get names, and what is known of them is said anew.
-/
import Derived.Test.YtppkmjfplhenmaaAm34
set_option linter.unusedSimpArgs false
set_option linter.unusedVariables false
namespace Go.AM
/-- Do ranges lie in others? -/
def subR (m m' : List (Nat × Nat)) : Bool := m.all fun p => m'.any fun q => Nat.ble q.1 p.1 && Nat.ble p.2 q.2
theorem inR_iff {r : Nat} : ∀ {m : List (Nat × Nat)}, inR m r = true ↔ ∃ p ∈ m, p.1 ≤ r ∧ r ≤ p.2
  | [] => by simp [inR]
  | (a, b) :: m => by
    have ih := inR_iff (r := r) (m := m)
    simp only [inR, Bool.or_eq_true, Bool.and_eq_true, ih]
    constructor
    · rintro (⟨h1, h2⟩ | ⟨p, hp, h⟩)
      · exact ⟨(a, b), by simp, Nat.le_of_ble_eq_true h1, Nat.le_of_ble_eq_true h2⟩
      · exact ⟨p, by simp [hp], h⟩
    · rintro ⟨p, hp, h1, h2⟩
      rcases List.mem_cons.1 hp with rfl | hp
      · exact .inl ⟨Nat.ble_eq_true_of_le h1, Nat.ble_eq_true_of_le h2⟩
      · exact .inr ⟨p, hp, h1, h2⟩
theorem Agree.sub {m m' : List (Nat × Nat)} {a b c : AFrame} (hs : subR m m' = true) (h : Agree m a b) (h2 : Agree m' b c) : Agree m' a c := fun r hr => by
  have : inR m r = false := by
    cases hc : inR m r with
    | false => rfl
    | true =>
      obtain ⟨p, hp, h3, h4⟩ := inR_iff.1 hc
      have h5 := List.all_eq_true.1 hs p hp
      obtain ⟨q, hq, h6⟩ := List.any_eq_true.1 h5
      rw [Bool.and_eq_true] at h6
      have : inR m' r = true := inR_iff.2 ⟨q, hq, Nat.le_trans (Nat.le_of_ble_eq_true h6.1) h3, Nat.le_trans h4 (Nat.le_of_ble_eq_true h6.2)⟩
      rw [this] at hr
      cases hr
  rw [h r this, h2 r hr]
section
variable {P : Program} {raw : FuncId → Bool} {base : Nat} {Q : AExit → St → Prop} {fr : AFrame} {h : Heap}
/-- A walk that has come to a rest. -/
structure WPS (P : Program) (raw : FuncId → Bool) (base : Nat) (c : Code) (s : St) (Q : AExit → St → Prop) (_ : DepW c Q := ⟨⟩) : Prop where
  go : WP P raw base c s Q
theorem WP_stop {c : Code} {s : St} : WP P raw base c s Q = WPS P raw base c s Q := propext ⟨fun h => ⟨h⟩, fun h => h.go⟩
theorem WPS_go {c : Code} {s : St} (h : WP P raw base c s Q) : WPS P raw base c s Q := ⟨h⟩
theorem WPS_rest {c : Code} (k : ∀ FR H, FR = fr → H = h → WP P raw base c ⟨FR, H⟩ Q) : WPS P raw base c ⟨fr, h⟩ Q := ⟨k fr h rfl rfl⟩
theorem WPS_restF {c : Code} (k : ∀ FR, FR = fr → WP P raw base c ⟨FR, h⟩ Q) : WPS P raw base c ⟨fr, h⟩ Q := ⟨k fr rfl⟩
theorem put_if {fr : AFrame} {t d : Nat} {v : AVal} : put fr (some d) v t = if t = d then v else fr t := rfl
theorem set_id {H : Heap} {i : Nat} {b : ABlk} (x : H[i]? = some b) : H.set i b = H := by
  obtain ⟨h1, h2⟩ := List.getElem?_eq_some_iff.1 x
  rw [← h2, List.set_getElem_self]
/-- A rest. -/
theorem WP_rest {c : Code} (k : ∀ FR H, FR = fr → H = h → WP P raw base c ⟨FR, H⟩ Q) : WP P raw base c ⟨fr, h⟩ Q := k fr h rfl rfl
/-- The block that a value points to. -/
def atP (H : Heap) (v : AVal) : Option ABlk := match v with | .ptr (some r) => H[r.id]? | _ => none
theorem atP_ptr {H : Heap} {r : ARef} : atP H (.ptr (some r)) = H[r.id]? := rfl
theorem fr_at {FR fr : AFrame} {v : AVal} (e : FR = fr) (r : Nat) (x : fr r = v) : FR r = v := by rw [e]; exact x
theorem blk_at {H h : Heap} {b : Option ABlk} (e : H = h) (i : Nat) (x : h[i]? = b) : H[i]? = b := by rw [e]; exact x
theorem len_at {H h : Heap} {n : Nat} (e : H = h) (x : h.length = n) : H.length = n := by rw [e]; exact x
theorem ext_at {H h g : Heap} (e : H = h) (x : Ext g h) : Ext g H := by rw [e]; exact x
/-- A counted loop behind a rest: N rounds from a on; what holds before the i-th, of the heap at the start, the frame, the heap. -/
theorem WP_count {c : Code} {FR : AFrame} {H : Heap} (mod : List (Nat × Nat)) (a N : Nat) (haN : a ≤ N) (J : Heap → Nat → AFrame → Heap → Prop) (h0 : J H a FR H)
    (step : ∀ i fr h, a ≤ i → i < N → Agree mod fr FR → J H i fr h → WP P raw base c ⟨fr, h⟩ (thenQ (fun s' => Agree mod s'.fr FR ∧ J H (i + 1) s'.fr s'.h) Q))
    (last : ∀ fr h, Agree mod fr FR → J H N fr h → WP P raw base c ⟨fr, h⟩ (thenQ (fun _ => False) Q)) : WP P raw base (.loop c) ⟨FR, H⟩ Q := by
  refine WP_iter mod (fun H i fr h => a ≤ i ∧ i ≤ N ∧ J H i fr h) (fun i => N - i) a ⟨Nat.le_refl _, haN, h0⟩ ?_
  rintro i fr h hA ⟨h1, h2, hJ⟩
  by_cases hi : i < N
  · obtain ⟨e, s1, h3, h4⟩ := step i fr h h1 hi hA hJ
    refine ⟨e, s1, h3, ?_⟩
    cases e with
    | normal => exact ⟨h4.1, i + 1, ⟨by omega, by omega, h4.2⟩, by omega⟩
    | exit id => exact h4
    | ret => exact h4
  · have : i = N := by omega
    subst this
    obtain ⟨e, s1, h3, h4⟩ := last fr h hA hJ
    refine ⟨e, s1, h3, ?_⟩
    cases e with
    | normal => exact h4.elim
    | exit id => exact h4
    | ret => exact h4
end
end Go.AM
