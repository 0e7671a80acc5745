/-
  Regions with a load that no order ties to what is written.
-/
import Derived.Test.YtppkmjfplhenmaaA6
set_option linter.unusedSimpArgs false
set_option linter.unusedVariables false
namespace Go.AM
section
variable {P : Program} {raw : FuncId → Bool} {base : Nat} {s : St} {Q : AExit → St → Prop} {K : St → Prop}

/-- A region step by step, with what holds at every state. -/
def TRS (P : Program) (raw : FuncId → Bool) (base : Nat) (ops : Array Oper) (Φ : Nat → St → Prop) : List Oper → Nat → St → (St → Prop) → Prop
  | [], n, s, K => Φ n s ∧ K s
  | o :: l, n, s, K => Φ n s ∧ STEP P raw base ops true o s (fun s1 => TRS P raw base ops Φ l (n + 1) s1 K)

theorem TRS_nil {ops : Array Oper} {Φ : Nat → St → Prop} {n : Nat} : TRS P raw base ops Φ [] n s K = (Φ n s ∧ K s) := rfl
theorem TRS_cons {ops : Array Oper} {Φ : Nat → St → Prop} {n : Nat} {o : Oper} {l : List Oper} : TRS P raw base ops Φ (o :: l) n s K = (Φ n s ∧ STEP P raw base ops true o s (fun s1 => TRS P raw base ops Φ l (n + 1) s1 K)) := rfl
theorem TRS_sound {ops : Array Oper} {Φ : Nat → St → Prop} : ∀ {l : List Oper} {n : Nat} {s : St}, TRS P raw base ops Φ l n s K →
    ∃ s', evOps P (callL P raw) base ops true l s = some s' ∧ K s' ∧ ∀ i x, (trOps P (callL P raw) base ops true l s)[i]? = some x → Φ (n + i) x
  | [], n, s, ⟨h1, h2⟩ => by
    refine ⟨s, rfl, h2, fun i x hx => ?_⟩
    cases i with
    | zero => simp only [trOps, List.getElem?_cons_zero, Option.some.injEq] at hx; subst hx; exact h1
    | succ i => simp [trOps] at hx
  | o :: l, n, s, ⟨h1, s1, h2, h3⟩ => by
    obtain ⟨s', h4, h5, h6⟩ := TRS_sound h3
    refine ⟨s', by simp only [evOps, h2]; exact h4, h5, fun i x hx => ?_⟩
    simp only [trOps, h2] at hx
    cases i with
    | zero => simp only [List.getElem?_cons_zero, Option.some.injEq] at hx; subst hx; exact h1
    | succ i =>
      rw [List.getElem?_cons_succ] at hx
      have := h6 i x hx
      rwa [show n + 1 + i = n + (i + 1) by omega] at this

/-- What is asked at each state: the load reads the same, and at its own place its address is at hand. -/
def ldQ (P : Program) (t : TypeId) (r : Tmp) (p : ARef) (v : AVal) (i n : Nat) (s : St) : Prop := loadP P s.h t (.ptr (some p)) = some v ∧ if n = i then s.fr r = .ptr (some p) else True

theorem len_tr {ops : Array Oper} : ∀ {l : List Oper} {s s' : St} {i : Nat}, evOps P (callL P raw) base ops true l s = some s' → i ≤ l.length → ∃ x, (trOps P (callL P raw) base ops true l s)[i]? = some x
  | [], s, s', i, _, hi => ⟨s, by have : i = 0 := by simpa using hi
                                  subst this; rfl⟩
  | o :: l, s, s', 0, _, _ => ⟨s, by simp [trOps]⟩
  | o :: l, s, s', i + 1, h, hi => by
    simp only [evOps] at h
    split at h
    · rename_i s1 h1
      obtain ⟨x, hx⟩ := len_tr (i := i) h (by simpa using hi)
      exact ⟨x, by simp only [trOps, h1, List.getElem?_cons_succ]; exact hx⟩
    · cases h

theorem WP_loose {id i t r : Nat} {l : List Oper} {o : Oper} (p : ARef) (v : AVal) (hl : looseL l.toArray = [i]) (ho : l[i]? = some o) (hop : o.op = .load t (.tmp r)) (hv : v.refs = [])
    (h : ∀ K : St → Prop, K = Q .normal → TRS P raw base l.toArray (ldQ P t r p v i) l 0 s K) : WP P raw base (.region id l.toArray true) s Q := by
  obtain ⟨s', h1, h2, h3⟩ := TRS_sound (h _ rfl)
  have hi : i < l.length := (List.getElem?_eq_some_iff.1 ho).1
  have hlo : LooseOk P (callWith P raw (evL P raw)) base l.toArray s := by
    intro j hj
    rw [hl, List.mem_singleton] at hj
    subst hj
    obtain ⟨x, hx⟩ := len_tr (i := j) h1 (by omega)
    have hx1 := (h3 j x hx).2
    rw [Nat.zero_add, if_pos rfl] at hx1
    refine ⟨o, x, v, by simpa using ho, hx, fun y hy => ?_, by rw [hv]; rfl⟩
    obtain ⟨m, hm, hm2⟩ := List.mem_iff_getElem.1 hy
    have hy1 := (h3 m y (by rw [← hm2]; exact List.getElem?_eq_getElem hm)).1
    rw [hop]
    simp only [pureA, ev, hx1]
    exact hy1
  rw [WP_iff]
  simp only [evF, hlo, not_true_eq_false, and_false, if_false]
  exact ⟨.normal, s', by rw [show evOps P (callWith P raw (evL P raw)) base l.toArray true l.toArray.toList s = some s' from h1], h2⟩
end
end Go.AM
