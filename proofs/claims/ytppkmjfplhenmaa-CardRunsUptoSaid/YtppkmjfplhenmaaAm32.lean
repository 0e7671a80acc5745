/-
  Regions with loads that no order ties to what is written, and with calls that write.
-/
import Derived.Test.YtppkmjfplhenmaaA6
set_option linter.unusedSimpArgs false
set_option linter.unusedVariables false
namespace Go.AM
section
variable {P : Program} {raw : FuncId → Bool} {base : Nat} {s : St} {Q : AExit → St → Prop} {K : St → Prop}

/-- A region step by step, with what holds at every state. -/
def TRS (P : Program) (raw : FuncId → Bool) (base : Nat) (ops : Array Oper) (chk : Bool) (Φ : Nat → St → Prop) : List Oper → Nat → St → (St → Prop) → Prop
  | [], n, s, K => Φ n s ∧ K s
  | o :: l, n, s, K => Φ n s ∧ STEP P raw base ops chk o s (fun s1 => TRS P raw base ops chk Φ l (n + 1) s1 K)

theorem TRS_nil {ops : Array Oper} {chk : Bool} {Φ : Nat → St → Prop} {n : Nat} : TRS P raw base ops chk Φ [] n s K = (Φ n s ∧ K s) := rfl
theorem TRS_cons {ops : Array Oper} {chk : Bool} {Φ : Nat → St → Prop} {n : Nat} {o : Oper} {l : List Oper} : TRS P raw base ops chk Φ (o :: l) n s K = (Φ n s ∧ STEP P raw base ops chk o s (fun s1 => TRS P raw base ops chk Φ l (n + 1) s1 K)) := rfl
theorem TRS_sound {ops : Array Oper} {chk : Bool} {Φ : Nat → St → Prop} : ∀ {l : List Oper} {n : Nat} {s : St}, TRS P raw base ops chk Φ l n s K →
    ∃ s', evOps P (callL P raw) base ops chk l s = some s' ∧ K s' ∧ ∀ i x, (trOps P (callL P raw) base ops chk l s)[i]? = some x → Φ (n + i) x
  | [], n, s, ⟨h1, h2⟩ => by
    refine ⟨s, rfl, h2, fun i x hx => ?_⟩
    cases i with
    | zero => simp only [trOps, List.getElem?_cons_zero, Option.some.injEq] at hx; subst hx; exact h1
    | succ i => simp [trOps] at hx
  | o :: l, n, s, ⟨h1, s1, h2, h3⟩ => by
    obtain ⟨s', h4, h5, h6⟩ := TRS_sound h3
    refine ⟨s', by simp only [evOps, h2]; exact h4, h5, fun i x hx => ?_⟩
    simp only [trOps, h2] at hx
    cases i with
    | zero => simp only [List.getElem?_cons_zero, Option.some.injEq] at hx; subst hx; exact h1
    | succ i =>
      rw [List.getElem?_cons_succ] at hx
      have := h6 i x hx
      rwa [show n + 1 + i = n + (i + 1) by omega] at this

/-- A load that is loose: its place in the region, its type, the register of its address, the address, what it reads; the first operation that writes and waits for it (or a great number). -/
structure Ld where
  i : Nat
  t : TypeId
  r : Tmp
  p : ARef
  v : AVal
  lim : Nat
/-- What is asked at each state: the loads read the same, and at its own place a load's address is at hand. -/
def ldsQ (P : Program) : List Ld → Nat → St → Prop
  | [], _, _ => True
  | e :: L, n, s => ((if n ≤ e.lim then loadP P s.h e.t (.ptr (some e.p)) = some e.v else True) ∧ if n = e.i then s.fr e.r = .ptr (some e.p) else True) ∧ ldsQ P L n s
theorem ldsQ_nil {n : Nat} : ldsQ P [] n s = True := rfl
theorem ldsQ_cons {i t r n lim : Nat} {p : ARef} {v : AVal} {L : List Ld} {fr : AFrame} {h : Heap} : ldsQ P (⟨i, t, r, p, v, lim⟩ :: L) n ⟨fr, h⟩ = (((if n ≤ lim then loadP P h t (.ptr (some p)) = some v else True) ∧ if n = i then fr r = .ptr (some p) else True) ∧ ldsQ P L n ⟨fr, h⟩) := rfl
theorem ldsQ_mem : ∀ {L : List Ld} {n : Nat} {s : St}, ldsQ P L n s → ∀ e ∈ L, (n ≤ e.lim → loadP P s.h e.t (.ptr (some e.p)) = some e.v) ∧ (n = e.i → s.fr e.r = .ptr (some e.p))
  | [], _, _, _, e, he => by cases he
  | x :: L, n, s, ⟨⟨h1, h2⟩, h3⟩, e, he => by
    rcases List.mem_cons.1 he with rfl | he
    · exact ⟨fun hn => by rw [if_pos hn] at h1; exact h1, fun hn => by rw [if_pos hn] at h2; exact h2⟩
    · exact ldsQ_mem h3 e he
def ldsOps (wd : Bool) (l : List Oper) (L : List Ld) : Bool := L.all fun e => (decide (l.length ≤ e.lim) || (isEw wd (l.toArray.getD e.lim default).op && befores l.toArray e.lim e.i)) && match l[e.i]? with | some o => (match o.op with | .load t (.tmp r) => t == e.t && r == e.r | _ => false) | none => false
def refsLow (n : Nat) (v : AVal) : Prop := v.refs.all (fun r => decide (r.1 < n)) = true
def ldsLow (n : Nat) : List Ld → Prop
  | [] => True
  | e :: L => refsLow n e.v ∧ ldsLow n L
theorem ldsLow_mem {n : Nat} : ∀ {L : List Ld}, ldsLow n L → ∀ e ∈ L, refsLow n e.v
  | [], _, e, he => by cases he
  | x :: L, ⟨h1, h2⟩, e, he => by
    rcases List.mem_cons.1 he with rfl | he
    · exact h1
    · exact ldsLow_mem h2 e he

theorem len_tr {ops : Array Oper} {chk : Bool} : ∀ {l : List Oper} {s s' : St} {i : Nat}, evOps P (callL P raw) base ops chk l s = some s' → i ≤ l.length → ∃ x, (trOps P (callL P raw) base ops chk l s)[i]? = some x
  | [], s, s', i, _, hi => ⟨s, by have : i = 0 := by simpa using hi
                                  subst this; rfl⟩
  | o :: l, s, s', 0, _, _ => ⟨s, by simp [trOps]⟩
  | o :: l, s, s', i + 1, h, hi => by
    simp only [evOps] at h
    split at h
    · rename_i s1 h1
      obtain ⟨x, hx⟩ := len_tr (i := i) h (by simpa using hi)
      exact ⟨x, by simp only [trOps, h1, List.getElem?_cons_succ]; exact hx⟩
    · cases h

theorem tr_len {ops : Array Oper} {chk : Bool} : ∀ (l : List Oper) (s : St), (trOps P (callL P raw) base ops chk l s).length ≤ l.length + 1
  | [], s => by simp [trOps]
  | o :: l, s => by
    simp only [trOps, List.length_cons]
    split
    · rename_i s1 _
      have := tr_len (ops := ops) (chk := chk) l s1
      omega
    · simp

theorem loose_of {wd : Bool} {l : List Oper} {L : List Ld} {s' : St} (hl : looseL wd l.toArray = L.map (·.i)) (ho : ldsOps wd l L = true) (hv : ldsLow s.h.length L) (h1 : evOps P (callL P raw) base l.toArray (!wd) l s = some s')
    (h3 : ∀ i x, (trOps P (callL P raw) base l.toArray (!wd) l s)[i]? = some x → ldsQ P L (0 + i) x) : LooseOk P (callWith P raw (evL P raw)) base wd l.toArray s := by
  intro j hj
  rw [hl] at hj
  obtain ⟨e, he, rfl⟩ := List.mem_map.1 hj
  have hoe := List.all_eq_true.1 ho e he
  rw [Bool.and_eq_true] at hoe
  obtain ⟨hlm, hoe⟩ := hoe
  split at hoe
  · rename_i o hlo
    split at hoe
    · rename_i t r hop
      simp only [Bool.and_eq_true, beq_iff_eq] at hoe
      obtain ⟨rfl, rfl⟩ := hoe
      have hi : e.i < l.length := (List.getElem?_eq_some_iff.1 hlo).1
      obtain ⟨x, hx⟩ := len_tr (i := e.i) h1 (by omega)
      have hx1 := (ldsQ_mem (h3 e.i x hx) e he).2 (by omega)
      refine ⟨o, x, e.v, by simpa using hlo, hx, fun m y hy hwait => ?_, ldsLow_mem hv e he⟩
      have hml : m ≤ l.length := by
        have h4 := (List.getElem?_eq_some_iff.1 hy).1
        have h5 : (trOps P (callWith P raw (evL P raw)) base l.toArray (!wd) l.toArray.toList s).length ≤ l.length + 1 := tr_len (P := P) (raw := raw) (base := base) (ops := l.toArray) (chk := !wd) l s
        omega
      have hle : 0 + m ≤ e.lim := by
        rw [Bool.or_eq_true, Bool.and_eq_true] at hlm
        rcases hlm with h4 | ⟨h4, h5⟩
        · have := of_decide_eq_true h4; omega
        · rcases Nat.lt_or_ge e.lim l.length with h6 | h6
          · have := hwait e.lim (by simpa using h6) h4 h5; omega
          · omega
      have hy1 := (ldsQ_mem (h3 m y hy) e he).1 hle
      rw [hop]
      simp only [pureA, ev, hx1]
      exact hy1
    · cases hoe
  · cases hoe

/-- Loads that no order ties to a store. -/
theorem WP_loose {id : Nat} {l : List Oper} (L : List Ld) (hl : looseL false l.toArray = L.map (·.i)) (ho : ldsOps false l L = true) (hv : ldsLow s.h.length L)
    (h : ∀ K : St → Prop, K = Q .normal → TRS P raw base l.toArray true (ldsQ P L) l 0 s K) : WP P raw base (.region id l.toArray true) s Q := by
  obtain ⟨s', h1, h2, h3⟩ := TRS_sound (h _ rfl)
  exact WP_safe (.inl ⟨loose_of hl ho hv h1 h3, s', h1⟩) (evOps_unchk h1) h2
/-- Calls that write what there was. -/
theorem WP_wild {id : Nat} {l : List Oper} (L : List Ld) (hd : drawOk (quietB P) true l.toArray = true) (hl : looseL true l.toArray = L.map (·.i)) (ho : ldsOps true l L = true) (hv : ldsLow s.h.length L)
    (h : ∀ K : St → Prop, K = Q .normal → TRS P raw base l.toArray false (ldsQ P L) l 0 s K) : WP P raw base (.region id l.toArray true) s Q := by
  obtain ⟨s', h1, h2, h3⟩ := TRS_sound (h _ rfl)
  exact WP_safe (.inr ⟨hd, loose_of hl ho hv h1 h3⟩) h1 h2
theorem refsLow_int {n : Nat} {k : IntKind} {x : Int} : refsLow n (.int k x) := rfl
theorem refsLow_slice {n id v o m k : Nat} (h : id < n) : refsLow n (.slice (some ⟨id, v, o⟩) m k) := by
  simp only [refsLow, AVal.refs]
  split <;> simp [h]
theorem refsLow_nil {n m k : Nat} : refsLow n (.slice none m k) := rfl
theorem refsLow_ptr {n id v o : Nat} (h : id < n) : refsLow n (.ptr (some ⟨id, v, o⟩)) := by simp [refsLow, AVal.refs, h]
theorem refsLow_grV {n id : Nat} {l : List Int} (h : id + (grH l).length ≤ n) : refsLow n (grV id l) := by
  cases l with
  | nil => rfl
  | cons x xs => exact refsLow_slice (by simp only [grH, List.length_cons, List.length_nil] at h; omega)
end
end Go.AM
