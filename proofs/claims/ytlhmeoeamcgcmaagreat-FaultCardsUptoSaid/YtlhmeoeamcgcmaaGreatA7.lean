/-
  Regions with loads that no order ties to what is written, and with calls that write.
-/
import Derived.Test.YtlhmeoeamcgcmaaGreatA6
set_option linter.unusedSimpArgs false
set_option linter.unusedVariables false
namespace Go.AM
section
variable {P : Program} {raw : FuncId → Bool} {base : Nat} {s : St} {Q : AExit → St → Prop} {K : St → Prop}
/-- A region step by step, with what holds at every state. -/
def TRS (P : Program) (raw : FuncId → Bool) (base : Nat) (ops : Array Oper) (chk : Bool) (Φ : Nat → St → Prop) : List Oper → Nat → St → (St → Prop) → Prop
  | [], n, s, K => Φ n s ∧ K s
  | o :: l, n, s, K => Φ n s ∧ STEP P raw base ops chk o s (fun s1 => TRS P raw base ops chk Φ l (n + 1) s1 K)
theorem TRS_nil {ops : Array Oper} {chk : Bool} {Φ : Nat → St → Prop} {n : Nat} : TRS P raw base ops chk Φ [] n s K = (Φ n s ∧ K s) := rfl
theorem TRS_cons {ops : Array Oper} {chk : Bool} {Φ : Nat → St → Prop} {n : Nat} {o : Oper} {l : List Oper} : TRS P raw base ops chk Φ (o :: l) n s K = (Φ n s ∧ STEP P raw base ops chk o s (fun s1 => TRS P raw base ops chk Φ l (n + 1) s1 K)) := rfl
theorem TRS_sound {ops : Array Oper} {chk : Bool} {Φ : Nat → St → Prop} : ∀ {l : List Oper} {n : Nat} {s : St}, TRS P raw base ops chk Φ l n s K →
    ∃ s', evOps P (callL P raw) base ops chk l s = some s' ∧ K s' ∧ ∀ i x, (trOps P (callL P raw) base ops chk l s)[i]? = some x → Φ (n + i) x
  | [], n, s, ⟨h1, h2⟩ => by
    refine ⟨s, rfl, h2, fun i x hx => ?_⟩
    cases i with
    | zero => simp only [trOps, List.getElem?_cons_zero, Option.some.injEq] at hx; subst hx; exact h1
    | succ i => simp [trOps] at hx
  | o :: l, n, s, ⟨h1, s1, h2, h3⟩ => by
    obtain ⟨s', h4, h5, h6⟩ := TRS_sound h3
    refine ⟨s', by simp only [evOps, h2]; exact h4, h5, fun i x hx => ?_⟩
    simp only [trOps, h2] at hx
    cases i with
    | zero => simp only [List.getElem?_cons_zero, Option.some.injEq] at hx; subst hx; exact h1
    | succ i =>
      rw [List.getElem?_cons_succ] at hx
      have := h6 i x hx
      rwa [show n + 1 + i = n + (i + 1) by omega] at this
/-- A load that is loose: its place in the region, its type, the register of its address, the address, what it reads; the first operation that writes and waits for it (or a great number). -/
structure Ld where
  i : Nat
  t : TypeId
  r : Tmp
  p : ARef
  v : AVal
  lim : Nat
/-- What is asked at each state: the loads read the same, and at its own place a load's address is at hand. -/
def ldsQ (P : Program) : List Ld → Nat → St → Prop
  | [], _, _ => True
  | e :: L, n, s => ((if n ≤ e.lim then loadP P s.h e.t (.ptr (some e.p)) = some e.v else True) ∧ if n = e.i then s.fr e.r = .ptr (some e.p) else True) ∧ ldsQ P L n s
theorem ldsQ_nil {n : Nat} : ldsQ P [] n s = True := rfl
theorem ldsQ_cons {i t r n lim : Nat} {p : ARef} {v : AVal} {L : List Ld} {fr : AFrame} {h : Heap} : ldsQ P (⟨i, t, r, p, v, lim⟩ :: L) n ⟨fr, h⟩ = (((if n ≤ lim then loadP P h t (.ptr (some p)) = some v else True) ∧ if n = i then fr r = .ptr (some p) else True) ∧ ldsQ P L n ⟨fr, h⟩) := rfl
theorem ldsQ_mem : ∀ {L : List Ld} {n : Nat} {s : St}, ldsQ P L n s → ∀ e ∈ L, (n ≤ e.lim → loadP P s.h e.t (.ptr (some e.p)) = some e.v) ∧ (n = e.i → s.fr e.r = .ptr (some e.p))
  | [], _, _, _, e, he => by cases he
  | x :: L, n, s, ⟨⟨h1, h2⟩, h3⟩, e, he => by
    rcases List.mem_cons.1 he with rfl | he
    · exact ⟨fun hn => by rw [if_pos hn] at h1; exact h1, fun hn => by rw [if_pos hn] at h2; exact h2⟩
    · exact ldsQ_mem h3 e he
def ldsOps (wd : Bool) (l : List Oper) (L : List Ld) : Bool := L.all fun e => (decide (l.length ≤ e.lim) || (isEw wd (l.toArray.getD e.lim default).op && befores l.toArray e.lim e.i)) && match l[e.i]? with | some o => (match o.op with | .load t (.tmp r) => t == e.t && r == e.r | _ => false) | none => false
def refsLow (n : Nat) (v : AVal) : Prop := v.refs.all (fun r => decide (r.1 < n)) = true
def ldsLow (n : Nat) : List Ld → Prop
  | [] => True
  | e :: L => refsLow n e.v ∧ ldsLow n L
theorem ldsLow_mem {n : Nat} : ∀ {L : List Ld}, ldsLow n L → ∀ e ∈ L, refsLow n e.v
  | [], _, e, he => by cases he
  | x :: L, ⟨h1, h2⟩, e, he => by
    rcases List.mem_cons.1 he with rfl | he
    · exact h1
    · exact ldsLow_mem h2 e he
theorem len_tr {ops : Array Oper} {chk : Bool} : ∀ {l : List Oper} {s s' : St} {i : Nat}, evOps P (callL P raw) base ops chk l s = some s' → i ≤ l.length → ∃ x, (trOps P (callL P raw) base ops chk l s)[i]? = some x
  | [], s, s', i, _, hi => ⟨s, by have : i = 0 := by simpa using hi
                                  subst this; rfl⟩
  | o :: l, s, s', 0, _, _ => ⟨s, by simp [trOps]⟩
  | o :: l, s, s', i + 1, h, hi => by
    simp only [evOps] at h
    split at h
    · rename_i s1 h1
      obtain ⟨x, hx⟩ := len_tr (i := i) h (by simpa using hi)
      exact ⟨x, by simp only [trOps, h1, List.getElem?_cons_succ]; exact hx⟩
    · cases h
theorem tr_len {ops : Array Oper} {chk : Bool} : ∀ (l : List Oper) (s : St), (trOps P (callL P raw) base ops chk l s).length ≤ l.length + 1
  | [], s => by simp [trOps]
  | o :: l, s => by
    simp only [trOps, List.length_cons]
    split
    · rename_i s1 _
      have := tr_len (ops := ops) (chk := chk) l s1
      omega
    · simp
theorem loose_of {wd : Bool} {l : List Oper} {L : List Ld} {s' : St} (hl : looseL wd l.toArray = L.map (·.i)) (ho : ldsOps wd l L = true) (hv : ldsLow s.h.length L) (h1 : evOps P (callL P raw) base l.toArray (!wd) l s = some s')
    (h3 : ∀ i x, (trOps P (callL P raw) base l.toArray (!wd) l s)[i]? = some x → ldsQ P L (0 + i) x) : LooseOk P (callWith P raw (evL P raw)) base wd l.toArray s := by
  intro j hj
  rw [hl] at hj
  obtain ⟨e, he, rfl⟩ := List.mem_map.1 hj
  have hoe := List.all_eq_true.1 ho e he
  rw [Bool.and_eq_true] at hoe
  obtain ⟨hlm, hoe⟩ := hoe
  split at hoe
  · rename_i o hlo
    split at hoe
    · rename_i t r hop
      simp only [Bool.and_eq_true, beq_iff_eq] at hoe
      obtain ⟨rfl, rfl⟩ := hoe
      have hi : e.i < l.length := (List.getElem?_eq_some_iff.1 hlo).1
      obtain ⟨x, hx⟩ := len_tr (i := e.i) h1 (by omega)
      have hx1 := (ldsQ_mem (h3 e.i x hx) e he).2 (by omega)
      refine ⟨o, x, e.v, by simpa using hlo, hx, fun m y hy hwait => ?_, ldsLow_mem hv e he⟩
      have hml : m ≤ l.length := by
        have h4 := (List.getElem?_eq_some_iff.1 hy).1
        have h5 : (trOps P (callWith P raw (evL P raw)) base l.toArray (!wd) l.toArray.toList s).length ≤ l.length + 1 := tr_len (P := P) (raw := raw) (base := base) (ops := l.toArray) (chk := !wd) l s
        omega
      have hle : 0 + m ≤ e.lim := by
        rw [Bool.or_eq_true, Bool.and_eq_true] at hlm
        rcases hlm with h4 | ⟨h4, h5⟩
        · have := of_decide_eq_true h4; omega
        · rcases Nat.lt_or_ge e.lim l.length with h6 | h6
          · have := hwait e.lim (by simpa using h6) h4 h5; omega
          · omega
      have hy1 := (ldsQ_mem (h3 m y hy) e he).1 hle
      rw [hop]
      simp only [pureA, ev, hx1]
      exact hy1
    · cases hoe
  · cases hoe
/-- Calls that write what there was. -/
theorem WP_wild {id : Nat} {l : List Oper} (L : List Ld) (hd : drawOk (quietB P) true l.toArray = true) (hl : looseL true l.toArray = L.map (·.i)) (ho : ldsOps true l L = true) (hv : ldsLow s.h.length L)
    (h : ∀ K : St → Prop, K = Q .normal → TRS P raw base l.toArray false (ldsQ P L) l 0 s K) : WP P raw base (.region id l.toArray true) s Q := by
  obtain ⟨s', h1, h2, h3⟩ := TRS_sound (h _ rfl)
  exact WP_safe (.inr ⟨hd, loose_of hl ho hv h1 h3⟩) h1 h2
theorem refsLow_int {n : Nat} {k : IntKind} {x : Int} : refsLow n (.int k x) := rfl
theorem refsLow_slice {n id v o m k : Nat} (h : id < n) : refsLow n (.slice (some ⟨id, v, o⟩) m k) := by
  simp only [refsLow, AVal.refs]
  split <;> simp [h]
theorem refsLow_nil {n m k : Nat} : refsLow n (.slice none m k) := rfl
end
end Go.AM
/-
  Loops whose registers, but for some, stay as they were.
-/
namespace Go.AM
/-- Is a register in one of some ranges? -/
def inR : List (Nat × Nat) → Nat → Bool
  | [], _ => false
  | (a, b) :: l, r => (Nat.ble a r && Nat.ble r b) || inR l r
/-- Registers outside of some ranges are the same. -/
def Agree (m : List (Nat × Nat)) (fr FR : AFrame) : Prop := ∀ r, inR m r = false → fr r = FR r
theorem Agree.refl {m : List (Nat × Nat)} {fr : AFrame} : Agree m fr fr := fun _ _ => rfl
theorem Agree.put {m : List (Nat × Nat)} {fr FR : AFrame} {d : Tmp} {v : AVal} (hd : inR m d = true) (h : Agree m fr FR) : Agree m (Go.AM.put fr (some d) v) FR := fun r hr => by
  have hne : r ≠ d := by rintro rfl; rw [hd] at hr; cases hr
  rw [Go.AM.put_ne hne]
  exact h r hr
theorem Agree.put0 {m : List (Nat × Nat)} {fr FR : AFrame} {v : AVal} (h : Agree m fr FR) : Agree m (Go.AM.put fr none v) FR := h
section
variable {P : Program} {raw : FuncId → Bool} {base : Nat} {Q : AExit → St → Prop}
/-- A loop with a state of one's own. -/
theorem WP_iter {α : Type} {c : Code} {FR : AFrame} {H : Heap} (mod : List (Nat × Nat)) (J : Heap → α → AFrame → Heap → Prop) (m : α → Nat) (a0 : α) (h0 : J H a0 FR H)
    (step : ∀ a fr h, Agree mod fr FR → J H a fr h → WP P raw base c ⟨fr, h⟩ (thenQ (fun s' => Agree mod s'.fr FR ∧ ∃ a', J H a' s'.fr s'.h ∧ m a' < m a) Q)) : WP P raw base (.loop c) ⟨FR, H⟩ Q := by
  have key : ∀ n a fr h, m a = n → Agree mod fr FR → J H a fr h → WP P raw base (.loop c) ⟨fr, h⟩ Q := by
    intro n
    induction n using Nat.strongRecOn with
    | _ n ih =>
      intro a fr h hn hA hJ
      rw [WP_iff]
      obtain ⟨e, s1, h1, hq⟩ := step a fr h hA hJ
      simp only [evF]
      rw [h1]
      cases e with
      | normal =>
        obtain ⟨hA', a', hJ', hm⟩ := hq
        exact ih (m a') (hn ▸ hm) a' s1.fr s1.h rfl hA' hJ'
      | exit id => exact ⟨_, _, rfl, hq⟩
      | ret => exact ⟨_, _, rfl, hq⟩
  exact key _ a0 FR H rfl Agree.refl h0
end
end Go.AM
/-
  Slices of bytes: what they read.
-/
namespace Go.AM
/-- A slice of bytes: what it reads. -/
def Bytes (h : Heap) (v : AVal) (l : List Int) : Prop :=
  (l.length < 2 ^ 60 ∧ ∀ x ∈ l, 0 ≤ x ∧ x ≤ 255) ∧
  ((v = .slice .none 0 0 ∧ l = []) ∨ (v = .emp ∧ l = []) ∨
   ∃ (r : ARef) (k : Nat) (c : List AVal) (e : TypeId) (row ro : Bool), v = .slice (some r) l.length k ∧ h[r.id]? = some ⟨.cells c e row ro, r.ver⟩ ∧ (c.drop r.off).take l.length = l.map (.int .u8) ∧ r.off + l.length ≤ c.length ∧ l.length ≤ k)
section
variable {P : Program} {h : Heap} {v : AVal} {l : List Int} {t e : TypeId} {zs : List AVal}
theorem Bytes.app {g : Heap} (hI : Bytes h v l) : Bytes (h ++ g) v l := by
  refine ⟨hI.1, ?_⟩
  rcases hI.2 with h1 | h1 | ⟨r, k, c, e, row, ro, h1, h2, h3⟩
  · exact .inl h1
  · exact .inr (.inl h1)
  · exact .inr (.inr ⟨r, k, c, e, row, ro, h1, by rw [List.getElem?_append_left (lt_of_get h2)]; exact h2, h3⟩)
theorem Bytes.len (hI : Bytes h v l) (ht : elS P t = some (e, 1, zs)) : lenOpA P h t v = some (.int .i64 (l.length : Int)) := by
  simp only [lenOpA, ht]
  rcases hI.2 with ⟨rfl, rfl⟩ | ⟨rfl, rfl⟩ | ⟨r, k, c, e, row, ro, rfl, _⟩ <;> rfl
theorem Bytes.addr (hI : Bytes h v l) (ht : elS P t = some (e, 1, zs)) (ha : arT P t = .none) {i : Int} (h0 : 0 ≤ i) (h1 : i < l.length) : indexAddrA P t v (.int .i64 i) = some (elAddr v i.toNat) := by
  rcases hI.2 with ⟨rfl, rfl⟩ | ⟨rfl, rfl⟩ | ⟨r, k, c, e, row, ro, rfl, _⟩
  · simp at h1; omega
  · simp at h1; omega
  · simp only [indexAddrA, ha, ht, h0, h1, and_self, if_true, Nat.mul_one, elAddr]
theorem Bytes.load (hI : Bytes h v l) (ht : tyA P t = some (false, 1)) {i : Nat} {x : Int} (hx : l[i]? = some x) : loadP P h t (elAddr v i) = some (.int .u8 x) := by
  have hi := (List.getElem?_eq_some_iff.1 hx).1
  rcases hI.2 with ⟨rfl, rfl⟩ | ⟨rfl, rfl⟩ | ⟨r, k, c, e, row, ro, rfl, h2, h3, _⟩
  · simp at hi
  · simp at hi
  · have hg : c[r.off + i]? = some (.int .u8 x) := by
      have h4 : ((c.drop r.off).take l.length)[i]? = some (.int .u8 x) := by rw [h3, List.getElem?_map, hx]; rfl
      rw [List.getElem?_take, if_pos hi, List.getElem?_drop] at h4
      exact h4
    have hlt := (List.getElem?_eq_some_iff.1 hg).1
    have h5 : (c.drop (r.off + i)).take 1 = [.int .u8 x] := by
      rw [List.drop_eq_getElem_cons hlt]
      have := (List.getElem?_eq_some_iff.1 hg).2
      rw [this]; rfl
    simp only [loadP, elAddr, loadA, ht, Bool.false_eq_true, if_false, loadN, cellsAt, ARef.add, h2, if_true, show r.off + i + 1 ≤ c.length from hlt, h5, Option.bind_some, mkVal]
theorem Bytes.one (hI : Bytes h v l) : One v := by
  rcases hI.2 with ⟨rfl, rfl⟩ | ⟨rfl, rfl⟩ | ⟨r, k, c, e, row, ro, rfl, _⟩ <;> exact ⟨rfl, rfl, rfl⟩
theorem asBytes (x : Bytes h v l) : Bytes h v l := x
/-- A write elsewhere changes nothing of it. -/
theorem Bytes.set {i : Nat} {b : ABlk} (hI : Bytes h v l) (hb : ∀ r n k, v = .slice (some r) n k → r.id ≠ i) : Bytes (h.set i b) v l := by
  refine ⟨hI.1, ?_⟩
  rcases hI.2 with h1 | h1 | ⟨r, k, c, e, row, ro, h1, h2, h3⟩
  · exact .inl h1
  · exact .inr (.inl h1)
  · exact .inr (.inr ⟨r, k, c, e, row, ro, h1, by rw [List.getElem?_set_ne (fun e => hb _ _ _ h1 e.symm)]; exact h2, h3⟩)
end
end Go.AM
/-
  Rests in a walk: the frame and the heap get names, and what is known of them is said anew.
-/
namespace Go.AM
/-- Do ranges lie in others? -/
def subR (m m' : List (Nat × Nat)) : Bool := m.all fun p => m'.any fun q => Nat.ble q.1 p.1 && Nat.ble p.2 q.2
theorem inR_iff {r : Nat} : ∀ {m : List (Nat × Nat)}, inR m r = true ↔ ∃ p ∈ m, p.1 ≤ r ∧ r ≤ p.2
  | [] => by simp [inR]
  | (a, b) :: m => by
    have ih := inR_iff (r := r) (m := m)
    simp only [inR, Bool.or_eq_true, Bool.and_eq_true, ih]
    constructor
    · rintro (⟨h1, h2⟩ | ⟨p, hp, h⟩)
      · exact ⟨(a, b), by simp, Nat.le_of_ble_eq_true h1, Nat.le_of_ble_eq_true h2⟩
      · exact ⟨p, by simp [hp], h⟩
    · rintro ⟨p, hp, h1, h2⟩
      rcases List.mem_cons.1 hp with rfl | hp
      · exact .inl ⟨Nat.ble_eq_true_of_le h1, Nat.ble_eq_true_of_le h2⟩
      · exact .inr ⟨p, hp, h1, h2⟩
theorem Agree.sub {m m' : List (Nat × Nat)} {a b c : AFrame} (hs : subR m m' = true) (h : Agree m a b) (h2 : Agree m' b c) : Agree m' a c := fun r hr => by
  have : inR m r = false := by
    cases hc : inR m r with
    | false => rfl
    | true =>
      obtain ⟨p, hp, h3, h4⟩ := inR_iff.1 hc
      have h5 := List.all_eq_true.1 hs p hp
      obtain ⟨q, hq, h6⟩ := List.any_eq_true.1 h5
      rw [Bool.and_eq_true] at h6
      have : inR m' r = true := inR_iff.2 ⟨q, hq, Nat.le_trans (Nat.le_of_ble_eq_true h6.1) h3, Nat.le_trans h4 (Nat.le_of_ble_eq_true h6.2)⟩
      rw [this] at hr
      cases hr
  rw [h r this, h2 r hr]
section
variable {P : Program} {raw : FuncId → Bool} {base : Nat} {Q : AExit → St → Prop} {fr : AFrame} {h : Heap}
/-- A walk that has come to a rest. -/
structure WPS (P : Program) (raw : FuncId → Bool) (base : Nat) (c : Code) (s : St) (Q : AExit → St → Prop) (_ : DepW c Q := ⟨⟩) : Prop where
  go : WP P raw base c s Q
theorem WP_stop {c : Code} {s : St} : WP P raw base c s Q = WPS P raw base c s Q := propext ⟨fun h => ⟨h⟩, fun h => h.go⟩
theorem WPS_go {c : Code} {s : St} (h : WP P raw base c s Q) : WPS P raw base c s Q := ⟨h⟩
theorem WPS_rest {c : Code} (k : ∀ FR H, FR = fr → H = h → WP P raw base c ⟨FR, H⟩ Q) : WPS P raw base c ⟨fr, h⟩ Q := ⟨k fr h rfl rfl⟩
theorem WPS_restF {c : Code} (k : ∀ FR, FR = fr → WP P raw base c ⟨FR, h⟩ Q) : WPS P raw base c ⟨fr, h⟩ Q := ⟨k fr rfl⟩
theorem put_if {fr : AFrame} {t d : Nat} {v : AVal} : put fr (some d) v t = if t = d then v else fr t := rfl
theorem set_id {H : Heap} {i : Nat} {b : ABlk} (x : H[i]? = some b) : H.set i b = H := by
  obtain ⟨h1, h2⟩ := List.getElem?_eq_some_iff.1 x
  rw [← h2, List.set_getElem_self]
/-- A rest. -/
theorem WP_rest {c : Code} (k : ∀ FR H, FR = fr → H = h → WP P raw base c ⟨FR, H⟩ Q) : WP P raw base c ⟨fr, h⟩ Q := k fr h rfl rfl
/-- The block that a value points to. -/
def atP (H : Heap) (v : AVal) : Option ABlk := match v with | .ptr (some r) => H[r.id]? | _ => none
theorem atP_ptr {H : Heap} {r : ARef} : atP H (.ptr (some r)) = H[r.id]? := rfl
/-- A counted loop behind a rest: N rounds from a on; what holds before the i-th, of the heap at the start, the frame, the heap. -/
theorem WP_count {c : Code} {FR : AFrame} {H : Heap} (mod : List (Nat × Nat)) (a N : Nat) (haN : a ≤ N) (J : Heap → Nat → AFrame → Heap → Prop) (h0 : J H a FR H)
    (step : ∀ i fr h, a ≤ i → i < N → Agree mod fr FR → J H i fr h → WP P raw base c ⟨fr, h⟩ (thenQ (fun s' => Agree mod s'.fr FR ∧ J H (i + 1) s'.fr s'.h) Q))
    (last : ∀ fr h, Agree mod fr FR → J H N fr h → WP P raw base c ⟨fr, h⟩ (thenQ (fun _ => False) Q)) : WP P raw base (.loop c) ⟨FR, H⟩ Q := by
  refine WP_iter mod (fun H i fr h => a ≤ i ∧ i ≤ N ∧ J H i fr h) (fun i => N - i) a ⟨Nat.le_refl _, haN, h0⟩ ?_
  rintro i fr h hA ⟨h1, h2, hJ⟩
  by_cases hi : i < N
  · obtain ⟨e, s1, h3, h4⟩ := step i fr h h1 hi hA hJ
    refine ⟨e, s1, h3, ?_⟩
    cases e with
    | normal => exact ⟨h4.1, i + 1, ⟨by omega, by omega, h4.2⟩, by omega⟩
    | exit id => exact h4
    | ret => exact h4
  · have : i = N := by omega
    subst this
    obtain ⟨e, s1, h3, h4⟩ := last fr h hA hJ
    refine ⟨e, s1, h3, ?_⟩
    cases e with
    | normal => exact h4.elim
    | exit id => exact h4
    | ret => exact h4
end
end Go.AM
/-
  Two rows are kept.
-/
namespace Go.AM
section
variable {h T : Heap} {v : AVal} {c d : List AVal} {e f : TypeId} {row ro row' ro' : Bool} {i j u x : Nat}
end
end Go.AM
/-
  Walks that meet again: what holds behind a piece of code is said once.
-/
namespace Go.AM
section
variable {P : Program} {raw : FuncId → Bool} {base : Nat}
/-- Ways that meet again behind code. -/
theorem WP_mono {c : Code} {s : St} {Q : AExit → St → Prop} (Q1 : AExit → St → Prop) (h : WP P raw base c s Q1) (k : ∀ e s', Q1 e s' → Q e s') : WP P raw base c s Q := by
  obtain ⟨e, s', h1, h2⟩ := h
  exact ⟨e, s', h1, k e s' h2⟩
/-- Code that ends as it should, and goes on. -/
theorem WP_meet {c : Code} {s : St} {Q : AExit → St → Prop} {K : St → Prop} (I : AFrame → Heap → Prop) (h : WP P raw base c s (thenQ (fun s' => I s'.fr s'.h) (fun _ _ => False))) (k : ∀ fr h, I fr h → K ⟨fr, h⟩) : WP P raw base c s (thenQ K Q) := by
  refine WP_mono _ h fun e s' h1 => ?_
  cases e with
  | normal => exact k _ _ h1
  | exit id => exact h1.elim
  | ret => exact h1.elim
end
end Go.AM
