/-
  Slices whose elements are structs; calls of which only what holds behind them is said.
-/
import Derived.Test.YtlhmeoeamcgcmaaGreatA7
set_option linter.unusedSimpArgs false
set_option linter.unusedVariables false
namespace Go.AM
/-- How an element is laid out: so many cells, each a scalar. -/
structure Enc (α : Type) where
  z : Nat
  cells : α → List AVal
  len : ∀ x, (cells x).length = z
  pos : 0 < z
section
variable {α : Type} (E : Enc α)
def flat (l : List α) : List AVal := l.flatMap E.cells
theorem flat_nil : flat E [] = [] := rfl
theorem flat_cons {x : α} {l : List α} : flat E (x :: l) = E.cells x ++ flat E l := rfl
theorem flat_app {l m : List α} : flat E (l ++ m) = flat E l ++ flat E m := by simp [flat]
theorem flat_len (l : List α) : (flat E l).length = l.length * E.z := by
  induction l with
  | nil => simp [flat]
  | cons x l ih => rw [flat_cons, List.length_append, E.len, ih, List.length_cons, Nat.succ_mul, Nat.add_comm]
theorem flat_get : ∀ {l : List α} {i : Nat} {x : α}, l[i]? = some x → ((flat E l).drop (i * E.z)).take E.z = E.cells x
  | [], i, x, h => by simp at h
  | y :: l, 0, x, h => by
    simp at h; subst h
    rw [flat_cons, Nat.zero_mul, List.drop_zero, ← E.len y, List.take_left]
  | y :: l, i + 1, x, h => by
    have h1 : l[i]? = some x := by simpa using h
    rw [flat_cons, show (i + 1) * E.z = (E.cells y).length + i * E.z by rw [E.len, Nat.succ_mul, Nat.add_comm], List.drop_length_add_append]
    exact flat_get h1
theorem flat_set : ∀ {l : List α} {i : Nat} {x : α}, i < l.length → flat E (l.set i x) = (flat E l).take (i * E.z) ++ E.cells x ++ (flat E l).drop ((i + 1) * E.z)
  | [], i, x, h => by simp at h
  | y :: l, 0, x, h => by
    rw [List.set_cons_zero, flat_cons, flat_cons, Nat.zero_mul, List.take_zero, List.nil_append, Nat.zero_add, Nat.one_mul]
    congr 1
    rw [← E.len y, List.drop_left]
  | y :: l, i + 1, x, h => by
    have ih := flat_set (l := l) (i := i) (x := x) (by simpa using h)
    have e1 : ∀ n, (n + 1) * E.z = (E.cells y).length + n * E.z := fun n => by rw [E.len, Nat.succ_mul, Nat.add_comm]
    rw [List.set_cons_succ, flat_cons, flat_cons, e1 i, e1 (i + 1), List.take_length_add_append, List.drop_length_add_append, ih]
    simp only [List.append_assoc]
/-- What a slice of such elements reads. -/
def Rows (h : Heap) (v : AVal) (l : List α) : Prop :=
  l.length < 2 ^ 60 ∧
  ((v = .slice .none 0 0 ∧ l = []) ∨ (v = .emp ∧ l = []) ∨
   ∃ (r : ARef) (k : Nat) (c : List AVal) (e : TypeId) (row ro : Bool), v = .slice (some r) l.length k ∧ h[r.id]? = some ⟨.cells c e row ro, r.ver⟩ ∧ (c.drop r.off).take (l.length * E.z) = flat E l ∧ r.off + l.length * E.z ≤ c.length ∧ l.length ≤ k)
end
/-- An element's address, and that of a cell of it. -/
def elAdr (v : AVal) (z i o : Nat) : AVal := match v with
  | .slice (some r) _ _ => .ptr (some (r.add (i * z + o)))
  | _ => .none
section
variable {α : Type} {E : Enc α} {P : Program} {h : Heap} {v : AVal} {l : List α} {t s e : TypeId} {zs : List AVal}
theorem Rows.ext {H : Heap} (hR : Rows E h v l) (x : Ext h H) : Rows E H v l := by
  refine ⟨hR.1, hR.2.imp id (.imp id ?_)⟩
  rintro ⟨r, k, c, e, row, ro, h1, h2, h3⟩
  exact ⟨r, k, c, e, row, ro, h1, x.get h2, h3⟩
theorem Rows.app {T : Heap} (hR : Rows E h v l) : Rows E (h ++ T) v l := hR.ext (.app .refl)
theorem Rows.one (hR : Rows E h v l) : One v := by
  rcases hR.2 with ⟨rfl, _⟩ | ⟨rfl, _⟩ | ⟨r, k, c, e, row, ro, rfl, _⟩ <;> exact ⟨rfl, rfl, rfl⟩
theorem Rows.len (hR : Rows E h v l) (ht : elS P t = some (e, E.z, zs)) : lenOpA P h t v = some (.int .i64 (l.length : Int)) := by
  simp only [lenOpA, ht]
  rcases hR.2 with ⟨rfl, rfl⟩ | ⟨rfl, rfl⟩ | ⟨r, k, c, e, row, ro, rfl, _⟩ <;> rfl
theorem Rows.addr (hR : Rows E h v l) (ht : elS P t = some (e, E.z, zs)) (ha : arT P t = .none) {i : Int} (h0 : 0 ≤ i) (h1 : i < l.length) : indexAddrA P t v (.int .i64 i) = some (elAdr v E.z i.toNat 0) := by
  rcases hR.2 with ⟨rfl, rfl⟩ | ⟨rfl, rfl⟩ | ⟨r, k, c, e, row, ro, rfl, _⟩
  · simp at h1; omega
  · simp at h1; omega
  · simp only [indexAddrA, ha, ht, h0, h1, and_self, if_true, elAdr, Nat.add_zero]
theorem elAdr_field {i o f off n : Nat} {q : Bool} (hR : Rows E h v l) (hi : i < l.length) (hf : fld P s f = some (off, q, n)) (hz : n ≠ 0) : fieldAddrA P s (elAdr v E.z i o) f = some (elAdr v E.z i (o + off)) := by
  rcases hR.2 with ⟨rfl, rfl⟩ | ⟨rfl, rfl⟩ | ⟨r, k, c, e, row, ro, rfl, _⟩
  · simp at hi
  · simp at hi
  · simp only [fieldAddrA, hf, elAdr, hz, if_false, ARef.add, Nat.add_assoc]
theorem Rows.load (hR : Rows E h v l) (ht : tyA P t = some (true, E.z)) {i : Nat} {x : α} (hx : l[i]? = some x) : loadP P h t (elAdr v E.z i 0) = some (.agg (E.cells x)) := by
  have hi := (List.getElem?_eq_some_iff.1 hx).1
  rcases hR.2 with ⟨rfl, rfl⟩ | ⟨rfl, rfl⟩ | ⟨r, k, c, e, row, ro, rfl, h2, h3, h4, _⟩
  · simp at hi
  · simp at hi
  · have hle : i * E.z + E.z ≤ l.length * E.z := by rw [← Nat.succ_mul]; exact Nat.mul_le_mul_right _ hi
    have hg := flat_get E hx
    rw [← h3, List.drop_take, List.take_take, List.drop_drop, Nat.min_eq_left (by omega)] at hg
    simp only [loadP, elAdr, loadA, ht, loadN, cellsAt, ARef.add, h2, if_true, Nat.add_zero]
    rw [if_pos (show r.off + i * E.z + E.z ≤ c.length by omega)]
    simp only [Option.bind_some, mkVal, if_true]
    rw [hg]
theorem Rows.cell (hR : Rows E h v l) (ht : tyA P t = some (false, 1)) {i o : Nat} {x : α} {a : AVal} (hx : l[i]? = some x) (ho : (E.cells x)[o]? = some a) : loadP P h t (elAdr v E.z i o) = some a := by
  have hi := (List.getElem?_eq_some_iff.1 hx).1
  have hoz := (List.getElem?_eq_some_iff.1 ho).1
  rw [E.len] at hoz
  rcases hR.2 with ⟨rfl, rfl⟩ | ⟨rfl, rfl⟩ | ⟨r, k, c, e, row, ro, rfl, h2, h3, h4, _⟩
  · simp at hi
  · simp at hi
  · have hle : i * E.z + E.z ≤ l.length * E.z := by rw [← Nat.succ_mul]; exact Nat.mul_le_mul_right _ hi
    have hg := flat_get E hx
    rw [← h3, List.drop_take, List.take_take, List.drop_drop, Nat.min_eq_left (by omega)] at hg
    have hc : c[r.off + (i * E.z + o)]? = some a := by
      rw [← hg, List.getElem?_take, if_pos hoz, List.getElem?_drop] at ho
      rw [← Nat.add_assoc]; exact ho
    have hlt := (List.getElem?_eq_some_iff.1 hc).1
    simp only [loadP, elAdr, loadA, ht, Bool.false_eq_true, if_false, loadN, cellsAt, ARef.add, h2, if_true]
    rw [if_pos (show r.off + (i * E.z + o) + 1 ≤ c.length from hlt), List.drop_eq_getElem_cons hlt, (List.getElem?_eq_some_iff.1 hc).2]
    rfl
/-- A row of one's own. -/
def rowE (E : Enc α) (e : TypeId) (l : List α) (ver : Nat) : ABlk := ⟨.cells (flat E l) e true false, ver⟩
theorem Rows.own {id ver n : Nat} (hg : h[id]? = some (rowE E e l ver)) (hn : n = l.length) (hl : l.length < 2 ^ 60) : Rows E h (.slice (some ⟨id, ver, 0⟩) n n) l := by
  subst hn
  refine ⟨hl, .inr (.inr ⟨⟨id, ver, 0⟩, l.length, flat E l, e, true, false, rfl, hg, ?_, ?_, Nat.le_refl _⟩)⟩
  · rw [List.drop_zero, List.take_of_length_le (by rw [flat_len]; exact Nat.le_refl _)]
  · rw [flat_len]; exact Nat.le_of_eq (Nat.zero_add _)
theorem asRows (x : Rows E h v l) : Rows E h v l := x
theorem Rows.nil : Rows E h (.slice none 0 0) ([] : List α) := ⟨by simp, .inl ⟨rfl, rfl⟩⟩
theorem Rows.firstN (hR : Rows E h v l) : firstN h E.z l.length v = some (flat E l) := by
  rcases hR.2 with ⟨rfl, rfl⟩ | ⟨rfl, rfl⟩ | ⟨r, k, c, e, row, ro, rfl, h2, h3, h4, _⟩
  · rfl
  · rfl
  · simp only [Go.AM.firstN, loadN, cellsAt, h2, if_true, h4, h3]
theorem Rows.lenA (hR : Rows E h v l) : Go.AM.lenA E.z v = some l.length := by
  rcases hR.2 with ⟨rfl, rfl⟩ | ⟨rfl, rfl⟩ | ⟨r, k, c, e, row, ro, rfl, _⟩ <;> rfl
end
/-! ### Calls of which only what holds behind them is said -/
section
variable {P : Program} {raw : FuncId → Bool} {base : Nat}
/-- A call ends, and this holds of what it yields and of the heap behind it. -/
def Ret (P : Program) (raw : FuncId → Bool) (base : Nat) (f : AVal) (args : List AVal) (h : Heap) (Φ : AVal → Heap → Prop) : Prop := ∃ v H, callL P raw base f args h = some (v, H) ∧ Φ v H
theorem ret_raw {f : FuncId} {fn : Func} {c : Code} {first captured args : List AVal} {h : Heap} {Φ : AVal → Heap → Prop} (hf : P.funcs[f]? = some fn) (hb : fn.body = some c) (hraw : raw f = true)
    (hw : WP P raw base c ⟨argFr (first ++ args ++ captured), h⟩ (retQ P fn Φ)) : Ret P raw base (.fn f first captured) args h Φ := by
  obtain ⟨e, s', h1, h2⟩ := hw
  cases e with
  | exit id => exact h2.elim
  | normal =>
    obtain ⟨v, h3, h4⟩ := h2
    exact ⟨v, s'.h, by unfold callL callWith; simp only [hf, hb, hraw, if_true, h1, h3], h4⟩
  | ret =>
    obtain ⟨v, h3, h4⟩ := h2
    exact ⟨v, s'.h, by unfold callL callWith; simp only [hf, hb, hraw, if_true, h1, h3], h4⟩
theorem Ret.mono {f : AVal} {args : List AVal} {h : Heap} {Φ Ψ : AVal → Heap → Prop} (x : Ret P raw base f args h Φ) (k : ∀ v H, Φ v H → Ψ v H) : Ret P raw base f args h Ψ := by
  obtain ⟨v, H, e, p⟩ := x
  exact ⟨v, H, e, k v H p⟩
end
end Go.AM
/-
  Slices of one's own that grow, whatever their elements are.
-/
namespace Go.AM
section
variable {α : Type} {E : Enc α} {P : Program} {base b : Nat} {h H : Heap} {v x : AVal} {l m : List α} {t e : TypeId} {zs : List AVal}
/-- A slice that was made behind the first b blocks, and is full. -/
def Own (E : Enc α) (e : TypeId) (b : Nat) (h : Heap) (v : AVal) (l : List α) : Prop :=
  (v = .slice .none 0 0 ∧ l = []) ∨ ∃ id ver, v = .slice (some ⟨id, ver, 0⟩) l.length l.length ∧ h[id]? = some (rowE E e l ver) ∧ b ≤ id ∧ 0 < l.length
theorem Own.nil : Own E e b h (.slice none 0 0) [] := .inl ⟨rfl, rfl⟩
theorem Own.rows (x : Own E e b h v l) (hl : l.length < 2 ^ 60) : Rows E h v l := by
  rcases x with ⟨rfl, rfl⟩ | ⟨id, ver, rfl, h1, h2, h3⟩
  · exact Rows.nil
  · exact Rows.own h1 rfl hl
theorem Own.ext (x : Own E e b h v l) (y : Ext h H) : Own E e b H v l := by
  rcases x with ⟨rfl, rfl⟩ | ⟨id, ver, rfl, h1, h2, h3⟩
  · exact .nil
  · exact .inr ⟨id, ver, rfl, y.get h1, h2, h3⟩
theorem Own.app {T : Heap} (x : Own E e b h v l) : Own E e b (h ++ T) v l := x.ext (.app .refl)
theorem Own.set {i : Nat} {k : ABlk} (x : Own E e b h v l) (hi : i < b) : Own E e b (h.set i k) v l := by
  rcases x with ⟨rfl, rfl⟩ | ⟨id, ver, rfl, h1, h2, h3⟩
  · exact .nil
  · exact .inr ⟨id, ver, rfl, by rw [List.getElem?_set_ne (by omega)]; exact h1, h2, h3⟩
theorem Own.low (x : Own E e b h v l) {b' : Nat} (hb : b' ≤ b) : Own E e b' h v l := by
  rcases x with ⟨rfl, rfl⟩ | ⟨id, ver, rfl, h1, h2, h3⟩
  · exact .nil
  · exact .inr ⟨id, ver, rfl, h1, by omega, h3⟩
theorem Own.one (x : Own E e b h v l) : One v := by
  rcases x with ⟨rfl, rfl⟩ | ⟨id, ver, rfl, h1, h2, h3⟩ <;> exact ⟨rfl, rfl, rfl⟩
theorem Own.low_refs (x : Own E e b h v l) : _root_.Go.AM.refsLow h.length v := by
  rcases x with ⟨rfl, rfl⟩ | ⟨id, ver, rfl, h1, h2, h3⟩
  · exact refsLow_nil
  · exact refsLow_slice (lt_of_get h1)
theorem flat_scalar (hs : ∀ y, (E.cells y).all AVal.scalar = true) (l : List α) : (flat E l).all AVal.scalar = true := by
  induction l with
  | nil => rfl
  | cons y l ih => rw [flat_cons, List.all_append, hs, ih]; rfl
/-- Elements are appended: what was there below b stays. -/
theorem Own.append (hO : Own E e b h v l) (ht : elS P t = some (e, E.z, zs)) (hs : ∀ y, (E.cells y).all AVal.scalar = true) (hb : base ≤ b) (hbh : b ≤ h.length) (hm : 0 < m.length) (hsz : l.length + m.length < 2147483648)
    (hx1 : lenA E.z x = some m.length) (hx2 : firstN h E.z m.length x = some (flat E m)) :
    ∃ v' h', appendA P base h t v x = some (v', h') ∧ Own E e b h' v' (l ++ m) ∧ h.length ≤ h'.length ∧ (∀ G, G.length ≤ b → Ext G h → Ext G h') ∧ One v' := by
  have hne : m ≠ [] := by rintro rfl; simp at hm
  rcases hO with ⟨rfl, rfl⟩ | ⟨id, ver, rfl, h1, h2, h3⟩
  · refine ⟨.slice (some ⟨h.length, 0, 0⟩) m.length m.length, h ++ [rowE E e m 0], ?_, .inr ⟨h.length, 0, rfl, get_eq rfl, hbh, by simpa using hm⟩, by simp, fun G _ g => .app g, ⟨rfl, rfl, rfl⟩⟩
    simp only [appendA, ht, hx1, hx2, flat_scalar hs, if_true]
    rw [if_neg (by omega), if_pos (show m.length < 2 ^ 31 by simp at hsz; omega)]
    rfl
  · refine ⟨.slice (some ⟨id, ver + 1, 0⟩) (l ++ m).length (l ++ m).length, h.set id (rowE E e (l ++ m) (ver + 1)), ?_, .inr ⟨id, ver + 1, rfl, by rw [List.getElem?_set_self (lt_of_get h1)], h2, by simp; omega⟩, by simp, fun G hG g => g.set (by omega), ⟨rfl, rfl, rfl⟩⟩
    simp only [appendA, ht, hx1, hx2, flat_scalar hs, if_true]
    rw [if_neg (by omega), h1]
    simp only [rowE, flat_len]
    rw [if_pos ⟨trivial, trivial, trivial, trivial, show l.length + m.length < 2 ^ 31 from hsz, h3, .inl (by omega)⟩]
    rw [List.take_of_length_le (by rw [flat_len]; exact Nat.le_refl _), ← flat_app, List.length_append]
/-- A whole slice is appended. -/
theorem Own.appendR (hO : Own E e b h v l) (hR : Rows E h x m) (ht : elS P t = some (e, E.z, zs)) (hs : ∀ y, (E.cells y).all AVal.scalar = true) (hb : base ≤ b) (hbh : b ≤ h.length) (hm : 0 < m.length) (hsz : l.length + m.length < 2147483648) :
    ∃ v' h', appendA P base h t v x = some (v', h') ∧ Own E e b h' v' (l ++ m) ∧ h.length ≤ h'.length ∧ (∀ G, G.length ≤ b → Ext G h → Ext G h') ∧ One v' :=
  hO.append ht hs hb hbh hm hsz hR.lenA hR.firstN
/-- A literal of one cell is appended. -/
theorem Own.append1 {y : α} {a : AVal} (hO : Own E e b h v l) (hz : E.z = 1) (hy : E.cells y = [a]) (ht : elS P t = some (e, 1, zs)) (hs : ∀ y, (E.cells y).all AVal.scalar = true) (hb : base ≤ b) (hbh : b ≤ h.length) (hsz : l.length + 1 < 2147483648) :
    ∃ v' h', appendA P base h t v (.vals [a]) = some (v', h') ∧ Own E e b h' v' (l ++ [y]) ∧ h.length ≤ h'.length ∧ (∀ G, G.length ≤ b → Ext G h → Ext G h') ∧ One v' := by
  refine hO.append (m := [y]) (by rw [hz]; exact ht) hs hb hbh (by simp) (by simpa using hsz) ?_ ?_
  · rw [hz]; rfl
  · rw [hz]; simp [firstN, flat, hy]
end
/-- Integers, by cells. -/
def encI : Enc Int := ⟨1, fun x => [.int .i64 x], fun _ => rfl, by decide⟩
theorem flat_encI (l : List Int) : flat encI l = ints l := by
  induction l with
  | nil => rfl
  | cons x l ih => rw [flat_cons, ih]; rfl
theorem encI_sc : ∀ y, (encI.cells y).all AVal.scalar = true := fun y => by simp [encI, AVal.scalar]
theorem Rows.ints {h : Heap} {v : AVal} {l : List Int} (hR : Rows encI h v l) (hb : ∀ x ∈ l, -9223372036854775808 ≤ x ∧ x < 9223372036854775808) : Ints h v l := by
  refine ⟨⟨hR.1, hb⟩, hR.2.imp id (.imp id ?_)⟩
  rintro ⟨r, k, c, e, row, ro, h1, h2, h3, h4, h5⟩
  rw [flat_encI, show encI.z = 1 from rfl, Nat.mul_one] at h3
  rw [show encI.z = 1 from rfl, Nat.mul_one] at h4
  exact ⟨r, k, c, e, row, ro, h1, h2, h3, h4, h5⟩
theorem Ints.rows {h : Heap} {v : AVal} {l : List Int} (hI : Ints h v l) : Rows encI h v l := by
  refine ⟨hI.1.1, hI.2.imp id (.imp id ?_)⟩
  rintro ⟨r, k, c, e, row, ro, h1, h2, h3, h4, h5⟩
  refine ⟨r, k, c, e, row, ro, h1, h2, ?_, ?_, h5⟩
  · rw [flat_encI, show encI.z = 1 from rfl, Nat.mul_one]; exact h3
  · rw [show encI.z = 1 from rfl, Nat.mul_one]; exact h4
end Go.AM
