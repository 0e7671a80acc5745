/-
  Slices of bytes: what they read.
-/
import Derived.Test.YtppkmjfplhenmaaAm33
set_option linter.unusedSimpArgs false
set_option linter.unusedVariables false
namespace Go.AM

/-- A slice of bytes: what it reads. -/
def Bytes (h : Heap) (v : AVal) (l : List Int) : Prop :=
  (l.length < 2 ^ 60 ∧ ∀ x ∈ l, 0 ≤ x ∧ x ≤ 255) ∧
  ((v = .slice .none 0 0 ∧ l = []) ∨ (v = .emp ∧ l = []) ∨
   ∃ (r : ARef) (k : Nat) (c : List AVal) (e : TypeId) (row ro : Bool), v = .slice (some r) l.length k ∧ h[r.id]? = some ⟨.cells c e row ro, r.ver⟩ ∧ (c.drop r.off).take l.length = l.map (.int .u8) ∧ r.off + l.length ≤ c.length ∧ l.length ≤ k)

section
variable {P : Program} {h : Heap} {v : AVal} {l : List Int} {t e : TypeId} {zs : List AVal}

theorem Bytes.app {g : Heap} (hI : Bytes h v l) : Bytes (h ++ g) v l := by
  refine ⟨hI.1, ?_⟩
  rcases hI.2 with h1 | h1 | ⟨r, k, c, e, row, ro, h1, h2, h3⟩
  · exact .inl h1
  · exact .inr (.inl h1)
  · exact .inr (.inr ⟨r, k, c, e, row, ro, h1, by rw [List.getElem?_append_left (lt_of_get h2)]; exact h2, h3⟩)
theorem Bytes.ext {H : Heap} (hI : Bytes h v l) (e : Ext h H) : Bytes H v l := by
  obtain ⟨t, rfl⟩ := e
  exact hI.app
theorem Bytes.len (hI : Bytes h v l) (ht : elS P t = some (e, 1, zs)) : lenOpA P h t v = some (.int .i64 (l.length : Int)) := by
  simp only [lenOpA, ht]
  rcases hI.2 with ⟨rfl, rfl⟩ | ⟨rfl, rfl⟩ | ⟨r, k, c, e, row, ro, rfl, _⟩ <;> rfl
theorem Bytes.addr (hI : Bytes h v l) (ht : elS P t = some (e, 1, zs)) (ha : arT P t = .none) {i : Int} (h0 : 0 ≤ i) (h1 : i < l.length) : indexAddrA P t v (.int .i64 i) = some (elAddr v i.toNat) := by
  rcases hI.2 with ⟨rfl, rfl⟩ | ⟨rfl, rfl⟩ | ⟨r, k, c, e, row, ro, rfl, _⟩
  · simp at h1; omega
  · simp at h1; omega
  · simp only [indexAddrA, ha, ht, h0, h1, and_self, if_true, Nat.mul_one, elAddr]
theorem Bytes.load (hI : Bytes h v l) (ht : tyA P t = some (false, 1)) {i : Nat} {x : Int} (hx : l[i]? = some x) : loadP P h t (elAddr v i) = some (.int .u8 x) := by
  have hi := (List.getElem?_eq_some_iff.1 hx).1
  rcases hI.2 with ⟨rfl, rfl⟩ | ⟨rfl, rfl⟩ | ⟨r, k, c, e, row, ro, rfl, h2, h3, _⟩
  · simp at hi
  · simp at hi
  · have hg : c[r.off + i]? = some (.int .u8 x) := by
      have h4 : ((c.drop r.off).take l.length)[i]? = some (.int .u8 x) := by rw [h3, List.getElem?_map, hx]; rfl
      rw [List.getElem?_take, if_pos hi, List.getElem?_drop] at h4
      exact h4
    have hlt := (List.getElem?_eq_some_iff.1 hg).1
    have h5 : (c.drop (r.off + i)).take 1 = [.int .u8 x] := by
      rw [List.drop_eq_getElem_cons hlt]
      have := (List.getElem?_eq_some_iff.1 hg).2
      rw [this]; rfl
    simp only [loadP, elAddr, loadA, ht, Bool.false_eq_true, if_false, loadN, cellsAt, ARef.add, h2, if_true, show r.off + i + 1 ≤ c.length from hlt, h5, Option.bind_some, mkVal]
theorem Bytes.one (hI : Bytes h v l) : One v := by
  rcases hI.2 with ⟨rfl, rfl⟩ | ⟨rfl, rfl⟩ | ⟨r, k, c, e, row, ro, rfl, _⟩ <;> exact ⟨rfl, rfl, rfl⟩
theorem asBytes (x : Bytes h v l) : Bytes h v l := x
/-- A write elsewhere changes nothing of it. -/
theorem Bytes.set {i : Nat} {b : ABlk} (hI : Bytes h v l) (hb : ∀ r n k, v = .slice (some r) n k → r.id ≠ i) : Bytes (h.set i b) v l := by
  refine ⟨hI.1, ?_⟩
  rcases hI.2 with h1 | h1 | ⟨r, k, c, e, row, ro, h1, h2, h3⟩
  · exact .inl h1
  · exact .inr (.inl h1)
  · exact .inr (.inr ⟨r, k, c, e, row, ro, h1, by rw [List.getElem?_set_ne (fun e => hb _ _ _ h1 e.symm)]; exact h2, h3⟩)
end
end Go.AM
