/-
  Arguments that came in: slices of numbers, as rows of memory.
-/
import Derived.Test.YtlhmeoeamcgcmaaGreatB1
import Derived.Test.YtlhmeoeamcgcmaaGreatA7
set_option linter.unusedSimpArgs false
set_option linter.unusedVariables false
namespace Go.AM
open Go.Proofs.Tryz Go.RowKit Go.ChangeShapes Go.WideShapes Go.ChangeAt
open Go.Proofs.YtlhmeoeamcgcmaaGreat (Rows.uptoSmall Rows.uptoBulkAll Rows.uptoBulk)
set_option maxRecDepth 100000
/-- A slice of numbers that came in: its row, its numbers. -/
structure SlA (W : World) (k : IntKind) (V : Value) (r : Rw) (zs : List Int) (len cap : Nat) : Prop where
  ok : r.cs = [] ∨ r.ok W
  cs : r.cs = zs.map (AVal.int k)
  zl : zs.length = cap
  le : len ≤ cap
  wf : ∀ z ∈ zs, (Lit.int k z).wf = true
  rd : ∀ (i : Nat) (μ : Mu), (0 < cap → μ.loc i 0 = some ⟨r.blk, r.off, r.cs.length, 0⟩) → ∃ v, VR μ v V ∧ ((v = .slice none 0 0 ∧ cap = 0) ∨ (v = .emp ∧ cap = 0) ∨ (v = .slice (some ⟨i, 0, 0⟩) len cap ∧ 0 < cap))
/-- One row more. -/
theorem SlA.add {W : World} {k : IntKind} {V : Value} {r : Rw} {zs : List Int} {len cap : Nat} (h : SlA W k V r zs len cap) {R : List Rw} (hR : ∀ x ∈ R, x.ok W) :
    ∃ R' : List Rw, (∀ x ∈ R', x.ok W) ∧ (∀ (j : Nat) (x : Rw), R[j]? = some x → R'[j]? = some x) ∧ (0 < cap → R'[R.length]? = some r) := by
  rcases h.ok with h1 | h1
  · refine ⟨R, hR, fun _ _ h => h, fun hc => ?_⟩
    have := congrArg List.length (h.cs.symm.trans h1)
    simp only [List.length_map, List.length_nil] at this
    have := h.zl
    omega
  · refine ⟨R ++ [r], fun x hx => ?_, fun j x hj => ?_, fun _ => by simp⟩
    · rcases List.mem_append.1 hx with h2 | h2
      · exact hR x h2
      · rw [List.mem_singleton] at h2; subst h2; exact h1
    · rw [List.getElem?_append_left (List.getElem?_eq_some_iff.1 hj).1]; exact hj
/-- A slice of numbers, and its bulk. -/
theorem open_row {H : Type} {enc : TypeId × Value → H} {W : World} {t e : TypeId} {k : IntKind} {n : Nat} {V : Value} {x : DataW H × List MemPlace} (ht : prog.underlying t = some (.slice e)) (he : prog.underlying e = some (.int k)) (hc : prog.cellsOf e = 1)
    (h : DataW.trod enc prog W 0 (fun _ => true) true n t [V] = some x) : ∃ (r : Rw) (zs : List Int) (len cap : Nat), SlA W k V r zs len cap ∧ cap ≤ Rows.uptoBulk x.1 := by
  obtain ⟨r, zs, len, cap, a1, a2, a3, a4, a5, a6, a7⟩ := arg_slice ht he hc h
  refine ⟨r, zs, len, cap, ⟨a1, a2, a3, a4, a5, a7⟩, ?_⟩
  rcases a6 with e6 | e6
  · by_cases hc0 : cap = 0
    · omega
    · exfalso
      obtain ⟨v, hv, h3⟩ := a7 0 (muR [r]) (fun _ => by rw [muR_loc (r := r) rfl])
      rcases h3 with ⟨_, h4⟩ | ⟨_, h4⟩ | ⟨h4, _⟩
      · exact hc0 h4
      · exact hc0 h4
      · subst h4
        cases hv with
        | slice r' L n' kcap C h5 =>
          have hx := h
          rcases Go.ChangeShapes.open_ints ht he hc hx with ⟨h6, _⟩ | ⟨_, _, _, _, _, _, _, _, _, h6, _⟩
          · simp at h6
          · rw [h6] at e6; cases e6
        | slice0 => omega
  · rw [e6, bulk_slice]
    simp only [List.length_take, List.length_drop]
    omega
end Go.AM
/-
  Arguments that came in: slices of bytes, as rows of memory.
-/
namespace Go.AM
open Go.Proofs.Tryz Go.RowKit Go.ChangeShapes Go.WideShapes Go.ChangeAt
open Go.Proofs.YtlhmeoeamcgcmaaGreat (Rows.uptoSmall Rows.uptoBulkAll Rows.uptoBulk)
set_option maxRecDepth 100000
/-- A slice of bytes as the abstract machine reads it. -/
theorem SlA.bytes {W : World} {V : Value} {r : Rw} {zs : List Int} {len cap i : Nat} {R : List Rw} (h : SlA W .u8 V r zs len cap) (hr : 0 < cap → R[i]? = some r) (hb : cap < 2 ^ 60) :
    ∃ v, VR (muR R) v V ∧ Bytes (heapR R) v (zs.take len) := by
  obtain ⟨v, h1, hv⟩ := h.rd i (muR R) (fun hc => muR_loc (hr hc))
  have hz := h.zl
  have hl := h.le
  refine ⟨v, h1, ⟨by simp; omega, fun x hx => ?_⟩, ?_⟩
  · have := h.wf x (List.mem_of_mem_take hx)
    simp [Lit.wf, IntKind.min, IntKind.max, IntKind.signed, IntKind.bits] at this
    omega
  · rcases hv with ⟨rfl, h0⟩ | ⟨rfl, h0⟩ | ⟨rfl, h0⟩
    · exact .inl ⟨rfl, by simp; exact .inr (List.eq_nil_of_length_eq_zero (by omega))⟩
    · exact .inr (.inl ⟨rfl, by simp; exact .inr (List.eq_nil_of_length_eq_zero (by omega))⟩)
    · have hlen : (zs.take len).length = len := by rw [List.length_take]; omega
      refine .inr (.inr ⟨⟨i, 0, 0⟩, cap, r.cs, 3, false, true, by rw [hlen], heapR_get (hr h0), ?_, ?_, by rw [hlen]; exact hl⟩)
      · rw [hlen, h.cs, List.drop_zero, List.map_take]
      · rw [hlen, h.cs]; simp; omega
theorem openByt {H : Type} {enc : TypeId × Value → H} {W : World} {base : Nat} {V : Value} {d : DataW H} {p : List MemPlace} (hval : Value.okWide prog W .any base 84 V) (h : DataW.Trod enc prog W 0 (fun _ => true) true 84 V d p) :
    ∃ (r : Rw) (zs : List Int) (len cap : Nat), SlA W .u8 V r zs len cap ∧ cap ≤ Rows.uptoBulk d := by
  obtain ⟨a0, n, k, rfl⟩ := okWide_slice underlying84 hval
  obtain ⟨fuel, hf⟩ := h
  exact open_row underlying84 underlying5 (by kernel_rfl) hf
end Go.AM
