/-
  Arguments that came in: slices of bytes, as rows of memory.
-/
import Derived.Test.YtppkmjfplhenmaaBr5
import Derived.Test.YtppkmjfplhenmaaAm34
set_option linter.unusedSimpArgs false
set_option linter.unusedVariables false
namespace Go.AM
open Go.Proofs.Try Go.RowKit Go.ChangeShapes Go.WideShapes Go.ChangeAt
open Go.Proofs.Ytppkmjfplhenmaa (Rows.uptoSmall Rows.uptoBulkAll Rows.uptoBulk)
set_option maxRecDepth 100000

/-- A slice of bytes as the abstract machine reads it. -/
theorem SlA.bytes {W : World} {V : Value} {r : Rw} {zs : List Int} {len cap i : Nat} {R : List Rw} (h : SlA W .u8 V r zs len cap) (hr : 0 < cap → R[i]? = some r) (hb : cap < 2 ^ 60) :
    ∃ v, VR (muR R) v V ∧ Bytes (heapR R) v (zs.take len) := by
  obtain ⟨v, h1, hv⟩ := h.rd i (muR R) (fun hc => muR_loc (hr hc))
  have hz := h.zl
  have hl := h.le
  refine ⟨v, h1, ⟨by simp; omega, fun x hx => ?_⟩, ?_⟩
  · have := h.wf x (List.mem_of_mem_take hx)
    simp [Lit.wf, IntKind.min, IntKind.max, IntKind.signed, IntKind.bits] at this
    omega
  · rcases hv with ⟨rfl, h0⟩ | ⟨rfl, h0⟩ | ⟨rfl, h0⟩
    · exact .inl ⟨rfl, by simp; exact .inr (List.eq_nil_of_length_eq_zero (by omega))⟩
    · exact .inr (.inl ⟨rfl, by simp; exact .inr (List.eq_nil_of_length_eq_zero (by omega))⟩)
    · have hlen : (zs.take len).length = len := by rw [List.length_take]; omega
      refine .inr (.inr ⟨⟨i, 0, 0⟩, cap, r.cs, 3, false, true, by rw [hlen], heapR_get (hr h0), ?_, ?_, by rw [hlen]; exact hl⟩)
      · rw [hlen, h.cs, List.drop_zero, List.map_take]
      · rw [hlen, h.cs]; simp; omega

theorem openByt {H : Type} {enc : TypeId × Value → H} {W : World} {base : Nat} {V : Value} {d : DataW H} {p : List MemPlace} (hval : Value.okWide prog W .any base 47 V) (h : DataW.Trod enc prog W 0 (fun _ => true) true 47 V d p) :
    ∃ (r : Rw) (zs : List Int) (len cap : Nat), SlA W .u8 V r zs len cap ∧ cap ≤ Rows.uptoBulk d := by
  obtain ⟨a0, n, k, rfl⟩ := okWide_slice underlying47 hval
  obtain ⟨fuel, hf⟩ := h
  exact open_row underlying47 underlying5 (by kernel_rfl) hf
end Go.AM
