/-
  Arguments that came in: slices of numbers, patterns, chains, runs, as rows of memory.
-/
import Derived.Test.YtppkmjfplhenmaaB1
set_option linter.unusedSimpArgs false
set_option linter.unusedVariables false
namespace Go.AM
open Go.Proofs.Try Go.RowKit Go.ChangeShapes Go.WideShapes Go.ChangeAt
open Go.Proofs.Ytppkmjfplhenmaa (Rows.uptoSmall Rows.uptoBulkAll Rows.uptoBulk)
set_option maxRecDepth 100000

/-- A slice of numbers that came in: its row, its numbers. -/
structure SlA (W : World) (k : IntKind) (V : Value) (r : Rw) (zs : List Int) (len cap : Nat) : Prop where
  ok : r.cs = [] ∨ r.ok W
  cs : r.cs = zs.map (AVal.int k)
  zl : zs.length = cap
  le : len ≤ cap
  wf : ∀ z ∈ zs, (Lit.int k z).wf = true
  rd : ∀ (i : Nat) (μ : Mu), (0 < cap → μ.loc i 0 = some ⟨r.blk, r.off, r.cs.length, 0⟩) → ∃ v, VR μ v V ∧ ((v = .slice none 0 0 ∧ cap = 0) ∨ (v = .emp ∧ cap = 0) ∨ (v = .slice (some ⟨i, 0, 0⟩) len cap ∧ 0 < cap))

/-- One row more. -/
theorem SlA.add {W : World} {k : IntKind} {V : Value} {r : Rw} {zs : List Int} {len cap : Nat} (h : SlA W k V r zs len cap) {R : List Rw} (hR : ∀ x ∈ R, x.ok W) :
    ∃ R' : List Rw, (∀ x ∈ R', x.ok W) ∧ (∀ (j : Nat) (x : Rw), R[j]? = some x → R'[j]? = some x) ∧ (0 < cap → R'[R.length]? = some r) := by
  rcases h.ok with h1 | h1
  · refine ⟨R, hR, fun _ _ h => h, fun hc => ?_⟩
    have := congrArg List.length (h.cs.symm.trans h1)
    simp only [List.length_map, List.length_nil] at this
    have := h.zl
    omega
  · refine ⟨R ++ [r], fun x hx => ?_, fun j x hj => ?_, fun _ => by simp⟩
    · rcases List.mem_append.1 hx with h2 | h2
      · exact hR x h2
      · rw [List.mem_singleton] at h2; subst h2; exact h1
    · rw [List.getElem?_append_left (List.getElem?_eq_some_iff.1 hj).1]; exact hj
theorem SlA.ints {W : World} {V : Value} {r : Rw} {zs : List Int} {len cap i : Nat} {R : List Rw} (h : SlA W .i64 V r zs len cap) (hr : 0 < cap → R[i]? = some r) (hb : cap < 2 ^ 60) :
    ∃ v, VR (muR R) v V ∧ Ints (heapR R) v (zs.take len) := by
  obtain ⟨v, h1, h2⟩ := h.rd i (muR R) (fun hc => muR_loc (hr hc))
  exact ⟨v, h1, ints_of hr h.cs h.zl h.le hb h.wf h2⟩

theorem bulk_pos {H : Type} (d : DataW H) : 0 ≤ Rows.uptoBulk d := Nat.zero_le _

/-- A slice of numbers, and its bulk. -/
theorem open_row {H : Type} {enc : TypeId × Value → H} {W : World} {t e : TypeId} {k : IntKind} {n : Nat} {V : Value} {x : DataW H × List MemPlace} (ht : prog.underlying t = some (.slice e)) (he : prog.underlying e = some (.int k)) (hc : prog.cellsOf e = 1)
    (h : DataW.trod enc prog W 0 (fun _ => true) true n t [V] = some x) : ∃ (r : Rw) (zs : List Int) (len cap : Nat), SlA W k V r zs len cap ∧ cap ≤ Rows.uptoBulk x.1 := by
  obtain ⟨r, zs, len, cap, a1, a2, a3, a4, a5, a6, a7⟩ := arg_slice ht he hc h
  refine ⟨r, zs, len, cap, ⟨a1, a2, a3, a4, a5, a7⟩, ?_⟩
  rcases a6 with e6 | e6
  · by_cases hc0 : cap = 0
    · omega
    · exfalso
      obtain ⟨v, hv, h3⟩ := a7 0 (muR [r]) (fun _ => by rw [muR_loc (r := r) rfl])
      rcases h3 with ⟨_, h4⟩ | ⟨_, h4⟩ | ⟨h4, _⟩
      · exact hc0 h4
      · exact hc0 h4
      · subst h4
        cases hv with
        | slice r' L n' kcap C h5 =>
          have hx := h
          rcases Go.ChangeShapes.open_ints ht he hc hx with ⟨h6, _⟩ | ⟨_, _, _, _, _, _, _, _, _, h6, _⟩
          · simp at h6
          · rw [h6] at e6; cases e6
        | slice0 => omega
  · rw [e6, bulk_slice]
    simp only [List.length_take, List.length_drop]
    omega

theorem openPap {H : Type} {enc : TypeId × Value → H} {W : World} {base : Nat} {V : Value} {d : DataW H} {p : List MemPlace} (hval : Value.okWide prog W .any base 24 V) (h : DataW.Trod enc prog W 0 (fun _ => true) true 24 V d p) :
    ∃ (r : Rw) (zs : List Int) (len cap : Nat) (w : Int) (V1 : Value), V = .agg #[.int .i64 w, V1] ∧ SlA W .i64 V1 r zs len cap ∧ cap ≤ Rows.uptoBulk d := by
  obtain ⟨v0, v1, y0, y1, n, rfl, rfl, rfl, h0, h1⟩ := Go.Joins.open_agg2 underlying24 one24 (by kernel_rfl) hval h
  obtain ⟨w, h2, rfl, -⟩ := DataW.trod_int underlying3 h0
  simp only [List.cons.injEq, and_true] at h2
  subst h2
  obtain ⟨r, zs, len, cap, a1, a2⟩ := open_row underlying22 underlying3 (by kernel_rfl) h1
  refine ⟨r, zs, len, cap, w, v1, rfl, a1, ?_⟩
  simp only [Rows.uptoBulk, Rows.uptoBulkAll]
  omega

theorem one34 : Go.Deep.oneCellFields prog #[{ name := "Width", type := 3, offset := 0, embedded := false, tag := "", pkgPath := "", byteOffset := 0 },
        { name := "Cards", type := 22, offset := 1, embedded := false, tag := "", pkgPath := "", byteOffset := 8 },
        { name := "Kind", type := 25, offset := 2, embedded := false, tag := "", pkgPath := "", byteOffset := 32 },
        { name := "Step", type := 3, offset := 3, embedded := false, tag := "", pkgPath := "", byteOffset := 40 }] = true := by kernel_rfl
theorem openChn {H : Type} {enc : TypeId × Value → H} {W : World} {base : Nat} {V : Value} {d : DataW H} {p : List MemPlace} (hval : Value.okWide prog W .any base 34 V) (h : DataW.Trod enc prog W 0 (fun _ => true) true 34 V d p) :
    ∃ (r : Rw) (zs : List Int) (len cap : Nat) (w k s : Int) (V1 : Value), V = .agg #[.int .i64 w, V1, .int .i64 k, .int .i64 s] ∧ SlA W .i64 V1 r zs len cap ∧ cap ≤ Rows.uptoBulk d := by
  obtain ⟨v0, v1, v2, v3, y0, y1, y2, y3, n, rfl, rfl, rfl, h0, h1, h2, h3⟩ := Go.Joins.open_agg4 underlying34 one34 (by kernel_rfl) hval h
  obtain ⟨w, e0, rfl, -⟩ := DataW.trod_int underlying3 h0
  obtain ⟨k, e2, rfl, -⟩ := DataW.trod_int underlying25 h2
  obtain ⟨s, e3, rfl, -⟩ := DataW.trod_int underlying3 h3
  simp only [List.cons.injEq, and_true] at e0 e2 e3
  subst e0 e2 e3
  obtain ⟨r, zs, len, cap, a1, a2⟩ := open_row underlying22 underlying3 (by kernel_rfl) h1
  refine ⟨r, zs, len, cap, w, k, s, v1, rfl, a1, ?_⟩
  simp only [Rows.uptoBulk, Rows.uptoBulkAll]
  omega

theorem one82 : Go.Deep.oneCellFields prog #[{ name := "A", type := 3, offset := 0, embedded := false, tag := "", pkgPath := "", byteOffset := 0 },
        { name := "B", type := 3, offset := 1, embedded := false, tag := "", pkgPath := "", byteOffset := 8 },
        { name := "Long", type := 3, offset := 2, embedded := false, tag := "", pkgPath := "", byteOffset := 16 },
        { name := "Back", type := 4, offset := 3, embedded := false, tag := "", pkgPath := "", byteOffset := 24 }] = true := by kernel_rfl
theorem openRun {H : Type} {enc : TypeId × Value → H} {W : World} {base : Nat} {V : Value} {d : DataW H} {p : List MemPlace} (hval : Value.okWide prog W .any base 82 V) (h : DataW.Trod enc prog W 0 (fun _ => true) true 82 V d p) :
    ∃ (a b l : Int) (x : Bool), V = .agg #[.int .i64 a, .int .i64 b, .int .i64 l, .bool x] := by
  obtain ⟨v0, v1, v2, v3, y0, y1, y2, y3, n, rfl, rfl, rfl, h0, h1, h2, h3⟩ := Go.Joins.open_agg4 underlying82 one82 (by kernel_rfl) hval h
  obtain ⟨w, e0, rfl, -⟩ := DataW.trod_int underlying3 h0
  obtain ⟨k, e1, rfl, -⟩ := DataW.trod_int underlying3 h1
  obtain ⟨s, e2, rfl, -⟩ := DataW.trod_int underlying3 h2
  simp only [List.cons.injEq, and_true] at e0 e1 e2
  subst e0 e1 e2
  obtain ⟨b, e3, _⟩ := DataW.trod_bool underlying4 h3
  simp only [List.cons.injEq, and_true] at e3
  subst e3
  exact ⟨_, _, _, _, rfl⟩
end Go.AM
