/-
  Operations that make or write memory.
-/
import Derived.Test.YtlhmeoeamcgcmaaGreatA1
set_option linter.unusedSimpArgs false
set_option linter.unusedVariables false
namespace Go.AM
section
variable {P : Program} {base : Nat} {μ μ' : Mu} {h : Heap} {w w' : World}
def spliceV (C : Array Value) (off : Nat) : List Value → Array Value
  | [] => C
  | v :: vs => spliceV (C.setIfInBounds off v) (off + 1) vs
theorem spliceV_size : ∀ (vs : List Value) (C : Array Value) (off : Nat), (spliceV C off vs).size = C.size
  | [], _, _ => rfl
  | v :: vs, C, off => by simp [spliceV, spliceV_size vs]
theorem run_storeCells (blk : Nat) : ∀ (VS : List Value) (w : World) (C : Array Value) (T : TypeId) (fz : Nat × Nat) (off i : Nat), w.heap[blk]? = some (.cells C T fz) → off + i + VS.length ≤ C.size →
    (∀ j, off + i ≤ j → j < off + i + VS.length → ¬ (fz.1 ≤ j ∧ j < fz.2)) → (∀ v ∈ VS, v.oneCell' = true) →
    ∃ w', (storeCells ⟨blk, off, .none⟩ VS i).run P w = .ok () w' ∧ w'.heap[blk]? = some (.cells (spliceV C (off + i) VS) T fz) ∧ (∀ k, k ≠ blk → w'.heap[k]? = w.heap[k]?) ∧ w'.heap.size = w.heap.size ∧ Calm w w'
  | [], w, C, T, fz, off, i, hb, _, _, _ => ⟨w, by simp [storeCells], hb, fun _ _ => rfl, rfl, .rfl⟩
  | v :: VS, w, C, T, fz, off, i, hb, hl, hf, hv => by
    have hcell : w.cell? ⟨blk, off + i, .none⟩ = some (C[off + i]'(by simp at hl; omega)) := by
      simp only [World.cell?, hb]; simp
    have hfz : w.frozen? ⟨blk, off + i, .none⟩ = false := by
      have := hf (off + i) (Nat.le_refl _) (by simp)
      simp only [World.frozen?, hb]
      simpa using this
    have hset : (w.setCell ⟨blk, off + i, .none⟩ v).heap[blk]? = some (.cells (C.setIfInBounds (off + i) v) T fz) := by
      simp [World.setCell, Array.getElem?_modify, hb]
    have hoth : ∀ k, k ≠ blk → (w.setCell ⟨blk, off + i, .none⟩ v).heap[k]? = w.heap[k]? := by
      intro k hk
      simp only [World.setCell, Array.getElem?_modify]
      rw [if_neg (fun e => hk e.symm)]
    obtain ⟨w', h1, h2, h3, h4, h5⟩ := run_storeCells blk VS (w.setCell ⟨blk, off + i, .none⟩ v) (C.setIfInBounds (off + i) v) T fz off (i + 1) hset (by simp at hl ⊢; omega)
      (fun j h1 h2 => hf j (by omega) (by simp at h2 ⊢; omega)) (fun x hx => hv x (by simp [hx]))
    refine ⟨w', ?_, by simpa [spliceV, Nat.add_assoc] using h2, fun k hk => (h3 k hk).trans (hoth k hk), by rw [h4]; simp [World.setCell], ⟨h5.os, h5.tape, h5.output⟩⟩
    simp only [storeCells, Sem.run_bind, addr_add]
    rw [run_store P w _ v _ (hv v (by simp)), hcell]
    simp [hfz, h1]
theorem scalar_one {x : AVal} {X : Value} (hs : x.scalar = true) (h : VR μ x X) : X.oneCell' = true := by
  cases h <;> first | rfl | (simp [AVal.scalar] at hs)
theorem scalars_one : ∀ {vs : List AVal} {VS : List Value}, vs.all AVal.scalar = true → VRs μ vs VS → ∀ v ∈ VS, v.oneCell' = true
  | [], [], _, _ => by simp
  | x :: xs, X :: XS, hs, h => by
    simp at hs
    intro v hv
    rcases List.mem_cons.1 hv with rfl | hv
    · exact scalar_one hs.1 h.head
    · exact scalars_one (by simpa using hs.2) h.tail v hv
  | [], _ :: _, _, h => by have := h.1; simp at this
  | _ :: _, [], _, h => by have := h.1; simp at this
theorem splice_get : ∀ (vs : List AVal) (VS : List Value) (c : List AVal) (C : Array Value) (off base : Nat), VRs μ vs VS → base + off + vs.length ≤ C.size → off + vs.length ≤ c.length →
    (∀ (i : Nat) (x : AVal) (y : Value), c[i]? = some x → C[base + i]? = some y → VR μ x y) →
    ∀ (i : Nat) (x : AVal) (y : Value), (splice c off vs)[i]? = some x → (spliceV C (base + off) VS)[base + i]? = some y → VR μ x y
  | [], [], c, C, off, base, _, _, _, hc => by simpa [splice, spliceV] using hc
  | v :: vs, V :: VS, c, C, off, base, hv, hl, hl', hc => by
    have := splice_get vs VS (c.set off v) (C.setIfInBounds (base + off) V) (off + 1) base hv.tail (by simp at hl ⊢; omega) (by simp at hl' ⊢; omega) ?_
    · simpa [splice, spliceV, Nat.add_assoc] using this
    · intro i x y hx hy
      rw [List.getElem?_set] at hx
      rw [Array.getElem?_setIfInBounds] at hy
      by_cases he : off = i
      · subst he
        simp at hx hy
        have h1 : off < c.length := by simp at hl'; omega
        have h2 : base + off < C.size := by simp at hl; omega
        simp [h1] at hx; simp [h2] at hy
        subst hx hy; exact hv.head
      · rw [if_neg he] at hx; rw [if_neg (by omega)] at hy
        exact hc i x y hx hy
  | [], _ :: _, _, _, _, _, hv, _, _, _ => by have := hv.1; simp at this
  | _ :: _, [], _, _, _, _, hv, _, _, _ => by have := hv.1; simp at this
theorem storeN_inv {r : ARef} {vs : List AVal} {h' : Heap} (hs : storeN base h r vs = some h') :
    ∃ c e row, h[r.id]? = some ⟨.cells c e row false, r.ver⟩ ∧ r.off + vs.length ≤ c.length ∧ vs.all AVal.scalar = true ∧ (base ≤ r.id ∨ vs.all AVal.bare = true) ∧ h' = h.set r.id ⟨.cells (splice c r.off vs) e row false, r.ver⟩ := by
  unfold storeN at hs
  split at hs
  · rename_i c e row v hb
    split at hs
    · rename_i hc
      obtain ⟨rfl, h1, h2, h3⟩ := hc
      simp at hs
      exact ⟨c, e, row, hb, h1, h2, h3, hs.symm⟩
    · cases hs
  · cases hs
theorem storeN_sound (H : HRel P μ h w) {r : ARef} {vs : List AVal} {VS : List Value} {h' : Heap} {L : Loc} (hs : storeN base h r vs = some h') (hL : μ.loc r.id r.ver = some L) (hv : VRs μ vs VS) :
    ∃ w', (storeCells ⟨L.blk, L.base + r.off, .none⟩ VS).run P w = .ok () w' ∧ HRel P μ h' w' ∧ Evo μ h w μ h' w' := by
  obtain ⟨c, e, row, hb, h1, h2, h3, rfl⟩ := storeN_inv hs
  obtain ⟨C, T, fz, k1, k2, k3, k4, k5, k6⟩ := H.blk r.id _ L hb hL
  have hlen := hv.1
  obtain ⟨w', r1, r2, r3, r4, r5⟩ := run_storeCells (P := P) L.blk VS w C T fz (L.base + r.off) 0 k1 (by omega) (fun j a b => k6 rfl j (by omega) (by omega)) (scalars_one h2 hv)
  refine ⟨w', r1, HRel.upd H hb hL rfl rfl r5 r3 r4 ?_⟩
  refine ⟨_, T, fz, r2, by rw [splice_length]; exact k2, by rw [spliceV_size]; exact k3, ?_, k5, k6⟩
  rw [Nat.add_zero]
  exact splice_get vs VS c C r.off L.base hv (by omega) h1 k4
theorem storeN_nil {r : ARef} {h' : Heap} (hs : storeN base h r [] = some h') : h' = h := by
  obtain ⟨c, e, row, hb, h1, h2, h3, rfl⟩ := storeN_inv hs
  apply List.ext_getElem?
  intro i
  rw [List.getElem?_set]
  split
  · rename_i he; subst he
    rw [if_pos (lt_of_get hb), hb]; rfl
  · rfl
/-- A new row or variable. -/
theorem push_cells (H : HRel P μ h w) {c : List AVal} {C : Array Value} {e T : TypeId} {row : Bool} (hc : Calm w w') (hw : w'.heap = w.heap.push (.cells C T)) (hl : c.length ≤ C.size)
    (hv : ∀ (i : Nat) (x : AVal) (y : Value), c[i]? = some x → C[i]? = some y → VR μ x y) (L : Loc) (hLe : L = ⟨w.heap.size, 0, C.size, if row then ((P.info? e).map (·.size)).getD 0 else 0⟩) :
    μ.le (μ.add h.length 0 L) ∧ HRel P (μ.add h.length 0 L) (h ++ [⟨.cells c e row false, 0⟩]) w' ∧ Evo μ h w (μ.add h.length 0 L) (h ++ [⟨.cells c e row false, 0⟩]) w' ∧ Fresh base μ h (μ.add h.length 0 L) := by
  subst hLe
  have hle : μ.le (μ.add h.length 0 ⟨w.heap.size, 0, C.size, if row then ((P.info? e).map (·.size)).getD 0 else 0⟩) := Mu.add_le (H.none_of_len (Nat.le_refl _))
  refine HRel.push H rfl hc (fun k hk => by rw [hw, Array.getElem?_push, if_neg (by omega)]) (Nat.le_refl _) (by rw [hw]; simp) ?_
  exact ⟨C, T, (0, 0), by rw [hw]; simp, hl, by simp, fun i x y hx hy => (hv i x y hx (by simpa using hy)).mono hle, rfl, fun _ i _ _ => by simp⟩
theorem VR.row {r : ARef} {L : Loc} {n kcap C : Nat} (hL : μ.loc r.id r.ver = some L) (hb : L.base + r.off = 0) (hk : 0 < kcap) (hn : n ≤ kcap) (hc : kcap ≤ C) (hl : C = kcap ∨ C * L.esz ≤ L.size) :
    VR μ (.slice (some r) n kcap) (.slice (some ⟨L.blk, 0, .none⟩) n C) := by
  have := VR.slice (μ := μ) r L n kcap C hL hk hn hc (fun _ => hl)
  rwa [hb] at this
theorem alloc_sound (H : HRel P μ h w) {t : TypeId} {z : List AVal} (hz : zc P t = some z) :
    ∃ V w', (Instr.alloc t true (.tuple #[])).run P w = .ok V w' ∧ Fine P base μ h w (.ptr (some ⟨h.length, 0, 0⟩)) (h ++ [⟨.cells z t false false, 0⟩]) V w' := by
  obtain ⟨Z, hZ, hzr⟩ := zc_inv (μ := μ) hz
  refine ⟨.pointer (some ⟨w.heap.size, 0, .none⟩), { w with heap := w.heap.push (.cells Z.cells t) }, by simp [Instr.alloc, hZ, newVar, newRow], ?_⟩
  have hl : z.length = Z.cells.size := by simpa using hzr.1
  obtain ⟨h1, h2, h3, h4⟩ := push_cells (P := P) (e := t) (T := t) (row := false) H (c := z) (C := Z.cells) (w' := { w with heap := w.heap.push (.cells Z.cells t) }) ⟨rfl, rfl, rfl⟩ rfl (by omega) (fun i x y hx hy => hzr.2 i x y hx (by simpa using hy)) _ rfl
  exact ⟨_, h1, by simpa using VR.ptr (μ := μ.add h.length 0 _) ⟨h.length, 0, 0⟩ _ Mu.add_same, h2, h3, h4⟩
theorem box_sound (H : HRel P μ h w) {t : TypeId} {x : AVal} {X : Value} (hx : VR μ x X) (hn : x.isN ≠ true) :
    ∃ V w', (Instr.box t X).run P w = .ok V w' ∧ Fine P base μ h w (.ptr (some ⟨h.length, 0, 0⟩)) (h ++ [⟨.cells x.cells t false false, 0⟩]) V w' := by
  have hr := hx.cells (by intro e; subst e; simp [AVal.isN] at hn)
  refine ⟨.pointer (some ⟨w.heap.size, 0, .none⟩), { w with heap := w.heap.push (.cells X.cells t) }, by simp [Instr.box, newVar, newRow], ?_⟩
  have hl : x.cells.length = X.cells.size := by simpa using hr.1
  obtain ⟨h1, h2, h3, h4⟩ := push_cells (P := P) (e := t) (T := t) (row := false) H (c := x.cells) (C := X.cells) (w' := { w with heap := w.heap.push (.cells X.cells t) }) ⟨rfl, rfl, rfl⟩ rfl (by omega) (fun i a b ha hb => hr.2 i a b ha (by simpa using hb)) _ rfl
  exact ⟨_, h1, by simpa using VR.ptr (μ := μ.add h.length 0 _) ⟨h.length, 0, 0⟩ _ Mu.add_same, h2, h3, h4⟩
theorem repCells_length (z : List AVal) : ∀ n, (repCells z n).length = n * z.length
  | 0 => by simp [repCells]
  | n + 1 => by simp [repCells, repCells_length z n, Nat.succ_mul, Nat.add_comm]
theorem repCells_get (z : List AVal) : ∀ (n i : Nat), i < n * z.length → (repCells z n)[i]? = z[i % z.length]?
  | 0, i, h => by simp at h
  | n + 1, i, h => by
    simp only [repCells]
    rcases Nat.lt_or_ge i z.length with hi | hi
    · rw [List.getElem?_append_left hi, Nat.mod_eq_of_lt hi]
    · rw [List.getElem?_append_right hi, repCells_get z n (i - z.length) (by rw [Nat.succ_mul] at h; omega)]
      congr 1
      rw [Nat.mod_eq_sub_mod hi]
theorem rep_VR {z : List AVal} {Z : Array Value} (hz : VRs μ z Z.toList) (n m : Nat) (hm : m = n * Z.size) : VRs μ (repCells z n) ((Array.range m).map (Z[· % Z.size]!)).toList := by
  have hl : z.length = Z.size := by simpa using hz.1
  subst hm
  refine ⟨by simp [repCells_length, hl], fun i x y hx hy => ?_⟩
  have hi : i < n * z.length := by
    rcases Nat.lt_or_ge i (n * z.length) with h | h
    · exact h
    · rw [← repCells_length, ] at h; simp [List.getElem?_eq_none h] at hx
  rw [repCells_get z n i hi] at hx
  have hpos : 0 < z.length := by
    rcases Nat.eq_zero_or_pos z.length with h | h
    · rw [h] at hi; omega
    · exact h
  simp only [Array.toList_map, Array.toList_range, List.getElem?_map] at hy
  rw [List.getElem?_range (by rw [← hl]; exact hi)] at hy
  simp at hy
  have hlt : i % Z.size < Z.size := Nat.mod_lt _ (by omega)
  rw [← hy]
  refine hz.2 (i % z.length) x _ hx ?_
  rw [hl]
  simp [hlt]
theorem rowOf_sound {t e : TypeId} {n z : Nat} {cs : List AVal} {parts : List (Nat × AVal)} {PS : Array (Nat × Value)} (hr : rowOf P t n parts = some (e, z, cs)) (hl : parts.length = PS.size)
    (hp : ∀ (i : Nat) (a b : Nat) (x : AVal) (X : Value), parts[i]? = some (a, x) → PS[i]? = some (b, X) → a = b ∧ VR μ x X) :
    ∃ C, (∀ W : World, (Instr.buildSlice t n PS).run P W = .ok (.slice (some ⟨W.heap.size, 0, .none⟩) n n) { W with heap := W.heap.push (.cells C e) }) ∧ VRs μ cs C.toList ∧ cs.length = n * z ∧ 0 < z ∧ ((P.info? e).map (·.size)).getD 0 = z := by
  unfold rowOf at hr
  split at hr
  · rename_i e' z' zs he
    obtain ⟨i, hd, hi', rfl, hz, hb, h0, hzl⟩ := elS_inv he
    split at hr
    · cases hr
    · rename_i hsz
      split at hr
      · rename_i cs' hf
        simp at hr
        obtain ⟨rfl, rfl, rfl⟩ := hr
        have flen : ∀ (parts : List (Nat × AVal)) (c c' : List AVal), fillA (fun j => some (j * i.size, i.size)) c parts = some c' → c'.length = c.length := by
          intro parts
          induction parts with
          | nil => intro c c' h; simp [fillA] at h; rw [h]
          | cons p ps ih =>
            intro c c' h
            simp only [fillA] at h
            split at h
            · cases h
            · rw [ih _ _ h, splice_length]
        obtain ⟨Z, hZ, hzr⟩ := zc_inv (μ := μ) hz
        have hzs : Z.cells.size = i.size := by have := hzr.1; simp at this; omega
        have hrep := rep_VR hzr n (n * i.size) (by rw [hzs])
        obtain ⟨C', hC', hr⟩ := fillA_sound (μ := μ) parts PS.toList (repCells zs n) cs' _ hrep (by simpa using hl) (fun i a b x X ha hb => hp i a b x X ha (by simpa using hb)) hf
        refine ⟨C', fun W => ?_, hr, by rw [flen _ _ _ hf, repCells_length, hzl], h0, by simp [hi']⟩
        simp only [Instr.buildSlice, Sem.run_bind, run_underlying' hd, Result.andThen_ok, run_sizeOf' hi']
        rw [if_neg hsz]
        by_cases hn : n * i.size = 0
        · have e1 : ∀ f : Nat → Value, (Array.range 0).map f = #[] := fun f => Array.eq_empty_of_size_eq_zero (by simp)
          rw [hn, e1] at hC'
          simp [hn, e1, hC', newRow]
        · simp only [hn, if_false, Sem.run_bind, hZ, Result.andThen_ok, Sem.run_pure, hC']
          simp [newRow]
      · cases hr
  · cases hr
end
end Go.AM
/-
  make, append, copy, clear, stores into maps; and all operations that make or write memory.
-/
namespace Go.AM
section
variable {P : Program} {base : Nat} {μ μ' : Mu} {h : Heap} {w w' : World}
theorem wrap_small {n : Int} (h0 : 0 ≤ n) (h1 : n < 2 ^ 32) : IntKind.i64.wrap n = n := by
  have e : n % (2 ^ 64 : Int) = n := Int.emod_eq_of_lt h0 (by omega)
  simp only [IntKind.wrap, IntKind.bits, e]
  rw [if_neg]
  simp
  intro _
  omega
theorem makeSliceA_sound (H : HRel P μ h w) {t : TypeId} {l c : AVal} {LV CV : Value} {v : AVal} {h' : Heap} (hv : makeSliceA P h t l c = some (v, h')) (hl : VR μ l LV) (hc : VR μ c CV) :
    ∃ V w', (Instr.makeSlice t LV CV).run P w = .ok V w' ∧ Fine P base μ h w v h' V w' := by
  unfold makeSliceA at hv
  split at hv
  · rename_i e z zs l c he
    obtain ⟨i, hd, hi', rfl, hz, hb, h0, hzl⟩ := elS_inv he
    split at hv
    · rename_i hcond
      obtain ⟨c1, c2, c3⟩ := hcond
      cases hl; cases hc
      obtain ⟨Z, hZ, hzr⟩ := zc_inv (μ := μ) hz
      have hzs : Z.cells.size = i.size := by have := hzr.1; simp at this; omega
      have hrep := rep_VR hzr c.toNat (c.toNat * i.size) (by rw [hzs])
      let C : Array Value := (Array.range (c.toNat * i.size)).map (Z.cells[· % Z.cells.size]!)
      have hlen : (repCells zs c.toNat).length = C.size := by rw [repCells_length, hzl]; simp [C]
      have hrun : (Instr.makeSlice t (.int .i64 l) (.int .i64 c)).run P w = .ok (.slice (some ⟨w.heap.size, 0, .none⟩) l.toNat c.toNat) { w with heap := w.heap.push (.cells C e) } := by
        have hbytes : (i.bytes : Int) * c ≤ 2 ^ 12 * 2 ^ 32 := Int.mul_le_mul (by omega) (by omega) (by omega) (by omega)
        have hnot : ¬ (i.bytes : Int) * c > 2 ^ 48 := by omega
        have hbytes' : (i.bytes : Int) * l ≤ 2 ^ 12 * 2 ^ 32 := Int.mul_le_mul (by omega) (by omega) (by omega) (by omega)
        simp only [Instr.makeSlice, Sem.run_bind, run_underlying' hd, Result.andThen_ok, asInt, asIntOf, Sem.run_pure, run_typeInfo' hi', wrap_small (show 0 ≤ c by omega) c3, wrap_small c1 (show l < 2 ^ 32 by omega)]
        rw [if_neg (by simp; omega)]
        simp only [Sem.run_bind, run_askRoom, Result.andThen_ok, run_sizeOf' hi']
        by_cases hn : c.toNat * i.size = 0
        · have e1 : ∀ f : Nat → Value, (Array.range 0).map f = #[] := fun f => Array.eq_empty_of_size_eq_zero (by simp)
          have eC : C = #[] := by simp only [C]; rw [hn]; exact e1 _
          rw [eC]
          simp [hn, e1, newRow]
        · simp [hn, hZ, newRow, C]
      split at hv
      · rename_i hc0
        simp at hv
        obtain ⟨rfl, rfl⟩ := hv
        subst hc0
        have hl0 : l = 0 := by omega
        subst hl0
        have hw : ∀ k, k < w.heap.size → ({ w with heap := w.heap.push (.cells C e) } : World).heap[k]? = w.heap[k]? := fun k hk => by simp only [Array.getElem?_push]; rw [if_neg (by omega)]
        exact ⟨_, _, hrun, μ, .rfl, .emp _, H.world hw (by simp), ⟨by simp, rfl, rfl, rfl, fun b hb hn => ⟨hw b hb, hn⟩, fun _ _ hl => .inl hl⟩, .rfl⟩
      · rename_i hc0
        simp at hv
        obtain ⟨rfl, rfl⟩ := hv
        obtain ⟨p1, p2, p3, p4⟩ := push_cells (P := P) (e := e) (T := e) (row := true) H (c := repCells zs c.toNat) (C := C) (w' := { w with heap := w.heap.push (.cells C e) }) ⟨rfl, rfl, rfl⟩ rfl (by omega) (fun i x y hx hy => hrep.2 i x y hx (by rw [Array.getElem?_toList]; exact hy)) _ rfl
        exact ⟨_, _, hrun, _, p1, VR.row (r := ⟨h.length, 0, 0⟩) Mu.add_same rfl (by omega) (by omega) (Nat.le_refl _) (.inl rfl), p2, p3, p4⟩
    · cases hv
  · cases hv
theorem lenA_sound {z : Nat} {x : AVal} {X : Value} {n : Nat} (hn : lenA z x = some n) (hx : VR μ x X) : (Builtin.lenOf X).run P w = .ok n w ∧ ∃ a c, X = .slice a n c := by
  unfold lenA at hn
  split at hn
  · simp at hn; subst hn; cases hx <;> exact ⟨rfl, _, _, rfl⟩
  · simp at hn; subst hn; cases hx; exact ⟨rfl, _, _, rfl⟩
  · split at hn
    · simp at hn; subst hn; cases hx; exact ⟨rfl, _, _, rfl⟩
    · cases hn
  · cases hn
theorem firstN_len {z n : Nat} {x : AVal} {cs : List AVal} (hf : firstN h z n x = some cs) : cs.length = n * z := by
  unfold firstN at hf
  split at hf
  · unfold loadN at hf
    split at hf
    · split at hf
      · simp at hf; subst hf; simp; omega
      · cases hf
    · cases hf
  · split at hf
    · rename_i hn; simp at hf; subst hf hn; simp
    · cases hf
  · split at hf
    · rename_i hn; simp at hf; subst hf hn; simp
    · cases hf
  · split at hf
    · simp at hf; subst hf; simp; omega
    · cases hf
  · cases hf
theorem firstN_sound (H : HRel P μ h w) {z n : Nat} {x : AVal} {X : Value} {cs : List AVal} (hf : firstN h z n x = some cs) (hx : VR μ x X) (hn0 : ∀ r, x = .slice r 0 0 → n = 0) :
    ∃ C, (Builtin.firstCells z n X).run P w = .ok C w ∧ VRs μ cs C.toList := by
  unfold firstN at hf
  split at hf
  · rename_i r k c
    cases hx with
    | slice0 _ a Ca =>
      have hn : n = 0 := hn0 _ rfl
      subst hn
      simp only [Nat.zero_mul] at hf
      unfold loadN at hf
      split at hf
      · split at hf
        · simp at hf; subst hf
          exact ⟨#[], by simp [Builtin.firstCells, loadCells, loadCellsFrom], .nil⟩
        · cases hf
      · cases hf
    | slice _ L _ _ C hL hk hn hc hl =>
      obtain ⟨h1, V, hV, hVl, hcell⟩ := loadN_inv H hf hL
      refine ⟨V.toArray, ?_, by simpa using hV⟩
      simp only [Builtin.firstCells]
      rw [← hVl]
      exact run_loadCells_list w _ V hcell
  · split at hf
    · simp at hf; subst hf
      cases hx
      exact ⟨#[], by simp [Builtin.firstCells], .nil⟩
    · cases hf
  · split at hf
    · rename_i hn
      simp at hf; subst hf hn
      cases hx with
      | emp a => exact ⟨#[], by simp [Builtin.firstCells, loadCells, loadCellsFrom], .nil⟩
    · cases hf
  · rename_i l
    split at hf
    · rename_i hle
      simp at hf; subst hf
      cases hx with
      | vals b _ hb =>
        obtain ⟨⟨C, e, fz, h1, h2⟩, _⟩ := H.anon b l hb
        have hlc := h2.1
        refine ⟨(C.toList.take (n * z)).toArray, ?_, by simpa using h2.take (n * z)⟩
        simp only [Builtin.firstCells]
        have : (C.toList.take (n * z)).length = n * z := by simp at hlc ⊢; omega
        rw [show n * z = (C.toList.take (n * z)).length from this.symm]
        rw [run_loadCells_list w _ (C.toList.take (n * z))]
        · simp
        · intro j v hv
          rw [addr_add]
          simp only [World.cell?, h1]
          simp only [List.getElem?_take] at hv
          split at hv
          · simpa using hv
          · cases hv
    · cases hf
  · cases hf
theorem zeroCells_eq (Z : Array Value) (n : Nat) : Builtin.zeroCells Z n = (Array.range (n * Z.size)).map (Z[· % Z.size]!) := rfl
theorem spliceV_get : ∀ (VS : List Value) (C : Array Value) (off k : Nat), off + VS.length ≤ C.size → (spliceV C off VS)[k]? = if off ≤ k ∧ k < off + VS.length then VS[k - off]? else C[k]?
  | [], C, off, k, _ => by simp [spliceV]; intro h1 h2; omega
  | v :: VS, C, off, k, hl => by
    simp only [List.length_cons] at hl
    simp only [spliceV]
    rw [spliceV_get VS _ (off + 1) k (by simp; omega), Array.getElem?_setIfInBounds]
    by_cases h1 : off = k
    · subst h1
      rw [if_neg (by omega), if_pos rfl, if_pos (by omega), if_pos (by simp)]
      simp
    · rw [if_neg h1]
      by_cases h2 : off ≤ k ∧ k < off + (VS.length + 1)
      · rw [if_pos (by omega), if_pos (by simpa using h2)]
        have : k - off = (k - (off + 1)) + 1 := by omega
        rw [this]; simp
      · rw [if_neg (by omega), if_neg (by simpa using h2)]
theorem growBy_le (n : Nat) : ∀ (r c : Nat), Builtin.growBy n r c ≤ c * 2 ^ r + 200 * 2 ^ r
  | 0, c => by simp [Builtin.growBy]
  | r + 1, c => by
    have h4 : (c * 2 + 200) * 2 ^ r + 200 * 2 ^ r = c * 2 ^ (r + 1) + 200 * 2 ^ (r + 1) := by
      rw [Nat.pow_succ]
      simp only [Nat.add_mul, Nat.mul_assoc, Nat.mul_comm 2]
      omega
    have hp : c ≤ c * 2 ^ (r + 1) := Nat.le_mul_of_pos_right _ (Nat.two_pow_pos _)
    simp only [Builtin.growBy]
    split
    · omega
    · have := growBy_le n r (c + (c + 768) / 4)
      have h2 : c + (c + 768) / 4 ≤ c * 2 + 200 := by omega
      have h3 : (c + (c + 768) / 4) * 2 ^ r ≤ (c * 2 + 200) * 2 ^ r := Nat.mul_le_mul_right _ h2
      omega
theorem nextcap_le {need cap : Nat} (hc : cap < need) (hn : need < 2 ^ 31) : Builtin.nextslicecap need cap ≤ 2 ^ 36 := by
  unfold Builtin.nextslicecap
  split
  · omega
  · split
    · omega
    · have := growBy_le need 4 cap
      omega
theorem run_append_in {t t' e e' : TypeId} {i : TypeInfo} {base : Option Addr} {sLen sCap n : Nat} {X : Value} {new : Array Value} (hd : P.underlying t = some (.slice e)) (hi : P.info? e = some i) (hd' : P.underlying t' = some (.slice e'))
    (hn : (Builtin.lenOf X).run P w = .ok n w) (hle : sLen + n ≤ sCap) (hf : (Builtin.firstCells i.size n X).run P w = .ok new w)
    (hs : (match base with | some a => storeCells (a.add (sLen * i.size)) new.toList | .none => pure ()).run P w = .ok () w') :
    (Builtin.append_ #[t, t'] t #[.slice base sLen sCap, X]).run P w = .ok (.slice base (sLen + n) sCap) w' := by
  have e0 : (#[t, t'] : Array TypeId)[0]? = some t := rfl
  have e1 : (#[t, t'] : Array TypeId)[1]? = some t' := rfl
  have e2 : (#[Value.slice base sLen sCap, X] : Array Value)[0]? = some (.slice base sLen sCap) := rfl
  have e3 : (#[Value.slice base sLen sCap, X] : Array Value)[1]? = some X := rfl
  simp only [Builtin.append_, e0, e1, e2, e3, Sem.run_bind, run_underlying' hd, Result.andThen_ok, run_sizeOf' hi, run_underlying' hd', Sem.run_pure]
  simp only [Bool.false_eq_true, if_false, hn, Result.andThen_ok, hle, if_true, Sem.run_bind, Bool.not_false, hf]
  cases base with
  | none => simp at hs ⊢; exact hs
  | some a => simp only [Sem.run_bind] at hs ⊢; rw [hs]; rfl
theorem run_append_re {t t' e e' : TypeId} {i : TypeInfo} {base : Option Addr} {sLen sCap n : Nat} {X Z : Value} {old new : Array Value} (hd : P.underlying t = some (.slice e)) (hi : P.info? e = some i) (hd' : P.underlying t' = some (.slice e'))
    (hb : i.bytes ≤ 2 ^ 12) (hn : ∀ W : World, (Builtin.lenOf X).run P W = .ok n W) (hlt : ¬ sLen + n ≤ sCap) (hnd : sLen + n < 2 ^ 31) (hz : ∀ W : World, (zeroValue e).run P W = .ok Z W)
    (hof : (Builtin.firstCells i.size sLen (.slice base sLen sCap)).run P w.drew = .ok old w.drew) (hf : (Builtin.firstCells i.size n X).run P w.drew = .ok new w.drew) :
    ∃ cap, sLen + n ≤ cap ∧ (Builtin.append_ #[t, t'] t #[.slice base sLen sCap, X]).run P w =
      .ok (.slice (some ⟨w.heap.size, 0, .none⟩) (sLen + n) cap) { w.drew with heap := w.heap.push (.cells (old ++ new ++ Builtin.zeroCells Z.cells (cap - (sLen + n))) e) } := by
  have e0 : (#[t, t'] : Array TypeId)[0]? = some t := rfl
  have e1 : (#[t, t'] : Array TypeId)[1]? = some t' := rfl
  have e2 : (#[Value.slice base sLen sCap, X] : Array Value)[0]? = some (.slice base sLen sCap) := rfl
  have e3 : (#[Value.slice base sLen sCap, X] : Array Value)[1]? = some X := rfl
  have hcap := nextcap_le (show sCap < sLen + n by omega) hnd
  have hprod : Builtin.nextslicecap (sLen + n) sCap * i.bytes ≤ 2 ^ 36 * 2 ^ 12 := Nat.mul_le_mul hcap hb
  refine ⟨(Question.appendCap (sLen + n) sCap e).cut (w.tape w.drawn (.appendCap (sLen + n) sCap e)), by simp [Question.cut], ?_⟩
  simp only [Builtin.append_, e0, e1, e2, e3, Sem.run_bind, run_underlying' hd, Result.andThen_ok, run_sizeOf' hi, run_underlying' hd', Sem.run_pure]
  simp only [Bool.false_eq_true, if_false, hn, Result.andThen_ok, hlt, Sem.run_bind, Bool.not_false, run_typeInfo' hi, if_true, false_or]
  rw [if_neg (by have hm : IntKind.i64.max = 9223372036854775807 := by decide
                 rw [hm]; intro hh; have := hh.1; omega)]
  simp only [Sem.run_bind, run_typeInfo' hi, Result.andThen_ok]
  rw [if_neg (by omega)]
  simp only [Sem.run_bind, run_choose, Question.forced, Bool.false_eq_true, if_false, Result.andThen_ok, run_askRoom, World.drew_eq, run_typeInfo' hi]
  simp only [hof, hf, Result.andThen_ok, hz, newRow, Sem.run_bind, run_newObj, Sem.run_pure]
  rfl
theorem appendA_sound (H : HRel P μ h w) {t t' : TypeId} {s x : AVal} {S X : Value} {v : AVal} {h' : Heap} (hv : appendA P base h t s x = some (v, h')) (ht' : (elS P t').isNone ≠ true) (hs : VR μ s S) (hx : VR μ x X) :
    ∃ V w', (Builtin.append_ #[t, t'] t #[S, X]).run P w = .ok V w' ∧ Fine P base μ h w v h' V w' := by
  obtain ⟨e', hd'⟩ : ∃ e', P.underlying t' = some (.slice e') := by
    cases he : elS P t' with
    | none => simp [he] at ht'
    | some q => obtain ⟨e', z, zs⟩ := q; obtain ⟨i, hd, _⟩ := elS_inv he; exact ⟨e', hd⟩
  unfold appendA at hv
  split at hv
  · cases hv
  · rename_i e z zs he
    obtain ⟨i, hd, hi, rfl, hz, hb, h0, hzl⟩ := elS_inv he
    obtain ⟨Z, hZ, hzr⟩ := zc_inv (μ := μ) hz
    split at hv
    · cases hv
    · rename_i n hn
      split at hv
      · cases hv
      · rename_i new hnew
        have hnl := firstN_len hnew
        have hx0 : ∀ r, x = .slice r 0 0 → n = 0 := by intro r e; subst e; simp [lenA] at hn; exact hn.symm
        have hlen := fun W : World => (lenA_sound (P := P) (w := W) hn hx).1
        obtain ⟨NEW, hNEW, hnr⟩ := firstN_sound H hnew hx hx0
        have Hd : HRel P μ h w.drew := H.world (fun _ _ => rfl) (Nat.le_refl _)
        obtain ⟨NEW', hNEW', hnr'⟩ := firstN_sound Hd hnew hx hx0
        have hnsz : NEW'.size = n * i.size := by have := hnr'.1; simp at this; omega
        -- an append that makes a row of its own
        have fresh : ∀ (S : Value) (bs : Option Addr), S = .slice bs 0 0 → 0 < n → n < 2 ^ 31 →
            ∃ V w', (Builtin.append_ #[t, t'] t #[S, X]).run P w = .ok V w' ∧ Fine P base μ h w (.slice (some ⟨h.length, 0, 0⟩) n n) (h ++ [⟨.cells new e true false, 0⟩]) V w' := by
          intro S bs hS hn1 hn2
          subst hS
          have hof : (Builtin.firstCells i.size 0 (.slice bs 0 0)).run P w.drew = .ok #[] w.drew := by
            cases bs <;> simp [Builtin.firstCells, loadCells, loadCellsFrom]
          obtain ⟨cap, hc1, hc2⟩ := run_append_re (w := w) (Z := Z) (base := bs) (sLen := 0) (sCap := 0) hd hi hd' hb hlen (by omega) (by omega) hZ hof hNEW'
          refine ⟨_, _, hc2, ?_⟩
          let C : Array Value := #[] ++ NEW' ++ Builtin.zeroCells Z.cells (cap - (0 + n))
          have hzs : Z.cells.size = i.size := by have := hzr.1; simp at this; omega
          have hCs : C.size = cap * i.size := by
            simp only [C, Array.size_append, zeroCells_eq, Array.size_map, Array.size_range, hnsz, hzs]
            simp only [List.size_toArray, List.length_nil, Nat.zero_add]
            rw [← Nat.add_mul]; congr 1; omega
          obtain ⟨p1, p2, p3, p4⟩ := push_cells (P := P) (e := e) (T := e) (row := true) H (c := new) (C := C) (w' := { w.drew with heap := w.heap.push (.cells C e) }) ⟨rfl, rfl, rfl⟩ rfl
            (by rw [hCs, hnl]; exact Nat.mul_le_mul_right _ (by omega)) (fun j a b ha hb' => by
              have hj : j < NEW'.size := by
                rcases Nat.lt_or_ge j new.length with h | h
                · omega
                · simp [List.getElem?_eq_none h] at ha
              refine hnr'.2 j a b ha ?_
              rw [Array.getElem?_toList]
              simp only [C] at hb'
              rw [Array.getElem?_append_left (by simp; omega)] at hb'
              simpa using hb') _ rfl
          refine ⟨_, p1, ?_, p2, p3, p4⟩
          rw [Nat.zero_add]
          refine VR.row (r := ⟨h.length, 0, 0⟩) Mu.add_same rfl hn1 (Nat.le_refl _) (by omega) (.inr ?_)
          simp only [if_true, hi, Option.map_some, Option.getD_some]
          rw [hCs]; exact Nat.le_refl _
        split at hv
        · rename_i hsc
          split at hv
          · -- nil
            split at hv
            · rename_i hn0
              simp at hv; obtain ⟨rfl, rfl⟩ := hv
              subst hn0
              cases hs
              exact ⟨_, w, run_append_in (w' := w) hd hi hd' (hlen w) (by omega) hNEW (by simp), Fine.same H .sliceN⟩
            · split at hv
              · rename_i hn1 hn2
                simp at hv; obtain ⟨rfl, rfl⟩ := hv
                cases hs
                exact fresh _ .none rfl (by omega) hn2
              · cases hv
          · -- an empty literal
            split at hv
            · rename_i hn0
              simp at hv; obtain ⟨rfl, rfl⟩ := hv
              subst hn0
              cases hs with
              | emp a =>
                have : NEW.toList = [] := List.eq_nil_of_length_eq_zero (by have := hnr.1; omega)
                exact ⟨_, w, run_append_in (w' := w) hd hi hd' (hlen w) (by omega) hNEW (by rw [this]; simp [storeCells]), Fine.same H (.emp a)⟩
            · split at hv
              · rename_i hn1 hn2
                simp at hv; obtain ⟨rfl, rfl⟩ := hv
                cases hs with
                | emp a => exact fresh _ (some a) rfl (by omega) hn2
              · cases hv
          · rename_i r len kcap
            split at hv
            · -- within the capacity
              rename_i hle
              split at hv
              · rename_i h'' hst
                simp at hv; obtain ⟨rfl, rfl⟩ := hv
                cases hs with
                | slice0 _ a Ca =>
                  have hn0 : n = 0 := by omega
                  subst hn0
                  have hnew0 : new = [] := List.eq_nil_of_length_eq_zero (by rw [hnl]; simp)
                  subst hnew0
                  have := storeN_nil hst
                  subst this
                  have hN0 : NEW.toList = [] := List.eq_nil_of_length_eq_zero hnr.1.symm
                  exact ⟨_, w, run_append_in (w' := w) hd hi hd' (hlen w) (by omega) hNEW (by rw [hN0]; simp [storeCells]), Fine.same H (.slice0 r a Ca)⟩
                | slice _ L _ _ C hL hk hn' hc hl =>
                  obtain ⟨w', s1, s2, s3⟩ := storeN_sound H (r := r.add (len * i.size)) hst hL hnr
                  refine ⟨_, w', run_append_in hd hi hd' (hlen w) (by omega) hNEW ?_, μ, .rfl, .slice r L _ _ C hL hk (by omega) hc hl, s2, s3, .rfl⟩
                  simp only [addr_add]
                  rw [Nat.add_assoc]; exact s1
              · cases hv
            · -- it grows
              rename_i hgt
              split at hv
              · rename_i c e2 ver hbk
                split at hv
                · rename_i hcond
                  obtain ⟨rfl, hoff, hkc, rfl, hbound, hk0, hbase⟩ := hcond
                  simp at hv; obtain ⟨rfl, rfl⟩ := hv
                  have hbr0 : base ≤ r.id ∨ ∃ M, μ.loc r.id r.ver = some M := by
                    rcases hbase with hb1 | _
                    · exact .inl hb1
                    · cases hs with
                      | slice0 => omega
                      | slice _ L _ _ C hL _ _ _ _ => exact .inr ⟨L, hL⟩
                  have hro : r = ⟨r.id, r.ver, 0⟩ := by cases r; simp at hoff; subst hoff; rfl
                  -- in another place
                  have moved : ∀ (bs : Option Addr) (C : Nat) (OLD : Array Value), S = .slice bs len C → ¬ len + n ≤ C → (Builtin.firstCells i.size len S).run P w.drew = .ok OLD w.drew → VRs μ (c.take (len * i.size)) OLD.toList → len ≤ kcap →
                      ∃ V w', (Builtin.append_ #[t, t'] t #[S, X]).run P w = .ok V w' ∧ Fine P base μ h w (.slice (some ⟨r.id, r.ver + 1, 0⟩) (len + n) (len + n)) (h.set r.id ⟨.cells (c.take (len * i.size) ++ new) e2 true false, r.ver + 1⟩) V w' := by
                    intro bs C OLD hS hnC hof hov hlk
                    subst hS
                    obtain ⟨cap, hc1, hc2⟩ := run_append_re (w := w) (Z := Z) (base := bs) (sLen := len) (sCap := C) hd hi hd' hb hlen hnC hbound hZ hof hNEW'
                    refine ⟨_, _, hc2, ?_⟩
                    let C' : Array Value := OLD ++ NEW' ++ Builtin.zeroCells Z.cells (cap - (len + n))
                    have hzs : Z.cells.size = i.size := by have := hzr.1; simp at this; omega
                    have hlk' : len * i.size ≤ c.length := by rw [← hkc]; exact Nat.mul_le_mul_right _ hlk
                    have hOs : OLD.size = len * i.size := by have := hov.1; simp at this; omega
                    have hC's : C'.size = cap * i.size := by
                      simp only [C', Array.size_append, zeroCells_eq, Array.size_map, Array.size_range, hnsz, hzs, hOs]
                      rw [← Nat.add_mul, ← Nat.add_mul]; congr 1; omega
                    have hall := hov.append hnr'
                    let L' : Loc := ⟨w.heap.size, 0, C'.size, i.size⟩
                    have hgr := HRel.grow (L := L') (w' := { w.drew with heap := w.heap.push (.cells C' e2) }) H hbk (b' := ⟨.cells (c.take (len * i.size) ++ new) e2 true false, r.ver + 1⟩) rfl ⟨rfl, rfl, rfl⟩ (by simp) (by simp [L'])
                      (.inr ⟨Nat.le_refl _, fun k hk => by simp only [Array.getElem?_push]; rw [if_neg (by omega)]⟩) ?_ hbr0
                    · obtain ⟨g1, g2, g3, g4⟩ := hgr
                      refine ⟨_, g1, ?_, g2, g3, g4⟩
                      refine VR.row (r := ⟨r.id, r.ver + 1, 0⟩) Mu.add_same rfl (by omega) (Nat.le_refl _) hc1 (.inr ?_)
                      simp only [L']; rw [hC's]; exact Nat.le_refl _
                    · refine ⟨C', e2, (0, 0), by simp [L'], ?_, by simp [L'], ?_, by simp [L', hi], fun _ j _ _ => by simp⟩
                      · simp only [L', hC's, List.length_append, List.length_take, hnl, Nat.min_eq_left hlk']
                        rw [← Nat.add_mul]; exact Nat.mul_le_mul_right _ hc1
                      · intro j a b ha hb'
                        have hj : j < (c.take (len * i.size) ++ new).length := by
                          rcases Nat.lt_or_ge j (c.take (len * i.size) ++ new).length with h | h
                          · exact h
                          · simp only [List.getElem?_eq_none h] at ha; cases ha
                        refine (hall.2 j a b ha ?_).mono (Mu.add_le (H.none_of_ver hbk (by simp)))
                        simp only [L', C', Nat.zero_add] at hb'
                        have hlen' := hall.1
                        rw [Array.getElem?_append_left (by simp at hlen' hj ⊢; omega)] at hb'
                        rw [← Array.toList_append, Array.getElem?_toList]; exact hb'
                  cases hs with
                  | slice0 => omega
                  | slice _ L _ _ C hL hk hn' hc hl =>
                    obtain ⟨CC, T, fz, k1, k2, k3, k4, k5, k6⟩ := H.blk r.id _ L hbk hL
                    have hlk' : len * i.size ≤ c.length := by rw [← hkc]; exact Nat.mul_le_mul_right _ hn'
                    by_cases hin : len + n ≤ C
                    · -- in its place
                      have hCk : C ≠ kcap := by omega
                      have hCl : C * L.esz ≤ L.size := by
                        rcases hl hoff with h | h
                        · exact absurd h hCk
                        · exact h
                      have hesz : L.esz = i.size := by rw [k5]; simp [hi]
                      rw [hesz] at hCl
                      have hroom : (len + n) * i.size ≤ L.size := Nat.le_trans (Nat.mul_le_mul_right _ hin) hCl
                      rw [Nat.add_mul] at hroom
                      have hNs : NEW.toList.length = n * i.size := by have := hnr.1; omega
                      obtain ⟨w', r1, r2, r3, r4, r5⟩ := run_storeCells (P := P) L.blk NEW.toList w CC T fz (L.base + len * i.size) 0 k1 (by omega) (fun j a b => k6 rfl j (by omega) (by omega)) (scalars_one hsc hnr)
                      refine ⟨.slice (some ⟨L.blk, L.base + r.off, .none⟩) (len + n) C, w', run_append_in hd hi hd' (hlen w) hin hNEW (by simp only [addr_add, hoff, Nat.add_zero]; exact r1), ?_⟩
                      have hgr := HRel.grow (L := L) (w' := w') H hbk (b' := ⟨.cells (c.take (len * i.size) ++ new) e2 true false, r.ver + 1⟩) rfl r5 (by omega) (by obtain ⟨_, _, _, h3⟩ := H.dom r.id _ L hL; omega)
                        (.inl ⟨hL, rfl, fun k _ hk => r3 k hk⟩) ?_ hbr0
                      · obtain ⟨g1, g2, g3, g4⟩ := hgr
                        refine ⟨_, g1, ?_, g2, g3, g4⟩
                        have := VR.slice (μ := μ.add r.id (r.ver + 1) L) ⟨r.id, r.ver + 1, 0⟩ L (len + n) (len + n) C Mu.add_same (by omega) (Nat.le_refl _) hin (fun _ => .inr (by rw [hesz]; exact hCl))
                        rw [hoff]; exact this
                      · refine ⟨_, T, fz, r2, ?_, by rw [spliceV_size]; exact k3, ?_, k5, k6⟩
                        · simp only [List.length_append, List.length_take, hnl, Nat.min_eq_left hlk']; exact hroom
                        · intro j a b ha hb'
                          have hle' := Mu.add_le (L := L) (H.none_of_ver hbk (v := r.ver + 1) (by simp))
                          rw [Nat.add_zero] at hb'
                          rcases Nat.lt_or_ge j (len * i.size) with hj | hj
                          · rw [List.getElem?_append_left (by simp; omega), List.getElem?_take, if_pos hj] at ha
                            rw [spliceV_get _ _ _ _ (by omega), if_neg (by omega)] at hb'
                            exact (k4 j a b ha hb').mono hle'
                          · rw [List.getElem?_append_right (by simp; omega)] at ha
                            rw [spliceV_get _ _ _ _ (by omega)] at hb'
                            have hjn : j - len * i.size < new.length := by
                              simp only [List.length_take, Nat.min_eq_left hlk'] at ha
                              rcases Nat.lt_or_ge (j - len * i.size) new.length with h | h
                              · exact h
                              · simp [List.getElem?_eq_none h] at ha
                            rw [if_pos (by omega)] at hb'
                            simp only [List.length_take, Nat.min_eq_left hlk'] at ha
                            refine (hnr.2 _ a b ha ?_).mono hle'
                            rw [← hb']; congr 1; omega
                    · obtain ⟨OLD, hOLD, hor⟩ := firstN_sound Hd (z := i.size) (n := len) (x := .slice (some r) len kcap) (cs := c.take (len * i.size)) (by
                        simp only [firstN, loadN, cellsAt, hbk, if_true, hoff, Nat.zero_add, hlk', List.drop_zero]) (.slice r L _ _ C hL hk hn' hc hl) (by intro q hq; cases hq; rfl)
                      exact moved _ C OLD rfl hin hOLD hor hn'
                · cases hv
              · cases hv
          · cases hv
        · cases hv
end
end Go.AM
/-
  The builtins, stores into maps, and all operations that make or write memory.
-/
namespace Go.AM
section
variable {P : Program} {base : Nat} {μ μ' : Mu} {h : Heap} {w w' : World}
theorem copyA_sound (H : HRel P μ h w) {t t' : TypeId} {ts : List TypeId} {d s : AVal} {D S : Value} {v : AVal} {h' : Heap} (hv : copyA P base h t d s = some (v, h')) (hd : VR μ d D) (hs : VR μ s S) :
    ∃ V w', (Builtin.copy_ (t :: ts).toArray t' #[D, S]).run P w = .ok V w' ∧ Fine P base μ h w v h' V w' := by
  unfold copyA at hv
  split at hv
  · rename_i e z zs a dlen kc he
    obtain ⟨i, hd', hi, rfl, hz, hb, h0, hzl⟩ := elS_inv he
    split at hv
    · cases hv
    · rename_i n hn
      obtain ⟨hln, aS, cS, hS⟩ := lenA_sound (P := P) (w := w) hn hs
      split at hv
      · cases hv
      · rename_i cs hcs
        obtain ⟨C, hC, hcr⟩ := firstN_sound (P := P) (w := w) H hcs hs (by intro r e; subst e; simp [lenA] at hn; subst hn; simp)
        have hcl := firstN_len hcs
        have e0 : (t :: ts).toArray[0]? = some t := by simp
        have e2 : (#[D, S] : Array Value)[0]? = some D := rfl
        have e3 : (#[D, S] : Array Value)[1]? = some S := rfl
        have pre : ∀ bs cap, D = .slice bs dlen cap → (Builtin.copy_ (t :: ts).toArray t' #[D, S]).run P w = (do
            if let some a := bs then storeCells a C.toList
            pure (goInt ((min n dlen : Nat) : Int)) : Sem Value).run P w := by
          intro bs cap hD
          subst hD
          simp only [Builtin.copy_, e0, e2, e3, Sem.run_bind, run_underlying' hd', Result.andThen_ok, hln, run_sizeOf' hi]
          rw [show Nat.min n dlen = min n dlen from rfl, hC]
          cases bs <;> simp
        split at hv
        · simp at hv; obtain ⟨rfl, rfl⟩ := hv
          cases hd
          refine ⟨_, w, (pre _ _ rfl).trans (by simp; rfl), Fine.same H ?_⟩
          simp [goInt]; exact .int _ _
        · rename_i r
          split at hv
          · rename_i h'' hst
            simp at hv; obtain ⟨rfl, rfl⟩ := hv
            cases hd with
            | slice0 _ a Ca =>
              simp only [Nat.min_zero, Nat.zero_mul] at hcl
              have hc0 : cs = [] := List.eq_nil_of_length_eq_zero hcl
              subst hc0
              have := storeN_nil hst; subst this
              have hC0 : C.toList = [] := List.eq_nil_of_length_eq_zero hcr.1.symm
              refine ⟨.int .i64 (min n 0 : Nat), w, (pre _ _ rfl).trans (by simp [hC0, storeCells, goInt]), Fine.same H (.int _ _)⟩
            | slice _ L _ _ C' hL hk hn' hc hl =>
              obtain ⟨w', s1, s2, s3⟩ := storeN_sound H hst hL hcr
              refine ⟨.int .i64 (min n dlen : Nat), w', (pre _ _ rfl).trans (by simp [s1, goInt]), μ, .rfl, .int _ _, s2, s3, .rfl⟩
          · cases hv
  · cases hv
theorem clearA_sound (H : HRel P μ h w) {t t' : TypeId} {ts : List TypeId} {x : AVal} {X : Value} {v : AVal} {h' : Heap} (hv : clearA P base h t x = some (v, h')) (hx : VR μ x X) :
    ∃ V w', (Builtin.clear_ (t :: ts).toArray t' #[X]).run P w = .ok V w' ∧ Fine P base μ h w v h' V w' := by
  have e0 : (t :: ts).toArray[0]? = some t := by simp
  have e2 : (#[X] : Array Value)[0]? = some X := rfl
  unfold clearA at hv
  split at hv
  · rename_i q k c he
    obtain ⟨e, z, zs⟩ := q
    obtain ⟨i, hd', hi, rfl, hz, hb, h0, hzl⟩ := elS_inv he
    simp at hv; obtain ⟨rfl, rfl⟩ := hv
    cases hx
    exact ⟨.tuple #[], w, by simp [Builtin.clear_, run_underlying' hd'], Fine.same H VR_undef⟩
  · rename_i q r c he
    obtain ⟨e, z, zs⟩ := q
    obtain ⟨i, hd', hi, rfl, hz, hb, h0, hzl⟩ := elS_inv he
    simp at hv; obtain ⟨rfl, rfl⟩ := hv
    cases hx <;> exact ⟨.tuple #[], w, by simp [Builtin.clear_, run_underlying' hd'], Fine.same H VR_undef⟩
  · rename_i q he
    obtain ⟨e, z, zs⟩ := q
    obtain ⟨i, hd', hi, rfl, hz, hb, h0, hzl⟩ := elS_inv he
    simp at hv; obtain ⟨rfl, rfl⟩ := hv
    cases hx
    exact ⟨.tuple #[], w, by simp [Builtin.clear_, run_underlying' hd'], Fine.same H VR_undef⟩
  · rename_i e z zs r n c he
    obtain ⟨i, hd', hi, rfl, hz, hb, h0, hzl⟩ := elS_inv he
    obtain ⟨Z, hZ, hzr⟩ := zc_inv (μ := μ) hz
    split at hv
    · rename_i h'' hst
      simp at hv; obtain ⟨rfl, rfl⟩ := hv
      cases hx with
      | slice _ L _ _ C hL hk hn hc hl =>
        have hzs : Z.cells.size = i.size := by have := hzr.1; simp at this; omega
        have hrep := rep_VR hzr (n + 1) ((n + 1) * Z.cells.size) rfl
        rw [← zeroCells_eq] at hrep
        obtain ⟨w', s1, s2, s3⟩ := storeN_sound H hst hL hrep
        exact ⟨.tuple #[], w', by simp [Builtin.clear_, run_underlying' hd', hZ, s1], μ, .rfl, VR_undef, s2, s3, .rfl⟩
    · cases hv
  · cases hv
theorem lenOpA_sound (H : HRel P μ h w) {t t' : TypeId} {ts : List TypeId} {x : AVal} {X : Value} {v : AVal} (hv : lenOpA P h t x = some v) (hx : VR μ x X) :
    ∃ V, (Builtin.len_ (t :: ts).toArray t' #[X]).run P w = .ok V w ∧ VR μ v V := by
  have e0 : (t :: ts).toArray[0]? = some t := by simp
  have e2 : (#[X] : Array Value)[0]? = some X := rfl
  unfold lenOpA at hv
  split at hv
  · rename_i e z zs he
    obtain ⟨i, hd', hi, rfl, hz, hb, h0, hzl⟩ := elS_inv he
    cases hn : lenA i.size x with
    | none => simp [hn] at hv
    | some n =>
      simp [hn] at hv; subst hv
      obtain ⟨_, a, c, rfl⟩ := lenA_sound (P := P) (w := w) hn hx
      exact ⟨.int .i64 n, by simp [Builtin.len_, run_underlying' hd', goInt], .int _ _⟩
  · split at hv
    · rename_i n q ha
      obtain ⟨e, d, i, hd, hd', hi', rfl⟩ := arT_inv ha
      simp at hv; subst hv
      exact ⟨.int .i64 n, by simp [Builtin.len_, run_underlying' hd, goInt], .int _ _⟩
    · split at hv
      · rename_i q hm
        obtain ⟨k, e⟩ := q
        have hd := mpT_inv hm
        cases he : entriesA h x with
        | none => simp [he] at hv
        | some es =>
          simp [he] at hv; subst hv
          rcases entriesA_sound H he hx with ⟨rfl, rfl, rfl⟩ | ⟨r, L, E, rfl, rfl, hL, hr, hw, hE⟩
          · exact ⟨.int .i64 (([] : List (AVal × AVal)).length : Nat), by simp [Builtin.len_, run_underlying' hd, goInt], .int _ _⟩
          · exact ⟨.int .i64 es.length, by simp [Builtin.len_, run_underlying' hd, run_getObj hw, goInt, hE.1], .int _ _⟩
      · cases hv
theorem minmax_sound {big : Bool} : ∀ {xs : List AVal} {x v : AVal} {X : Value} {XS : List Value}, minmax big x xs = some v → VR μ x X → VRs μ xs XS →
    ∃ V, (XS.foldlM (if big then Builtin.max2 else Builtin.min2) X).run P w = .ok V w ∧ VR μ v V
  | [], x, v, X, [], hv, hx, _ => by simp [minmax] at hv; subst hv; exact ⟨X, by simp, hx⟩
  | y :: ys, x, v, X, Y :: YS, hv, hx, hs => by
    have hy := hs.head
    unfold minmax at hv
    split at hv
    · rename_i heq; cases heq
    · rename_i k a k' b rest heq
      simp at heq; obtain ⟨rfl, rfl⟩ := heq
      cases hx; cases hy
      obtain ⟨V, h1, h2⟩ := minmax_sound hv (.int _ _) hs.tail
      refine ⟨V, ?_, h2⟩
      rw [List.foldlM_cons]
      cases big <;> simp_all [Builtin.max2, Builtin.min2]
    · cases hv
  | [], _, _, _, _ :: _, _, _, hs => by have := hs.1; simp at this
  | _ :: _, _, _, _, [], _, _, hs => by have := hs.1; simp at this
theorem args_one {l : List Value} {μ : Mu} {x : AVal} (h : VRs μ [x] l) : ∃ X, l = [X] ∧ VR μ x X := by
  match l, h with
  | [X], h => exact ⟨X, rfl, h.head⟩
  | [], h => have := h.1; simp at this
  | _ :: _ :: _, h => have := h.1; simp at this
theorem args_two {l : List Value} {μ : Mu} {x y : AVal} (h : VRs μ [x, y] l) : ∃ X Y, l = [X, Y] ∧ VR μ x X ∧ VR μ y Y := by
  match l, h with
  | [X, Y], h => exact ⟨X, Y, rfl, h.head, h.tail.head⟩
  | [], h => have := h.1; simp at this
  | [_], h => have := h.1; simp at this
  | _ :: _ :: _ :: _, h => have := h.1; simp at this
theorem args_cons {l : List Value} {μ : Mu} {x : AVal} {xs : List AVal} (h : VRs μ (x :: xs) l) : ∃ X XS, l = X :: XS ∧ VR μ x X ∧ VRs μ xs XS := by
  match l, h with
  | X :: XS, h => exact ⟨X, XS, rfl, h.head, h.tail⟩
  | [], h => have := h.1; simp at this
theorem builtinA_sound (H : HRel P μ h w) {b : Builtin} {ts : Array TypeId} {type : TypeId} {consts : Array Bool} {args : List AVal} {A : Array Value} {v : AVal} {h' : Heap}
    (hv : builtinA P base h b ts.toList args = some (v, h')) (ha : VRs μ args A.toList) : ∃ V w', (builtin b ts type consts A).run P w = .ok (.value V) w' ∧ Fine P base μ h w v h' V w' := by
  have lift : ∀ {s : Sem Value}, (∃ V w', s.run P w = .ok V w' ∧ Fine P base μ h w v h' V w') → ∃ V w', (do pure (Next.value (← s)) : Sem Next).run P w = .ok (.value V) w' ∧ Fine P base μ h w v h' V w' := by
    rintro s ⟨V, w', h1, h2⟩
    exact ⟨V, w', by simp [h1], h2⟩
  unfold builtinA at hv
  split at hv
  · rename_i t ts' x hts
    obtain ⟨X, hA, hx⟩ := args_one ha
    cases hr : lenOpA P h t x with
    | none => simp [hr] at hv
    | some r =>
      simp [hr] at hv; obtain ⟨rfl, rfl⟩ := hv
      obtain ⟨V, h1, h2⟩ := lenOpA_sound (w := w) (t' := type) (ts := ts') H hr hx
      have ets : ts = (t :: ts').toArray := by rw [← hts]
      have eA : A = #[X] := by rw [← Array.toArray_toList (xs := A), hA]
      subst ets eA
      exact lift ⟨V, w, h1, Fine.same H h2⟩
  · rename_i t t' s x hts
    obtain ⟨S, X, hA, hs, hx⟩ := args_two ha
    split at hv
    · cases hv
    · rename_i hn
      obtain ⟨V, w', h1, h2⟩ := appendA_sound H hv hn hs hx
      have ets : ts = #[t, t'] := by rw [← Array.toArray_toList (xs := ts), hts]
      have eA : A = #[S, X] := by rw [← Array.toArray_toList (xs := A), hA]
      subst ets eA
      exact lift ⟨V, w', h1, h2⟩
  · rename_i t ts' d s hts
    obtain ⟨D, S, hA, hd, hs⟩ := args_two ha
    have ets : ts = (t :: ts').toArray := by rw [← hts]
    have eA : A = #[D, S] := by rw [← Array.toArray_toList (xs := A), hA]
    subst ets eA
    exact lift (copyA_sound H hv hd hs)
  · rename_i t ts' x hts
    obtain ⟨X, hA, hx⟩ := args_one ha
    have ets : ts = (t :: ts').toArray := by rw [← hts]
    have eA : A = #[X] := by rw [← Array.toArray_toList (xs := A), hA]
    subst ets eA
    exact lift (clearA_sound H hv hx)
  · rename_i x xs
    obtain ⟨X, XS, hA, hx, hs⟩ := args_cons ha
    cases hr : minmax false x xs with
    | none => simp [hr] at hv
    | some r =>
      simp [hr] at hv; obtain ⟨rfl, rfl⟩ := hv
      obtain ⟨V, h1, h2⟩ := minmax_sound (P := P) (w := w) hr hx hs
      refine lift ⟨V, w, ?_, Fine.same H h2⟩
      simp only [Builtin.min_, hA]
      simpa using h1
  · rename_i x xs
    obtain ⟨X, XS, hA, hx, hs⟩ := args_cons ha
    cases hr : minmax true x xs with
    | none => simp [hr] at hv
    | some r =>
      simp [hr] at hv; obtain ⟨rfl, rfl⟩ := hv
      obtain ⟨V, h1, h2⟩ := minmax_sound (P := P) (w := w) hr hx hs
      refine lift ⟨V, w, ?_, Fine.same H h2⟩
      simp only [Builtin.max_, hA]
      simpa using h1
  · cases hv
/-- Builtins that read no memory. -/
theorem quiet_sound {c : Call} {b : Builtin} {type : TypeId} {consts : Array Bool} {args : List AVal} {A : Array Value} {v : AVal} {h' : Heap} (hq : quietB P (.call c) = true) (hc : c.callee = .builtin b)
    (hv : builtinA P base h b c.argTypes.toList args = some (v, h')) (ha : VRs μ args A.toList) : ∃ V, (builtin b c.argTypes type consts A).run P w = .ok (.value V) w ∧ VR μ v V := by
  have lift : ∀ {s : Sem Value}, (∃ V, s.run P w = .ok V w ∧ VR μ v V) → ∃ V, (do pure (Next.value (← s)) : Sem Next).run P w = .ok (.value V) w ∧ VR μ v V := by
    rintro s ⟨V, h1, h2⟩
    exact ⟨V, by simp [h1], h2⟩
  unfold quietB at hq
  simp only [hc] at hq
  generalize hts : c.argTypes.toList = l at hq hv
  unfold builtinA at hv
  split at hv
  · rename_i t ts' x
    simp only at hq
    obtain ⟨X, hA, hx⟩ := args_one ha
    have ets : c.argTypes = (t :: ts').toArray := by rw [← hts]
    have eA : A = #[X] := by rw [← Array.toArray_toList (xs := A), hA]
    subst eA
    rw [ets]
    obtain ⟨⟨e, z, zs⟩, he⟩ := Option.isSome_iff_exists.1 hq
    simp only [lenOpA, he] at hv
    obtain ⟨i, hd', hi, rfl, hz, hb, h0, hzl⟩ := elS_inv he
    cases hn : lenA i.size x with
    | none => simp [hn] at hv
    | some n =>
      simp [hn] at hv; obtain ⟨rfl, rfl⟩ := hv
      obtain ⟨_, a, c, rfl⟩ := lenA_sound (P := P) (w := w) hn hx
      refine lift ⟨.int .i64 n, ?_, .int _ _⟩
      have e0 : (t :: ts').toArray[0]? = some t := by simp
      simp [Builtin.len_, run_underlying' hd', goInt]
  · simp at hq
  · simp at hq
  · simp at hq
  · rename_i x xs
    obtain ⟨X, XS, hA, hx, hs⟩ := args_cons ha
    cases hr : minmax false x xs with
    | none => simp [hr] at hv
    | some r =>
      simp [hr] at hv; obtain ⟨rfl, rfl⟩ := hv
      obtain ⟨V, h1, h2⟩ := minmax_sound (P := P) (w := w) hr hx hs
      refine lift ⟨V, ?_, h2⟩
      simp only [Builtin.min_, hA]
      simpa using h1
  · rename_i x xs
    obtain ⟨X, XS, hA, hx, hs⟩ := args_cons ha
    cases hr : minmax true x xs with
    | none => simp [hr] at hv
    | some r =>
      simp [hr] at hv; obtain ⟨rfl, rfl⟩ := hv
      obtain ⟨V, h1, h2⟩ := minmax_sound (P := P) (w := w) hr hx hs
      refine lift ⟨V, ?_, h2⟩
      simp only [Builtin.max_, hA]
      simpa using h1
  · cases hv
end
end Go.AM
/-
  Maps that are made and written; literals; all operations that make or write memory.
-/
namespace Go.AM
section
variable {P : Program} {base : Nat} {μ μ' : Mu} {h : Heap} {w w' : World}
theorem run_setObj {r : Nat} {o o' : Obj} (ho : w.heap[r]? = some o) (hc : ∀ c e f, o ≠ .cells c e f) : (setObj r o').run P w = .ok () { w with heap := w.heap.setIfInBounds r o' } := by
  cases o <;> first | (exact absurd rfl (hc _ _ _)) | simp only [setObj, Sem.run, ho]
theorem setObj_facts {r : Nat} {o o' : Obj} (ho : w.heap[r]? = some o) : ({ w with heap := w.heap.setIfInBounds r o' } : World).heap[r]? = some o' ∧
    (∀ k, k ≠ r → ({ w with heap := w.heap.setIfInBounds r o' } : World).heap[k]? = w.heap[k]?) ∧ ({ w with heap := w.heap.setIfInBounds r o' } : World).heap.size = w.heap.size := by
  have hr : r < w.heap.size := by
    rcases Nat.lt_or_ge r w.heap.size with h | h
    · exact h
    · simp [Array.getElem?_eq_none h] at ho
  refine ⟨by simp [hr], fun k hk => ?_, by simp⟩
  simp only [Array.getElem?_setIfInBounds]
  rw [if_neg (fun e => hk e.symm)]
theorem findA_lt {kt : TypeId} {key : AVal} : ∀ {es : List (AVal × AVal)} {i : Nat}, findA P kt key es = some (some i) → i < es.length
  | [], i, h => by simp [findA] at h
  | (x, v) :: es, i, h => by
    simp only [findA] at h
    split at h
    · simp at h; subst h; simp
    · cases hf : findA P kt key es with
      | none => simp [hf] at h
      | some r =>
        cases r with
        | none => simp [hf] at h
        | some j => simp [hf] at h; subst h; have := findA_lt hf; simp; omega
    · cases h
theorem mapUpdateA_sound (H : HRel P μ h w) {t : TypeId} {m k x : AVal} {M K X : Value} {h' : Heap} (hv : mapUpdateA P base h t m k x = some h') (hm : VR μ m M) (hk : VR μ k K) (hx : VR μ x X) :
    ∃ w', (Instr.mapUpdate t M K X).run P w = .ok () w' ∧ HRel P μ h' w' ∧ Evo μ h w μ h' w' := by
  unfold mapUpdateA at hv
  split at hv
  · rename_i kt et r ht
    have hd := mpT_inv ht
    split at hv
    · rename_i es hr
      split at hv
      · rename_i hcond
        obtain ⟨hko, _⟩ := hcond
        cases hm with
        | map _ L hL =>
          obtain ⟨E, c, k1, k2, k3⟩ := H.blk r _ L hr hL
          subst k3
          obtain ⟨desc, hdesc⟩ := keyOk_underlying hko
          have hck := keyOk_sound (w := w) eqDepth 10000 false kt k K (by decide) hko hk
          split at hv
          · rename_i i hf
            split at hv
            · rename_i hkey
              simp at hv; subst hv
              have hfk := findKey_sound (w := w) hk k2 hdesc hf
              have hi := findA_lt hf
              have hiE : i < E.size := by rw [← k2.1]; exact hi
              have hEi : E[i]? = some E[i] := Array.getElem?_eq_getElem hiE
              obtain ⟨kx, hkx⟩ : ∃ p, es[i]? = some p := ⟨es[i], List.getElem?_eq_getElem hi⟩
              obtain ⟨k0, v0⟩ := kx
              rw [hkx] at hkey; simp at hkey; subst hkey
              obtain ⟨hk0, hv0, hb0⟩ := k2.2 i k0 v0 _ hkx hEi
              simp only [Option.bind_some, hEi, Option.map_some] at hfk
              -- whichever key stays stands for the key
              have stays : ∃ K' w1, (Instr.keyThatStays E[i].key K).run P w = .ok K' w1 ∧ VR μ k0 K' ∧ (w1 = w ∨ w1 = w.drew) := by
                unfold Instr.keyThatStays
                split
                · exact ⟨K, w, rfl, hk, .inl rfl⟩
                · simp only [Sem.run_bind, run_choose, Question.forced]
                  simp only [show (2 = 1) = False by simp, decide_false, Bool.false_eq_true, if_false, Result.andThen_ok, Sem.run_pure]
                  split
                  · exact ⟨K, _, rfl, hk, .inr rfl⟩
                  · exact ⟨E[i].key, _, rfl, hk0, .inr rfl⟩
              obtain ⟨K', w1, hst, hK', hw1⟩ := stays
              have hheap : w1.heap = w.heap := by rcases hw1 with rfl | rfl <;> rfl
              have ho1 : w1.heap[L.blk]? = some (.map E E.size) := by rw [hheap]; exact k1
              let E' := E.modify i fun e => { e with key := K', val := X }
              obtain ⟨f1, f2, f3⟩ := setObj_facts (o' := .map E' E.size) ho1
              refine ⟨{ w1 with heap := w1.heap.setIfInBounds L.blk (.map E' E.size) }, ?_, HRel.upd H hr hL rfl rfl ?_ ?_ ?_ ⟨E', E.size, f1, ⟨by simp [E', k2.1], ?_⟩, by simp [E']⟩⟩
              · simp only [Instr.mapUpdate, Sem.run_bind, run_underlying' hd, Result.andThen_ok, run_getObj k1 (by simp), hck, hfk, hEi, Option.map_some, Option.getD_some, hst]
                rw [run_setObj ho1 (by simp)]
              · rcases hw1 with rfl | rfl <;> exact ⟨rfl, rfl, rfl⟩
              · intro q hq; rw [f2 q hq, hheap]
              · rw [f3, hheap]
              · intro j kk vv e hj he
                simp only [E', Array.getElem?_modify] at he
                rw [List.getElem?_set] at hj
                by_cases hij : i = j
                · subst hij
                  rw [if_pos rfl, if_pos hi] at hj
                  rw [if_pos rfl, hEi] at he
                  simp at hj he
                  obtain ⟨rfl, rfl⟩ := hj
                  subst he
                  exact ⟨hK', hx, hb0⟩
                · rw [if_neg hij] at hj he
                  exact k2.2 j kk vv e hj he
            · cases hv
          · rename_i hf
            simp at hv; subst hv
            have hfk := findKey_sound (w := w) hk k2 hdesc hf
            simp only [Option.bind_none] at hfk
            let E' := E.push { key := K, val := X, born := E.size }
            obtain ⟨f1, f2, f3⟩ := setObj_facts (o' := .map E' (E.size + 1)) k1
            refine ⟨{ w with heap := w.heap.setIfInBounds L.blk (.map E' (E.size + 1)) }, ?_, HRel.upd H hr hL rfl rfl ⟨rfl, rfl, rfl⟩ f2 f3 ⟨E', E.size + 1, f1, ⟨by simp [E', k2.1], ?_⟩, by simp [E']⟩⟩
            · simp only [Instr.mapUpdate, Sem.run_bind, run_underlying' hd, Result.andThen_ok, run_getObj k1 (by simp), hck, hfk]
              rw [run_setObj k1 (by simp)]
            · intro j kk vv e hj he
              simp only [E', Array.getElem?_push] at he
              rcases Nat.lt_or_ge j es.length with hj' | hj'
              · rw [List.getElem?_append_left hj'] at hj
                rw [if_neg (by have := k2.1; omega)] at he
                exact k2.2 j kk vv e hj he
              · rw [List.getElem?_append_right hj'] at hj
                have hj0 : j = es.length := by
                  rcases Nat.eq_zero_or_pos (j - es.length) with h | h
                  · omega
                  · obtain ⟨q, hq⟩ : ∃ q, j - es.length = q + 1 := ⟨j - es.length - 1, by omega⟩
                    rw [hq] at hj; simp at hj
                subst hj0
                simp at hj
                rw [if_pos k2.1] at he
                simp at he
                obtain ⟨rfl, rfl⟩ := hj
                subst he
                exact ⟨hk, hx, k2.1.symm⟩
          · cases hv
      · cases hv
    · cases hv
  · cases hv
theorem anon_sound (H : HRel P μ h w) {C : Array Value} {e : TypeId} {cs : List AVal} (hr : VRs μ cs C.toList) (hbare : cs.all AVal.bare = true) :
    ∃ μ', μ.le μ' ∧ μ'.anon w.heap.size = some cs ∧ HRel P μ' h { w with heap := w.heap.push (.cells C e) } ∧ Evo μ h w μ' h { w with heap := w.heap.push (.cells C e) } ∧ Fresh base μ h μ' := by
  have h0 : μ.anon w.heap.size = .none := by
    cases hc : μ.anon w.heap.size with
    | none => rfl
    | some l =>
      obtain ⟨⟨C, e, fz, h1, _⟩, _⟩ := H.anon _ l hc
      simp at h1
  let μ' : Mu := { μ with anon := fun b => if b = w.heap.size then some cs else μ.anon b }
  have hle : μ.le μ' := ⟨fun _ _ _ hL => hL, fun b l hb => by
    simp only [μ']; split
    · rename_i hc; subst hc; rw [h0] at hb; cases hb
    · exact hb⟩
  have hw : ∀ k, k < w.heap.size → ({ w with heap := w.heap.push (.cells C e) } : World).heap[k]? = w.heap[k]? := fun k hk => by simp only [Array.getElem?_push]; rw [if_neg (by omega)]
  refine ⟨μ', hle, by simp [μ'], ⟨fun id v L hL => ?_, fun id b L hb hL => ?_, H.disj, H.cur, fun b l hb => ?_, fun b l hb => ?_⟩, ⟨by simp, rfl, rfl, rfl, fun b hb hn => ⟨hw b hb, hn⟩, fun b l hl => ?_⟩, fun id v L hL => .inl hL⟩
  · obtain ⟨b, h1, h2, h3⟩ := H.dom id v L hL
    exact ⟨b, h1, h2, by simp; omega⟩
  · obtain ⟨_, _, _, h3⟩ := H.dom id _ L hL
    exact (H.blk id b L hb hL).step hle (hw _ h3)
  · simp only [μ'] at hb
    split at hb
    · rename_i hc; subst hc; cases hb
      refine ⟨⟨C, e, (0, 0), by simp, hr.mono hle⟩, fun id k L hk hL hwr => ?_⟩
      obtain ⟨_, _, _, h3⟩ := H.dom id _ L hL; omega
    · obtain ⟨⟨C', e', fz, h1, h2⟩, h3⟩ := H.anon b l hb
      have hlt : b < w.heap.size := by
        rcases Nat.lt_or_ge b w.heap.size with hi | hi
        · exact hi
        · simp [Array.getElem?_eq_none hi] at h1
      exact ⟨⟨C', e', fz, (hw _ hlt).trans h1, h2.mono hle⟩, h3⟩
  · simp only [μ'] at hb
    split at hb
    · cases hb
      exact bare_refsL hbare
    · exact H.adom b l hb
  · simp only [μ'] at hl
    split at hl
    · exact .inr (by omega)
    · exact .inl hl
/-- **Every operation that makes or writes memory, but the calls.** -/
theorem memA_sound (H : HRel P μ h w) {fr : AFrame} {a : Act} (hf : ∀ t, VR μ (fr t) (a.tmps.getD t undef)) {lit : Bool} {o : Oper} {v : AVal} {h' : Heap} (hv : memA P base lit fr h o.op = some (v, h')) :
    ∃ r V w', (execOp a.eval o).run P w = .ok r w' ∧ (r = .value V ∨ (r = .skip ∧ V = undef)) ∧ Fine P base μ h w v h' V w' := by
  have E := fun x => ev_VR hf x
  have lift : ∀ {s : Sem Value}, (∃ V w', s.run P w = .ok V w' ∧ Fine P base μ h w v h' V w') → ∃ r V w', (do pure (Next.value (← s)) : Sem Next).run P w = .ok r w' ∧ (r = .value V ∨ (r = .skip ∧ V = undef)) ∧ Fine P base μ h w v h' V w' := by
    rintro s ⟨V, w', h1, h2⟩
    exact ⟨.value V, V, w', by simp [h1], .inl rfl, h2⟩
  have skip : ∀ {s : Sem Unit}, v = undefA → (∃ w', s.run P w = .ok () w' ∧ HRel P μ h' w' ∧ Evo μ h w μ h' w') → ∃ r V w', (do s; pure Next.skip : Sem Next).run P w = .ok r w' ∧ (r = .value V ∨ (r = .skip ∧ V = undef)) ∧ Fine P base μ h w v h' V w' := by
    rintro s rfl ⟨w', h1, h2, h3⟩
    exact ⟨.skip, undef, w', by simp [h1], .inr ⟨rfl, rfl⟩, μ, .rfl, VR_undef, h2, h3, .rfl⟩
  unfold execOp
  cases ho : o.op <;> rw [ho] at hv <;> simp only [memA] at hv ⊢ <;> (try cases hv)
  case alloc t =>
    cases hz : zc P t with
    | none => simp [hz] at hv
    | some z =>
      simp [hz] at hv; obtain ⟨rfl, rfl⟩ := hv
      exact lift (alloc_sound H hz)
  case box t x =>
    split at hv
    · cases hv
    · rename_i hn
      simp at hv; obtain ⟨rfl, rfl⟩ := hv
      exact lift (box_sound H (E x) hn)
  case buildSlice t n parts =>
    split at hv
    · rename_i e z cs hr
      obtain ⟨C, hrun, hvs, hlen, hz0, hsz⟩ := rowOf_sound (μ := μ) (PS := parts.map fun (i, x) => (i, a.eval x)) hr (by simp) (fun i p q x X hx hX => parts_VR hf parts.toList i p q x X hx (by simpa using hX))
      have hCs : C.size = n * z := by have := hvs.1; simp at this; omega
      split at hv
      · rename_i hn
        simp at hv; obtain ⟨rfl, rfl⟩ := hv
        subst hn
        have hw : ∀ k, k < w.heap.size → ({ w with heap := w.heap.push (.cells C e) } : World).heap[k]? = w.heap[k]? := fun k hk => by simp only [Array.getElem?_push]; rw [if_neg (by omega)]
        exact lift ⟨_, _, hrun w, μ, .rfl, .emp _, H.world hw (by simp), ⟨by simp, rfl, rfl, rfl, fun b hb hn => ⟨hw b hb, hn⟩, fun _ _ hl => .inl hl⟩, .rfl⟩
      · split at hv
        · rename_i hn hcond
          obtain ⟨hlit, rfl, hbare⟩ := hcond
          simp at hv; obtain ⟨rfl, rfl⟩ := hv
          obtain ⟨μ', a1, a2, a3, a4, a5⟩ := anon_sound H (e := e) hvs hbare
          refine lift ⟨_, _, hrun w, μ', a1, ?_, a3, a4, a5⟩
          have := VR.vals (μ := μ') w.heap.size cs a2
          rw [hlen, Nat.mul_one] at this
          exact this
        · rename_i hn _
          simp at hv; obtain ⟨rfl, rfl⟩ := hv
          obtain ⟨p1, p2, p3, p4⟩ := push_cells (P := P) (e := e) (T := e) (row := true) H (c := cs) (C := C) (w' := { w with heap := w.heap.push (.cells C e) }) ⟨rfl, rfl, rfl⟩ rfl (by omega) (fun i x y hx hy => hvs.2 i x y hx (by rw [Array.getElem?_toList]; exact hy)) _ rfl
          exact lift ⟨_, _, hrun w, _, p1, VR.row (r := ⟨h.length, 0, 0⟩) Mu.add_same rfl (by omega) (Nat.le_refl _) (Nat.le_refl _) (.inl rfl), p2, p3, p4⟩
    · cases hv
  case store t x y =>
    split at hv
    · rename_i r hr
      split at hv
      · rename_i ht
        cases hs : storeN base h r (ev fr y).cells with
        | none => simp [hs] at hv
        | some h'' =>
          simp [hs] at hv; obtain ⟨rfl, rfl⟩ := hv
          have hx := E x
          rw [hr] at hx
          generalize a.eval x = X at hx ⊢
          cases hx with
          | ptr _ L hL =>
            cases hty : tyA P t with
            | none => simp [hty] at ht
            | some q =>
              obtain ⟨d, i, hd, hi, rfl⟩ := tyA_inv hty
              simp [hty] at ht
              have hyn : ev fr y ≠ .none := by
                intro e0
                rw [e0] at hs
                obtain ⟨_, _, _, _, _, h2, _⟩ := storeN_inv hs
                simp [AVal.cells, AVal.scalar] at h2
              have hcells := (E y).cells hyn
              refine skip rfl ?_
              obtain ⟨w', s1, s2, s3⟩ := storeN_sound H hs hL hcells
              refine ⟨w', ?_, s2, s3⟩
              have hlen : (a.eval y).cells.size = i.size := by have := hcells.1; simp at this; omega
              simp only [Instr.storeAt, Instr.sureAddr, Sem.run_bind, Sem.run_pure, Result.andThen_ok, storeVar, run_sizeOf' hi]
              rw [if_neg (by simp [hlen])]
              exact s1
      · cases hv
    · cases hv
  case makeSlice t l c => exact lift (makeSliceA_sound H hv (E l) (E c))
  case makeMap t r =>
    cases r with
    | some r => simp at hv
    | none =>
      cases hm : mpT P t with
      | none => simp [hm] at hv
      | some q =>
        simp [hm] at hv; obtain ⟨rfl, rfl⟩ := hv
        refine lift ⟨.map (some w.heap.size), { w with heap := w.heap.push (.map #[] 0) }, by simp [Instr.makeMap], ?_⟩
        obtain ⟨p1, p2, p3, p4⟩ := HRel.push (P := P) (b := ⟨.map [], 0⟩) (w' := { w with heap := w.heap.push (.map #[] 0) }) (L := ⟨w.heap.size, 0, 0, 0⟩) H rfl ⟨rfl, rfl, rfl⟩
          (fun k hk => by simp only [Array.getElem?_push]; rw [if_neg (by omega)]) (Nat.le_refl _) (by simp) ⟨#[], 0, by simp, ⟨rfl, fun i k v e h => by simp at h⟩, rfl⟩
        exact ⟨_, p1, .map h.length ⟨w.heap.size, 0, 0, 0⟩ Mu.add_same, p2, p3, p4⟩
  case mapUpdate t m k x =>
    cases hu : mapUpdateA P base h t (ev fr m) (ev fr k) (ev fr x) with
    | none => simp [hu] at hv
    | some h'' =>
      simp [hu] at hv; obtain ⟨rfl, rfl⟩ := hv
      exact skip rfl (mapUpdateA_sound H hu (E m) (E k) (E x))
  case insert t m k x =>
    cases hu : mapUpdateA P base h t (ev fr m) (ev fr k) (ev fr x) with
    | none => simp [hu] at hv
    | some h'' =>
      simp [hu] at hv; obtain ⟨rfl, rfl⟩ := hv
      exact skip rfl (mapUpdateA_sound H hu (E m) (E k) (E x))
end
end Go.AM
/-
  What an activation does to what lay before it (in the abstract machine alone), and what is kept of what it made: the compaction is sound.
-/
namespace Go.AM
/-- A body's values are those that it had, or have no reference. -/
def SubB : ABody → ABody → Prop
  | .cells c _ _ _, .cells c' _ _ _ => ∀ x ∈ c', x.bare = true ∨ x ∈ c
  | .map es, .map es' => (∀ x ∈ es'.map (·.1), x.bare = true ∨ x ∈ es.map (·.1)) ∧ (∀ x ∈ es'.map (·.2), x.bare = true ∨ x ∈ es.map (·.2))
  | .loop L, .loop L' => L'.fr = L.fr
  | _, _ => False
theorem SubB.rfl : ∀ {b : ABody}, SubB b b
  | .cells _ _ _ _ => fun _ hx => .inr hx
  | .map _ => ⟨fun _ hx => .inr hx, fun _ hx => .inr hx⟩
  | .loop _ => _root_.rfl
theorem SubB.trans : ∀ {a b c : ABody}, SubB a b → SubB b c → SubB a c
  | .cells _ _ _ _, .cells _ _ _ _, .cells _ _ _ _, h, k => fun x hx => (k x hx).elim .inl (h x)
  | .map _, .map _, .map _, h, k => ⟨fun x hx => (k.1 x hx).elim .inl (h.1 x), fun x hx => (k.2 x hx).elim .inl (h.2 x)⟩
  | .loop _, .loop _, .loop _, h, k => Eq.trans k h
def Grow (base : Nat) (h h' : Heap) : Prop := h.length ≤ h'.length ∧ (∀ id, id < base → ∀ b', h'[id]? = some b' → ∃ b, h[id]? = some b ∧ SubB b.body b'.body ∧ b.ver ≤ b'.ver) ∧
  (∀ (id : Nat) b b', h[id]? = some b → h'[id]? = some b' → b.ver ≤ b'.ver) ∧ ∀ (id : Nat) b', h'[id]? = some b' → b'.body.wr = false → h[id]? = some b'
theorem Grow.rfl {base : Nat} {h : Heap} : Grow base h h := ⟨Nat.le_refl _, fun _ _ b hb => ⟨b, hb, .rfl, Nat.le_refl _⟩, fun id b b' hb hb' => by rw [hb] at hb'; cases hb'; exact Nat.le_refl _, fun _ _ h _ => h⟩
theorem Grow.trans {base : Nat} {a b c : Heap} (h : Grow base a b) (k : Grow base b c) : Grow base a c :=
  ⟨Nat.le_trans h.1 k.1, fun id hid x hx => by
    obtain ⟨y, hy, s1, v1⟩ := k.2.1 id hid x hx
    obtain ⟨z, hz, s2, v2⟩ := h.2.1 id hid y hy
    exact ⟨z, hz, s2.trans s1, Nat.le_trans v2 v1⟩, fun id x z hx hz => by
    have hlt : id < b.length := Nat.lt_of_lt_of_le (lt_of_get hx) h.1
    exact Nat.le_trans (h.2.2.1 id x _ hx (List.getElem?_eq_getElem hlt)) (k.2.2.1 id _ z (List.getElem?_eq_getElem hlt) hz), fun id x hx hw => h.2.2.2 id x (k.2.2.2 id x hx hw) hw⟩
theorem Grow.mono {base base' : Nat} {h h' : Heap} (hg : Grow base' h h') (hb : base ≤ base') : Grow base h h' := ⟨hg.1, fun id hid => hg.2.1 id (Nat.lt_of_lt_of_le hid hb), hg.2.2⟩
theorem Grow.app {base : Nat} {h t : Heap} (hb : base ≤ h.length) (ht : ∀ b ∈ t, b.body.wr = true) : Grow base h (h ++ t) := by
  refine ⟨by simp, fun id hid b' hb' => ⟨b', ?_, .rfl, Nat.le_refl _⟩, fun id b b' h1 h2 => ?_, fun id b h1 h2 => ?_⟩
  · rwa [List.getElem?_append_left (by omega)] at hb'
  · rw [List.getElem?_append_left (lt_of_get h1), h1] at h2
    cases h2; exact Nat.le_refl _
  · rcases Nat.lt_or_ge id h.length with hi | hi
    · rwa [List.getElem?_append_left hi] at h1
    · rw [List.getElem?_append_right hi] at h1
      rw [ht b (List.mem_of_getElem? h1)] at h2; cases h2
theorem Grow.push {base : Nat} {h : Heap} {b : ABlk} (hb : base ≤ h.length) (hw : b.body.wr = true := by rfl) : Grow base h (h ++ [b]) := .app hb (by simpa using hw)
theorem Grow.set {base id : Nat} {h : Heap} {b b' : ABlk} (hb : h[id]? = some b) (hs : id < base → SubB b.body b'.body) (hv : b.ver ≤ b'.ver) (hw : b'.body.wr = true := by rfl) : Grow base h (h.set id b') := by
  refine ⟨by simp, fun i hi c hc => ?_, fun i c d hc hd => ?_, fun i c hc hn => ?_⟩
  · rcases get_set_inv hc with ⟨rfl, rfl⟩ | ⟨hne, hc⟩
    · exact ⟨b, hb, hs hi, hv⟩
    · exact ⟨c, hc, .rfl, Nat.le_refl _⟩
  · rcases get_set_inv hd with ⟨rfl, rfl⟩ | ⟨hne, hd⟩
    · rw [hb] at hc; cases hc; exact hv
    · rw [hc] at hd; cases hd; exact Nat.le_refl _
  · rcases get_set_inv hc with ⟨rfl, rfl⟩ | ⟨hne, hc⟩
    · rw [hw] at hn; cases hn
    · exact hc
theorem splice_mem : ∀ (vs c : List AVal) (off : Nat) (x : AVal), x ∈ splice c off vs → x ∈ vs ∨ x ∈ c
  | [], c, off, x, h => .inr h
  | v :: vs, c, off, x, h => by
    simp only [splice] at h
    rcases splice_mem vs _ _ x h with h | h
    · exact .inl (by simp [h])
    · rcases List.mem_or_eq_of_mem_set h with h | h
      · exact .inr h
      · exact .inl (by simp [h])
theorem storeN_grow {base : Nat} {h h' : Heap} {r : ARef} {vs : List AVal} (hs : storeN base h r vs = some h') : Grow base h h' := by
  obtain ⟨c, e, row, hb, h1, h2, h3, rfl⟩ := storeN_inv hs
  refine Grow.set hb (fun hid => ?_) (Nat.le_refl _)
  rcases h3 with h3 | h3
  · omega
  · intro x hx
    rcases splice_mem _ _ _ _ hx with hx | hx
    · exact .inl (List.all_eq_true.1 h3 x hx)
    · exact .inr hx
section
variable {P : Program} {base : Nat} {h h' : Heap}
theorem appendA_grow (hb : base ≤ h.length) {t : TypeId} {s x v : AVal} (hv : appendA P base h t s x = some (v, h')) : Grow base h h' := by
  unfold appendA at hv
  split at hv
  · cases hv
  · split at hv
    · cases hv
    · split at hv
      · cases hv
      · split at hv
        · split at hv
          · split at hv
            · simp at hv; obtain ⟨_, rfl⟩ := hv; exact .rfl
            · split at hv
              · simp at hv; obtain ⟨_, rfl⟩ := hv; exact .push hb
              · cases hv
          · split at hv
            · simp at hv; obtain ⟨_, rfl⟩ := hv; exact .rfl
            · split at hv
              · simp at hv; obtain ⟨_, rfl⟩ := hv; exact .push hb
              · cases hv
          · split at hv
            · split at hv
              · rename_i h'' hst
                simp at hv; obtain ⟨_, rfl⟩ := hv; exact storeN_grow hst
              · cases hv
            · split at hv
              · rename_i c e2 ver hbk
                split at hv
                · rename_i hcond
                  obtain ⟨rfl, _, _, _, _, _, hbase⟩ := hcond
                  simp at hv; obtain ⟨_, rfl⟩ := hv
                  refine Grow.set hbk (fun hid => ?_) (Nat.le_succ _)
                  rcases hbase with h3 | h3
                  · omega
                  · intro y hy
                    rcases List.mem_append.1 hy with hy | hy
                    · exact .inr (List.mem_of_mem_take hy)
                    · exact .inl (List.all_eq_true.1 h3 y hy)
                · cases hv
              · cases hv
          · cases hv
        · cases hv
theorem builtinA_grow (hb : base ≤ h.length) {b : Builtin} {ts : List TypeId} {args : List AVal} {v : AVal} (hv : builtinA P base h b ts args = some (v, h')) : Grow base h h' := by
  unfold builtinA at hv
  split at hv
  · rename_i t _ x
    cases hr : lenOpA P h t x with
    | none => simp [hr] at hv
    | some r => simp [hr] at hv; obtain ⟨_, rfl⟩ := hv; exact .rfl
  · split at hv
    · cases hv
    · exact appendA_grow hb hv
  · unfold copyA at hv
    split at hv
    · split at hv
      · cases hv
      · split at hv
        · cases hv
        · split at hv
          · simp at hv; obtain ⟨_, rfl⟩ := hv; exact .rfl
          · split at hv
            · rename_i h'' hst
              simp at hv; obtain ⟨_, rfl⟩ := hv; exact storeN_grow hst
            · cases hv
    · cases hv
  · unfold clearA at hv
    split at hv
    · simp at hv; obtain ⟨_, rfl⟩ := hv; exact .rfl
    · simp at hv; obtain ⟨_, rfl⟩ := hv; exact .rfl
    · simp at hv; obtain ⟨_, rfl⟩ := hv; exact .rfl
    · split at hv
      · rename_i h'' hst
        simp at hv; obtain ⟨_, rfl⟩ := hv; exact storeN_grow hst
      · cases hv
    · cases hv
  · rename_i x xs
    cases hr : minmax false x xs with
    | none => simp [hr] at hv
    | some r => simp [hr] at hv; obtain ⟨_, rfl⟩ := hv; exact .rfl
  · rename_i x xs
    cases hr : minmax true x xs with
    | none => simp [hr] at hv
    | some r => simp [hr] at hv; obtain ⟨_, rfl⟩ := hv; exact .rfl
  · cases hv
theorem mapUpdateA_grow {t : TypeId} {m k x : AVal} (hv : mapUpdateA P base h t m k x = some h') : Grow base h h' := by
  unfold mapUpdateA at hv
  split at hv
  · split at hv
    · rename_i es hr
      split at hv
      · rename_i hcond
        obtain ⟨_, hbase⟩ := hcond
        split at hv
        · split at hv
          · simp at hv; subst hv
            refine Grow.set hr (fun hid => ?_) (Nat.le_refl _)
            rcases hbase with h3 | ⟨hk, hx⟩
            · omega
            · constructor
              · intro y hy
                obtain ⟨p, hp, rfl⟩ := List.mem_map.1 hy
                rcases List.mem_or_eq_of_mem_set hp with hp | rfl
                · exact .inr (List.mem_map.2 ⟨p, hp, rfl⟩)
                · exact .inl hk
              · intro y hy
                obtain ⟨p, hp, rfl⟩ := List.mem_map.1 hy
                rcases List.mem_or_eq_of_mem_set hp with hp | rfl
                · exact .inr (List.mem_map.2 ⟨p, hp, rfl⟩)
                · exact .inl hx
          · cases hv
        · simp at hv; subst hv
          refine Grow.set hr (fun hid => ?_) (Nat.le_refl _)
          rcases hbase with h3 | ⟨hk, hx⟩
          · omega
          · constructor
            · intro y hy
              simp only [List.map_append, List.map_cons, List.map_nil, List.mem_append, List.mem_singleton] at hy
              rcases hy with hy | rfl
              · exact .inr hy
              · exact .inl hk
            · intro y hy
              simp only [List.map_append, List.map_cons, List.map_nil, List.mem_append, List.mem_singleton] at hy
              rcases hy with hy | rfl
              · exact .inr hy
              · exact .inl hx
        · cases hv
      · cases hv
    · cases hv
  · cases hv
theorem memA_grow (hb : base ≤ h.length) {lit : Bool} {fr : AFrame} {o : Op} {v : AVal} (hv : memA P base lit fr h o = some (v, h')) : Grow base h h' := by
  cases o <;> simp only [memA] at hv <;> (first | (cases hv; done) | skip)
  case alloc t =>
    cases hz : zc P t with
    | none => simp [hz] at hv
    | some z => simp [hz] at hv; obtain ⟨_, rfl⟩ := hv; exact .push hb
  case box t x =>
    split at hv
    · cases hv
    · simp at hv; obtain ⟨_, rfl⟩ := hv; exact .push hb
  case buildSlice t n parts =>
    split at hv
    · split at hv
      · simp at hv; obtain ⟨_, rfl⟩ := hv; exact .rfl
      · split at hv
        · simp at hv; obtain ⟨_, rfl⟩ := hv; exact .rfl
        · simp at hv; obtain ⟨_, rfl⟩ := hv; exact .push hb
    · cases hv
  case store t x y =>
    split at hv
    · rename_i r hr
      split at hv
      · cases hs : storeN base h r (ev fr y).cells with
        | none => simp [hs] at hv
        | some h'' => simp [hs] at hv; obtain ⟨_, rfl⟩ := hv; exact storeN_grow hs
      · cases hv
    · cases hv
  case makeSlice t l c =>
    unfold makeSliceA at hv
    split at hv
    · split at hv
      · split at hv
        · simp at hv; obtain ⟨_, rfl⟩ := hv; exact .rfl
        · simp at hv; obtain ⟨_, rfl⟩ := hv; exact .push hb
      · cases hv
    · cases hv
  case makeMap t r =>
    cases r with
    | some r => simp at hv
    | none =>
      cases hm : mpT P t with
      | none => simp [hm] at hv
      | some q => simp [hm] at hv; obtain ⟨_, rfl⟩ := hv; exact .push hb
  case mapUpdate t m k x =>
    cases hu : mapUpdateA P base h t (ev fr m) (ev fr k) (ev fr x) with
    | none => simp [hu] at hv
    | some h'' => simp [hu] at hv; obtain ⟨_, rfl⟩ := hv; exact mapUpdateA_grow hu
  case insert t m k x =>
    cases hu : mapUpdateA P base h t (ev fr m) (ev fr k) (ev fr x) with
    | none => simp [hu] at hv
    | some h'' => simp [hu] at hv; obtain ⟨_, rfl⟩ := hv; exact mapUpdateA_grow hu
end
end Go.AM
/-
  What is kept of what a call has made: the compaction is sound.
-/
namespace Go.AM
theorem renL_length (f : Nat → Nat → Nat × Nat) : ∀ (l : List AVal), (renL f l).length = l.length
  | [] => rfl
  | x :: xs => by simp [renL, renL_length f xs]
theorem renL_get (f : Nat → Nat → Nat × Nat) : ∀ (l : List AVal) (i : Nat), (renL f l)[i]? = (l[i]?).map (·.ren f)
  | [], i => by simp [renL]
  | x :: xs, 0 => by simp [renL]
  | x :: xs, i + 1 => by simp [renL, renL_get f xs i]
section
variable {P : Program} {μ μ' : Mu} {h : Heap} {w : World}
/-- Values below the base stand as they stood. -/
theorem VR.keep {base : Nat} (hloc : ∀ id v L, id < base → μ.loc id v = some L → μ'.loc id v = some L) (hanon : ∀ b l, μ.anon b = some l → (∀ r ∈ refsL l, r.1 < base) → μ'.anon b = some l)
    {x : AVal} {X : Value} (hx : VR μ x X) (hr : ∀ r ∈ x.refs, r.1 < base) : VR μ' x X := by
  induction hx with
  | none v => exact .none v
  | bool b => exact .bool b
  | int k n => exact .int k n
  | str s => exact .str s
  | ptrN => exact .ptrN
  | ptr r L h => exact .ptr r L (hloc _ _ _ (hr (r.id, r.ver) (by simp [AVal.refs])) h)
  | sliceN => exact .sliceN
  | slice0 r a C => exact .slice0 r a C
  | slice r L n k C h hk hn hc hl => exact .slice r L n k C (hloc _ _ _ (hr (r.id, r.ver) (by simp [AVal.refs]; omega)) h) hk hn hc hl
  | emp a => exact .emp a
  | vals b l h => exact .vals b l (hanon b l h (by simpa [AVal.refs] using hr))
  | mapN => exact .mapN
  | map r L h => exact .map r L (hloc _ _ _ (hr (r, 0) (by simp [AVal.refs])) h)
  | fn f a b A B ha hb h1 h2 ih1 ih2 =>
    refine .fn f a b A B ha hb (fun i x y hx hy => ih1 i x y hx hy fun r hr' => hr r ?_) (fun i x y hx hy => ih2 i x y hx hy fun r hr' => hr r ?_)
    · simp only [AVal.refs, List.mem_append]; exact .inl (mem_refsL (List.mem_of_getElem? hx) hr')
    · simp only [AVal.refs, List.mem_append]; exact .inr (mem_refsL (List.mem_of_getElem? hx) hr')
  | yld l L h => exact .yld l L (hloc _ _ _ (hr (l, 0) (by simp [AVal.refs])) h)
  | nilFn => exact .nilFn
  | agg a A ha h1 ih => exact .agg a A ha fun i x y hx hy => ih i x y hx hy fun r hr' => hr r (by simp only [AVal.refs]; exact mem_refsL (List.mem_of_getElem? hx) hr')
  | tuple a A ha h1 ih => exact .tuple a A ha fun i x y hx hy => ih i x y hx hy fun r hr' => hr r (by simp only [AVal.refs]; exact mem_refsL (List.mem_of_getElem? hx) hr')
/-- Values whose references are renamed. -/
theorem VR.ren {f : Nat → Nat → Nat × Nat} {x : AVal} {X : Value} (hx : VR μ x X) (hr : ∀ r ∈ x.refs, ∀ L, μ.loc r.1 r.2 = some L → μ'.loc (f r.1 r.2).1 (f r.1 r.2).2 = some L) (h0 : ∀ id, (id, 0) ∈ x.refs → (f id 0).2 = 0) :
    VR μ' (x.ren f) X := by
  induction hx with
  | none v => exact .none v
  | bool b => exact .bool b
  | int k n => exact .int k n
  | str s => exact .str s
  | ptrN => exact .ptrN
  | ptr r L h => exact .ptr ⟨_, _, r.off⟩ L (hr (r.id, r.ver) (by simp [AVal.refs]) L h)
  | sliceN => exact .sliceN
  | slice0 r a C => exact .slice0 _ a C
  | slice r L n k C h hk hn hc hl => exact .slice ⟨_, _, r.off⟩ L n k C (hr (r.id, r.ver) (by simp [AVal.refs]; omega) L h) hk hn hc hl
  | emp a => exact .emp a
  | vals b l h => exact .none _
  | mapN => exact .mapN
  | map r L h =>
    have := hr (r, 0) (by simp [AVal.refs]) L h
    rw [h0 r (by simp [AVal.refs])] at this
    exact .map _ L this
  | fn f' a b A B ha hb h1 h2 ih1 ih2 =>
    refine .fn f' _ _ A B (by rw [renL_length]; exact ha) (by rw [renL_length]; exact hb) (fun i x y hx hy => ?_) (fun i x y hx hy => ?_)
    · rw [renL_get] at hx
      obtain ⟨x', hx', rfl⟩ := Option.map_eq_some_iff.1 hx
      have hm := List.mem_of_getElem? hx'
      exact ih1 i x' y hx' hy (fun r hr' => hr r (by simp only [AVal.refs, List.mem_append]; exact .inl (mem_refsL hm hr'))) (fun id hid => h0 id (by simp only [AVal.refs, List.mem_append]; exact .inl (mem_refsL hm hid)))
    · rw [renL_get] at hx
      obtain ⟨x', hx', rfl⟩ := Option.map_eq_some_iff.1 hx
      have hm := List.mem_of_getElem? hx'
      exact ih2 i x' y hx' hy (fun r hr' => hr r (by simp only [AVal.refs, List.mem_append]; exact .inr (mem_refsL hm hr'))) (fun id hid => h0 id (by simp only [AVal.refs, List.mem_append]; exact .inr (mem_refsL hm hid)))
  | yld l L h =>
    have := hr (l, 0) (by simp [AVal.refs]) L h
    rw [h0 l (by simp [AVal.refs])] at this
    exact .yld _ L this
  | nilFn => exact .nilFn
  | agg a A ha h1 ih =>
    refine .agg _ A (by rw [renL_length]; exact ha) fun i x y hx hy => ?_
    rw [renL_get] at hx
    obtain ⟨x', hx', rfl⟩ := Option.map_eq_some_iff.1 hx
    have hm := List.mem_of_getElem? hx'
    exact ih i x' y hx' hy (fun r hr' => hr r (by simp only [AVal.refs]; exact mem_refsL hm hr')) (fun id hid => h0 id (by simp only [AVal.refs]; exact mem_refsL hm hid))
  | tuple a A ha h1 ih =>
    refine .tuple _ A (by rw [renL_length]; exact ha) fun i x y hx hy => ?_
    rw [renL_get] at hx
    obtain ⟨x', hx', rfl⟩ := Option.map_eq_some_iff.1 hx
    have hm := List.mem_of_getElem? hx'
    exact ih i x' y hx' hy (fun r hr' => hr r (by simp only [AVal.refs]; exact mem_refsL hm hr')) (fun id hid => h0 id (by simp only [AVal.refs]; exact mem_refsL hm hid))
theorem idxOf_get {l : List Nat} {i : Nat} (hi : i ∈ l) : l[l.idxOf i]? = some i := by
  have hlt := List.idxOf_lt_length_of_mem hi
  rw [List.getElem?_eq_getElem hlt, List.getElem_idxOf]
theorem compact_sound {base' : Nat} {μ0 μ1 : Mu} {h0 h1 h2 : Heap} {w0 w1 : World} (H0 : HRel P μ0 h0 w0) (H1 : HRel P μ1 h1 w1) (hle : μ0.le μ1) (hev : Evo μ0 h0 w0 μ1 h1 w1) (hfr : Fresh h0.length μ0 h0 μ1)
    (hg : Grow h0.length h0 h1) {v v' : AVal} {V : Value} (hv : VR μ1 v V) {ids : List Nat} (hc : compactBy ids h0.length v h1 = some (v', h2)) : Fine P base' μ0 h0 w0 v' h2 V w1 := by
  unfold compactBy at hc
  split at hc
  · rename_i hcond
    obtain ⟨c1, c2, c3, c4⟩ := hcond
    simp at hc
    obtain ⟨rfl, rfl⟩ := hc
    -- what is kept
    have kept : ∀ i ∈ ids, h0.length ≤ i ∧ ∃ b, h1[i]? = some b ∧ b.body.isLoop = false ∧ ∀ r ∈ b.body.refs, keptRef h1 h0.length ids r = true := by
      intro i hi
      have := List.all_eq_true.1 c4 i hi
      simp only [Bool.and_eq_true, decide_eq_true_eq] at this
      obtain ⟨k1, k2⟩ := this
      split at k2
      · rename_i b hb
        simp at k2
        exact ⟨k1, b, hb, k2.1, fun r hr => k2.2 _ _ hr⟩
      · cases k2
    let ver : Nat → Nat := fun i => match h1[i]? with | some b => b.ver | .none => 0
    let μ2 : Mu := { loc := fun id v => if id < h0.length then μ1.loc id v else match ids[id - h0.length]? with | some i => if v = 0 then μ1.loc i (ver i) else .none | .none => .none,
                     anon := μ1.anon }
    let blkOf : Nat → ABlk := fun i => match h1[i]? with | some b => ⟨b.body.ren (newId h0.length ids), 0⟩ | .none => ⟨.map [], 0⟩
    show Fine P base' μ0 h0 w0 _ (h1.take h0.length ++ ids.map blkOf) V w1
    have hlen : (h1.take h0.length).length = h0.length := by simp; omega
    have get_lo : ∀ {i : Nat}, i < h0.length → (h1.take h0.length ++ ids.map blkOf)[i]? = h1[i]? := by
      intro i hi
      rw [List.getElem?_append_left (by omega), List.getElem?_take, if_pos hi]
    have get_hi : ∀ {i : Nat} {b : ABlk}, h0.length ≤ i → (h1.take h0.length ++ ids.map blkOf)[i]? = some b → ∃ j c, ids[i - h0.length]? = some j ∧ h1[j]? = some c ∧ c.body.isLoop = false ∧ (∀ r ∈ c.body.refs, keptRef h1 h0.length ids r = true) ∧ h0.length ≤ j ∧ b = ⟨c.body.ren (newId h0.length ids), 0⟩ := by
      intro i b hi hb
      rw [List.getElem?_append_right (by omega), hlen, List.getElem?_map] at hb
      obtain ⟨j, hj, rfl⟩ := Option.map_eq_some_iff.1 hb
      obtain ⟨k1, c, hc, k2, k3⟩ := kept j (List.mem_of_getElem? hj)
      exact ⟨j, c, hj, hc, k2, k3, k1, by simp [blkOf, hc]⟩
    have loc_lo : ∀ {id v : Nat}, id < h0.length → μ2.loc id v = μ1.loc id v := by intro id v hid; simp [μ2, hid]
    have loc_hi : ∀ {id j : Nat} {c : ABlk}, h0.length ≤ id → ids[id - h0.length]? = some j → h1[j]? = some c → μ2.loc id 0 = μ1.loc j c.ver := by
      intro id j c hid hj hc
      simp only [μ2]
      rw [if_neg (by omega), hj]
      simp [ver, hc]
    -- a reference that is kept
    have refOk : ∀ r, keptRef h1 h0.length ids r = true → ∀ L, μ1.loc r.1 r.2 = some L → μ2.loc (newId h0.length ids r.1 r.2).1 (newId h0.length ids r.1 r.2).2 = some L := by
      intro r hr L hL
      simp only [keptRef, Bool.or_eq_true, decide_eq_true_eq, Bool.and_eq_true, beq_iff_eq, List.contains_iff_mem] at hr
      unfold newId
      by_cases hid : r.1 < h0.length
      · rw [if_pos hid]; rw [loc_lo hid]; exact hL
      · rw [if_neg hid]
        rcases hr with hr | ⟨h1', h2'⟩
        · exact absurd hr hid
        · obtain ⟨c, hc, hcv⟩ := Option.map_eq_some_iff.1 h2'
          rw [loc_hi (j := r.1) (c := c) (by omega) (by rw [Nat.add_sub_cancel_left]; exact idxOf_get h1') hc, hcv]
          exact hL
    have ver0 : ∀ id, (newId h0.length ids id 0).2 = 0 := by intro id; unfold newId; split <;> rfl
    have anonOk : ∀ b l, μ1.anon b = some l → (∀ r ∈ refsL l, r.1 < h0.length) → μ2.anon b = some l := fun b l hb _ => hb
    have valOk : ∀ {x : AVal} {X : Value}, VR μ1 x X → (∀ r ∈ x.refs, keptRef h1 h0.length ids r = true) → VR μ2 (x.ren (newId h0.length ids)) X :=
      fun hx hr => hx.ren (fun r hr' L hL => refOk r (hr r hr') L hL) (fun id _ => ver0 id)
    have oldOk : ∀ {x : AVal} {X : Value}, VR μ1 x X → (∀ r ∈ x.refs, r.1 < h0.length) → VR μ2 x X :=
      fun hx hr => hx.keep (fun id v L hid hL => by rw [loc_lo hid]; exact hL) anonOk hr
    have lt0 : ∀ {r : Nat × Nat}, (∃ L, μ0.loc r.1 r.2 = some L) → r.1 < h0.length := by
      rintro r ⟨L, hL⟩
      obtain ⟨b, hb, _⟩ := H0.dom _ _ L hL
      exact lt_of_get hb
    have bareOk : ∀ {x : AVal}, x.bare = true → ∀ r ∈ x.refs, r.1 < h0.length := by
      intro x hx r hr; rw [bare_refs hx] at hr; cases hr
    -- a block below the base that has a place had one before
    have was : ∀ {id : Nat} {b1 : ABlk} {L : Loc}, id < h0.length → h1[id]? = some b1 → μ1.loc id b1.ver = some L → ∃ b, h0[id]? = some b ∧ SubB b.body b1.body ∧ ∃ M, μ0.loc id b.ver = some M := by
      intro id b1 L hid hb1 hL
      obtain ⟨b, hb, hs, _⟩ := hg.2.1 id hid b1 hb1
      refine ⟨b, hb, hs, ?_⟩
      rcases hfr id _ L hL with h | h | ⟨b', hb', _, h⟩
      · exact H0.cur id _ L b h hb
      · omega
      · rw [hb] at hb'; cases hb'
        rcases h with h | h
        · omega
        · exact h
    have refs0 : ∀ {x : AVal} {X : Value}, VR μ0 x X → ∀ r ∈ x.refs, r.1 < h0.length := fun hx r hr => lt0 (hx.refs_dom H0.adom r hr)
    have blkLo : ∀ {id : Nat} {b1 : ABlk} {L : Loc}, id < h0.length → h1[id]? = some b1 → μ1.loc id b1.ver = some L → BR P μ2 b1.body L w1 := by
      intro id b1 L hid hb1 hL
      obtain ⟨b, hb, hs, M, hM⟩ := was hid hb1 hL
      have B0 := H0.blk id b M hb hM
      have B1 := H1.blk id b1 L hb1 hL
      cases hbody : b.body <;> cases hbody1 : b1.body <;> rw [hbody, hbody1] at hs <;> (first | (exact hs.elim) | skip) <;> rw [hbody] at B0 <;> rw [hbody1] at B1
      · obtain ⟨C0, T0, fz0, a1, a2, a3, a4, _, _⟩ := B0
        obtain ⟨C, T, fz, k1, k2, k3, k4, k5, k6⟩ := B1
        refine ⟨C, T, fz, k1, k2, k3, fun i x y hx hy => oldOk (k4 i x y hx hy) ?_, k5, k6⟩
        rcases hs x (List.mem_of_getElem? hx) with hb' | hm
        · exact bareOk hb'
        · obtain ⟨j, hj, rfl⟩ := List.mem_iff_getElem.1 hm
          exact refs0 (a4 j _ C0[M.base + j] (List.getElem?_eq_getElem hj) (Array.getElem?_eq_getElem (by omega)))
      · obtain ⟨E0, cl0, a1, a2, _⟩ := B0
        obtain ⟨E, cl, k1, k2, k3⟩ := B1
        refine ⟨E, cl, k1, ⟨k2.1, fun i k v e hk he => ?_⟩, k3⟩
        obtain ⟨q1, q2, q3⟩ := k2.2 i k v e hk he
        have hm := List.mem_of_getElem? hk
        refine ⟨oldOk q1 ?_, oldOk q2 ?_, q3⟩
        · rcases hs.1 k (List.mem_map.2 ⟨_, hm, rfl⟩) with hb' | hm'
          · exact bareOk hb'
          · obtain ⟨p, hp, rfl⟩ := List.mem_map.1 hm'
            obtain ⟨j, hj, rfl⟩ := List.mem_iff_getElem.1 hp
            exact refs0 (a2.2 j _ _ _ (List.getElem?_eq_getElem hj) (Array.getElem?_eq_getElem (a2.1 ▸ hj))).1
        · rcases hs.2 v (List.mem_map.2 ⟨_, hm, rfl⟩) with hb' | hm'
          · exact bareOk hb'
          · obtain ⟨p, hp, rfl⟩ := List.mem_map.1 hm'
            obtain ⟨j, hj, rfl⟩ := List.mem_iff_getElem.1 hp
            exact refs0 (a2.2 j _ _ _ (List.getElem?_eq_getElem hj) (Array.getElem?_eq_getElem (a2.1 ▸ hj))).2.1
      · obtain ⟨l0, a1, a2, a3, a4, a5, a6, a7, _⟩ := B0
        obtain ⟨l, k1, k2, k3, k4, k5, k6, k7, k8⟩ := B1
        have hs' : _ = _ := hs
        exact ⟨l, k1, k2, k3, k4, k5, k6, fun t => oldOk (k7 t) (by rw [hs']; exact refs0 (a7 t)), k8⟩
    have blkHi : ∀ {j : Nat} {c : ABlk} {L : Loc}, h1[j]? = some c → c.body.isLoop = false → (∀ r ∈ c.body.refs, keptRef h1 h0.length ids r = true) → μ1.loc j c.ver = some L → BR P μ2 (c.body.ren (newId h0.length ids)) L w1 := by
      intro j c L hc hl hr hL
      have B1 := H1.blk j c L hc hL
      cases hbody : c.body <;> rw [hbody] at B1 hr hl
      · obtain ⟨C, T, fz, k1, k2, k3, k4, k5, k6⟩ := B1
        refine ⟨C, T, fz, k1, by rw [renL_length]; exact k2, k3, fun i x y hx hy => ?_, k5, k6⟩
        rw [renL_get] at hx
        obtain ⟨x', hx', rfl⟩ := Option.map_eq_some_iff.1 hx
        exact valOk (k4 i x' y hx' hy) fun r hr' => hr r (by simp only [ABody.refs]; exact mem_refsL (List.mem_of_getElem? hx') hr')
      · obtain ⟨E, cl, k1, k2, k3⟩ := B1
        refine ⟨E, cl, k1, ⟨by simp [k2.1], fun i k v e hk he => ?_⟩, k3⟩
        simp only [List.getElem?_map] at hk
        obtain ⟨⟨k', v'⟩, hk', hkv⟩ := Option.map_eq_some_iff.1 hk
        simp at hkv
        obtain ⟨rfl, rfl⟩ := hkv
        obtain ⟨q1, q2, q3⟩ := k2.2 i k' v' e hk' he
        have hm := List.mem_of_getElem? hk'
        exact ⟨valOk q1 fun r hr' => hr r (by simp only [ABody.refs, List.mem_append]; exact .inl (mem_refsL (List.mem_map.2 ⟨_, hm, rfl⟩) hr')),
          valOk q2 fun r hr' => hr r (by simp only [ABody.refs, List.mem_append]; exact .inr (mem_refsL (List.mem_map.2 ⟨_, hm, rfl⟩) hr')), q3⟩
      · simp [ABody.isLoop] at hl
    have wrRen : ∀ (b : ABody), (b.ren (newId h0.length ids)).wr = b.wr := by intro b; cases b <;> rfl
    -- each block of the new heap, and the old one that it is
    have orig : ∀ {i : Nat} {b : ABlk} {L : Loc}, (h1.take h0.length ++ ids.map blkOf)[i]? = some b → μ2.loc i b.ver = some L →
        ∃ j c, h1[j]? = some c ∧ μ1.loc j c.ver = some L ∧ c.body.wr = b.body.wr ∧ BR P μ2 b.body L w1 ∧ ((i < h0.length ∧ j = i) ∨ (h0.length ≤ i ∧ h0.length ≤ j ∧ ids[i - h0.length]? = some j)) := by
      intro i b L hb hL
      rcases Nat.lt_or_ge i h0.length with hi | hi
      · rw [get_lo hi] at hb
        rw [loc_lo hi] at hL
        exact ⟨i, b, hb, hL, rfl, blkLo hi hb hL, .inl ⟨hi, rfl⟩⟩
      · obtain ⟨j, c, hj, hc, k1, k2, k3, rfl⟩ := get_hi hi hb
        simp only at hL
        rw [loc_hi hi hj hc] at hL
        exact ⟨j, c, hc, hL, (wrRen _).symm, blkHi hc k1 k2 hL, .inr ⟨hi, k3, hj⟩⟩
    refine ⟨μ2, ⟨fun id v L hL => ?_, fun b l hb => ?_⟩, valOk hv (fun r hr => List.all_eq_true.1 c1 r hr), ⟨fun id v L hL => ?_, fun id b L hb hL => ?_, fun i j b c L M hij hb hc hL hM hwr => ?_, fun id v L b hL hb => ?_, fun b l hb => ?_, fun b l hb => ?_⟩, ⟨hev.size, hev.os, hev.tape, hev.output, fun b hb hn => ?_, fun b l hl => hev.anew b l hl⟩, fun id v L hL => ?_⟩
    · have := lt0 (r := (id, v)) ⟨L, hL⟩
      rw [loc_lo this]; exact hle.loc _ _ _ hL
    · exact hle.anon _ _ hb
    · rcases Nat.lt_or_ge id h0.length with hi | hi
      · rw [loc_lo hi] at hL
        obtain ⟨b, h1', h2', h3'⟩ := H1.dom id v L hL
        exact ⟨b, by rw [get_lo hi]; exact h1', h2', h3'⟩
      · simp only [μ2] at hL
        rw [if_neg (by omega)] at hL
        split at hL
        · rename_i j hj
          split at hL
          · rename_i hv0
            obtain ⟨_, _, _, h3'⟩ := H1.dom j _ L hL
            exact ⟨blkOf j, by rw [List.getElem?_append_right (by omega), hlen, List.getElem?_map, hj]; rfl, by omega, h3'⟩
          · cases hL
        · cases hL
    · obtain ⟨_, _, _, _, _, hbr, _⟩ := orig hb hL
      exact hbr
    · obtain ⟨i', b', hb', hL', hw', _, hi'⟩ := orig hb hL
      obtain ⟨j', c', hc', hM', _, _, hj'⟩ := orig hc hM
      refine H1.disj i' j' b' c' L M ?_ hb' hc' hL' hM' (by rw [hw']; exact hwr)
      rcases hi' with ⟨a1, rfl⟩ | ⟨a1, a2, a3⟩ <;> rcases hj' with ⟨b1, rfl⟩ | ⟨b1, b2, b3⟩
      · exact hij
      · omega
      · omega
      · intro e
        subst e
        have := (List.getElem?_inj (List.getElem?_eq_some_iff.1 a3).1 c3).1 (a3.trans b3.symm)
        omega
    · rcases Nat.lt_or_ge id h0.length with hi | hi
      · rw [get_lo hi] at hb
        rw [loc_lo hi] at hL
        obtain ⟨M, hM⟩ := H1.cur id v L b hL hb
        exact ⟨M, by rw [loc_lo hi]; exact hM⟩
      · obtain ⟨j, c, hj, hc, _, _, _, rfl⟩ := get_hi hi hb
        simp only [μ2] at hL
        rw [if_neg (by omega), hj] at hL
        simp only at hL
        split at hL
        · rename_i hv0; subst hv0
          exact ⟨L, by simp only [μ2]; rw [if_neg (by omega), hj]; simp [hL]⟩
        · cases hL
    · obtain ⟨⟨C, e, fz, h1', h2'⟩, h3'⟩ := H1.anon b l hb
      refine ⟨⟨C, e, fz, h1', h2'.1, fun i x y hx hy => oldOk (h2'.2 i x y hx hy) fun r hr => ?_⟩, fun id k L hk hL hwr => ?_⟩
      · have := mem_refsL (List.mem_of_getElem? hx) hr
        rw [H1.adom b l hb] at this; cases this
      · obtain ⟨j', c', hc', hM', hw', _, _⟩ := orig hk hL
        exact h3' j' c' L hc' hM' (by rw [hw']; exact hwr)
    · exact H1.adom b l hb
    · obtain ⟨e1, e2⟩ := hev.keep b hb hn
      refine ⟨e1, ?_⟩
      rintro ⟨id, k, L, hk, hL, hwr, rfl⟩
      obtain ⟨j', c', hc', hM', hw', _, _⟩ := orig hk hL
      exact e2 ⟨j', c', L, hc', hM', by rw [hw']; exact hwr, rfl⟩
    · rcases Nat.lt_or_ge id h0.length with hi | hi
      · rw [loc_lo hi] at hL
        rcases hfr id v L hL with h | h | ⟨b', hb', hlt, h⟩
        · exact .inl h
        · omega
        · rcases h with h | h
          · omega
          · exact .inr (.inr ⟨b', hb', hlt, .inr h⟩)
      · exact .inr (.inl hi)
  · cases hc
end
end Go.AM
