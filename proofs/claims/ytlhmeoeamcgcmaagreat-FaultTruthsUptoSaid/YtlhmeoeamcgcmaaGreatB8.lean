/-
  Arguments that came in, slices of structs that hold slices among them: rows of memory whose cells stand for each other.
-/
import Derived.Test.YtlhmeoeamcgcmaaGreatB1
import Derived.Test.YtlhmeoeamcgcmaaGreatA8
import Derived.Test.YtlhmeoeamcgcmaaGreatG0
set_option linter.unusedSimpArgs false
set_option linter.unusedVariables false
namespace Go.AM
open Go.Proofs.Tryz Go.RowKit Go.ChangeShapes Go.WideShapes Go.ChangeAt
open Go.Proofs.YtlhmeoeamcgcmaaGreat (Rows.uptoSmall Rows.uptoBulkAll Rows.uptoBulk)
set_option maxRecDepth 100000
def Rw.okG (μ : Mu) (w : World) (r : Rw) : Prop := ∃ (C : Array Value) (T : TypeId) (fz : Nat × Nat), w.heap[r.blk]? = some (.cells C T fz) ∧ r.off + r.cs.length ≤ C.size ∧
  ∀ (i : Nat) (x : AVal) (y : Value), r.cs[i]? = some x → C[r.off + i]? = some y → VR μ x y
theorem Rw.okG.mono {μ ν : Mu} {w : World} {r : Rw} (h : r.okG μ w) (m : μ.le ν) : r.okG ν w := by
  obtain ⟨C, T, fz, h1, h2, h3⟩ := h
  exact ⟨C, T, fz, h1, h2, fun i x y a b => (h3 i x y a b).mono m⟩
/-- All rows stand. -/
def RsOk (w : World) (R : List Rw) : Prop := ∀ r ∈ R, r.okG (muR R) w
theorem muR_app {R S : List Rw} : (muR R).le (muR (R ++ S)) := ⟨fun id v L h => by
  obtain ⟨rfl, r, hr, rfl⟩ := muR_inv h
  exact muR_loc (by rw [List.getElem?_append_left (List.getElem?_eq_some_iff.1 hr).1]; exact hr), fun b l h => by cases h⟩
theorem RsOk.snoc {w : World} {R : List Rw} {r : Rw} (hR : RsOk w R) (hr : r.okG (muR R) w) : RsOk w (R ++ [r]) := fun x hx => by
  rcases List.mem_append.1 hx with h | h
  · exact (hR x h).mono muR_app
  · rw [List.mem_singleton] at h; subst h; exact hr.mono muR_app
theorem heapR_ext {R S : List Rw} : Ext (heapR R) (heapR (R ++ S)) := ⟨heapR S, by simp [heapR]⟩
theorem hrelG {P : Program} {R : List Rw} {w : World} (hR : RsOk w R) : HRel P (muR R) (heapR R) w := by
  refine ⟨fun id v L h => ?_, fun id b L hb h => ?_, fun i j b c L M hij hb hc hL hM hwr => ?_, fun id v L b h hb => ?_, fun b l h => ?_, fun b l h => ?_⟩
  · obtain ⟨rfl, r, hr, rfl⟩ := muR_inv h
    obtain ⟨C, T, fz, h1, _⟩ := hR r (List.mem_of_getElem? hr)
    refine ⟨_, heapR_get hr, Nat.zero_le _, ?_⟩
    exact (Array.getElem?_eq_some_iff.1 h1).1
  · obtain ⟨hv, r, hr, rfl⟩ := muR_inv h
    rw [heapR_get hr] at hb
    cases hb
    obtain ⟨C, T, fz, h1, h2, h3⟩ := hR r (List.mem_of_getElem? hr)
    exact ⟨C, T, fz, h1, Nat.le_refl _, h2, fun i x y hx hy => h3 i x y hx hy, rfl, fun h => by cases h⟩
  · obtain ⟨_, r, hr, rfl⟩ := muR_inv hL
    rw [heapR_get hr] at hb
    cases hb
    cases hwr
  · obtain ⟨rfl, r, hr, rfl⟩ := muR_inv h
    rw [heapR_get hr] at hb
    cases hb
    exact ⟨_, muR_loc hr⟩
  · cases h
  · cases h
theorem calls_trueG {f : FuncId} {args : List AVal} {A : Array Value} {R : List Rw} {W : World} {h' : Heap} (hR : RsOk W R) (hargs : VRs (muR R) args A.toList) (hv : callL prog raw 0 (.fn f [] []) args (heapR R) = some (.bool true, h')) :
    Calls prog f A W fun e W' => e = .returned (.bool true) ∧ Below W.heap.size W W' := by
  have h0 := callL_sound (raw := raw) allOk (Nat.zero_le _) (hrelG (P := prog) hR) hargs hv
  refine (callsIn_wide.1 h0).mono fun e W' ⟨X, he, μ', _, hX, _, hE, _⟩ => ?_
  have : X = .bool true := by cases hX; rfl
  subst this
  exact ⟨he, below_of_evo hE⟩
/-- What came in can be opened behind any rows: cells, and what holds of them. -/
def Opens (W : World) (cs : List Value) (Q : Heap → List AVal → Prop) : Prop := ∀ R, RsOk W R → ∃ S vs, RsOk W (R ++ S) ∧ VRs (muR (R ++ S)) vs cs ∧ Q (heapR (R ++ S)) vs
/-- .. one value. -/
def OpensV (W : World) (V : Value) (Q : Heap → AVal → Prop) : Prop := ∀ R, RsOk W R → ∃ S v, RsOk W (R ++ S) ∧ VR (muR (R ++ S)) v V ∧ Q (heapR (R ++ S)) v
theorem Opens.mono {W : World} {cs : List Value} {Q T : Heap → List AVal → Prop} (h : Opens W cs Q) (m : ∀ H vs, Q H vs → T H vs) : Opens W cs T := fun R hR => by
  obtain ⟨S, vs, a, b, c⟩ := h R hR
  exact ⟨S, vs, a, b, m _ _ c⟩
theorem OpensV.mono {W : World} {V : Value} {Q T : Heap → AVal → Prop} (h : OpensV W V Q) (m : ∀ H v, Q H v → T H v) : OpensV W V T := fun R hR => by
  obtain ⟨S, v, a, b, c⟩ := h R hR
  exact ⟨S, v, a, b, m _ _ c⟩
theorem opens_nil {W : World} : Opens W [] (fun _ vs => vs = []) := fun R hR => ⟨[], [], by simpa using hR, .nil, rfl⟩
theorem opens_cons {W : World} {V : Value} {cs : List Value} {Q : Heap → AVal → Prop} {T : Heap → List AVal → Prop} (h : OpensV W V Q) (k : Opens W cs T) (m : ∀ G H v, Q G v → Ext G H → Q H v) :
    Opens W (V :: cs) (fun H vs => ∃ v us, vs = v :: us ∧ Q H v ∧ T H us) := fun R hR => by
  obtain ⟨S1, v, a1, b1, c1⟩ := h R hR
  obtain ⟨S2, us, a2, b2, c2⟩ := k (R ++ S1) a1
  refine ⟨S1 ++ S2, v :: us, by simpa using a2, ?_, v, us, rfl, ?_, ?_⟩
  · rw [← List.append_assoc]; exact .cons (b1.mono muR_app) b2
  · rw [← List.append_assoc]; exact m _ _ _ c1 heapR_ext
  · rw [← List.append_assoc]; exact c2
theorem opens_int {W : World} {k : IntKind} {n : Int} : OpensV W (.int k n) (fun _ v => v = .int k n) := fun R hR => ⟨[], .int k n, by simpa using hR, .int k n, rfl⟩
theorem opens_bool {W : World} {b : Bool} : OpensV W (.bool b) (fun _ v => v = .bool b) := fun R hR => ⟨[], .bool b, by simpa using hR, .bool b, rfl⟩
theorem Opens.agg {W : World} {A : Array Value} {Q : Heap → List AVal → Prop} (h : Opens W A.toList Q) : OpensV W (.agg A) (fun H v => ∃ vs, v = .agg vs ∧ Q H vs) := fun R hR => by
  obtain ⟨S, vs, a, b, c⟩ := h R hR
  exact ⟨S, .agg vs, a, b.agg, vs, rfl, c⟩
/-! ### Bulk -/
theorem bulk_one {H : Type} (d : DataW H) : 1 ≤ Rows.uptoBulk d := by
  cases d with
  | lit l => cases l <;> simp [Rows.uptoBulk]
  | _ => simp [Rows.uptoBulk]
theorem bulk_mem {H : Type} : ∀ {l : List (DataW H)} {d : DataW H}, d ∈ l → Rows.uptoBulk d ≤ Rows.uptoBulkAll l
  | x :: l, d, h => by
    rw [Rows.uptoBulkAll]
    rcases List.mem_cons.1 h with rfl | h
    · omega
    · have := bulk_mem h; omega
theorem bulk_len {H : Type} : ∀ (l : List (DataW H)), l.length ≤ Rows.uptoBulkAll l
  | [] => by simp
  | x :: l => by
    have := bulk_len l
    have := bulk_one x
    rw [Rows.uptoBulkAll, List.length_cons]; omega
theorem bulk_agg {H : Type} {l : List (DataW H)} {d : DataW H} (h : d ∈ l) : Rows.uptoBulk d ≤ Rows.uptoBulk (.agg l) := by
  have := bulk_mem h
  rw [Rows.uptoBulk]; omega
/-! ### Slices -/
theorem cell_block {W : World} {a : Addr} {v : Value} (h : W.cell? a = some v) : ∃ C T fz, W.heap[a.block]? = some (.cells C T fz) ∧ a.spot = none ∧ C[a.off]? = some v := by
  unfold World.cell? at h
  cases hb : W.heap[a.block]? with
  | none => rw [hb] at h; cases h
  | some o =>
    rw [hb] at h
    cases o with
    | cells C T fz =>
      simp only at h
      split at h
      · cases h
      · rename_i hs
        exact ⟨C, T, fz, rfl, by cases h2 : a.spot <;> simp_all, h⟩
    | _ => cases h
theorem cells_len {W : World} {a : Addr} {n : Nat} {cs : List Value} (h : W.cells? 0 a n = some cs) : cs.length = n := by
  unfold World.cells? at h
  rw [if_pos (Nat.zero_le _)] at h
  have := mapM_some_length h
  simpa using this
theorem cells_get {W : World} {a : Addr} {n : Nat} {cs : List Value} (h : W.cells? 0 a n = some cs) {j : Nat} (hj : j < n) : W.cell? (a.add j) = cs[j]? := by
  unfold World.cells? at h
  rw [if_pos (Nat.zero_le _)] at h
  exact mapM_some_get h j j (by simp [hj])
/-- A slice of elements that can be opened. -/
theorem opens_slice {α H : Type} {enc : TypeId × Value → H} (E : Enc α) {Q : Heap → α → Prop} (hm : ∀ G H x, Q G x → Ext G H → Q H x) {W : World} {t e : TypeId} {n N : Nat} {V : Value} {x : DataW H × List MemPlace}
    (ht : prog.underlying t = some (.slice e)) (hz : prog.cellsOf e = E.z) (hN : N < 2 ^ 60) (h : DataW.trod enc prog W 0 (fun _ => true) true n t [V] = some x) (hb : Rows.uptoBulk x.1 ≤ N)
    (hel : ∀ (cs : List Value) (m : Nat) (y : DataW H × List MemPlace), DataW.trod enc prog W 0 (fun _ => true) true m e cs = some y → Rows.uptoBulk y.1 ≤ N → Opens W cs (fun H vs => ∃ x, vs = E.cells x ∧ Q H x)) :
    OpensV W V (fun H v => ∃ l, Rows E H v l ∧ (∀ x ∈ l, Q H x) ∧ l.length ≤ N) := by
  intro R hR
  rcases Go.Deep.open_slice ht h with ⟨h1, h2⟩ | ⟨a, len, cap, m, k, D, Pl, h1, _, h3, h4, h5, h6, h7⟩
  · simp only [List.cons.injEq, and_true] at h1
    subst h1
    exact ⟨[], .slice none 0 0, by simpa using hR, .sliceN, [], Rows.nil, by simp, by simp⟩
  · simp only [List.cons.injEq, and_true] at h1
    subst h1
    simp only [if_true] at h5
    subst h5 h6
    rw [hz] at h7
    simp only at hb
    have hbD : ∀ i, i < m → Rows.uptoBulk (D i) ≤ N := fun i hi => by
      rw [Rows.uptoBulk] at hb
      by_cases hl : i < len
      · have := bulk_mem (l := (List.range len).map D) (d := D i) (List.mem_map.2 ⟨i, by simpa using hl, rfl⟩)
        omega
      · have := bulk_mem (l := (List.range (m - len)).map fun j => D (len + j)) (d := D i) (List.mem_map.2 ⟨i - len, by simp; omega, by rw [show len + (i - len) = i by omega]⟩)
        omega
    have hmN : m ≤ N := by
      rw [Rows.uptoBulk] at hb
      have h8 := bulk_len ((List.range len).map D)
      have h9 := bulk_len ((List.range (m - len)).map fun j => D (len + j))
      simp only [List.length_map, List.length_range] at h8 h9
      omega
    by_cases hm0 : m = 0
    · subst hm0
      have hl : len = 0 := by omega
      subst hl
      exact ⟨[], .emp, by simpa using hR, .emp a, [], ⟨by simp, .inr (.inl ⟨rfl, rfl⟩)⟩, by simp, by simp⟩
    let cs : Nat → List Value := fun i => (W.cells? 0 (a.add (i * E.z)) E.z).getD []
    have hcs : ∀ i, i < m → W.cells? 0 (a.add (i * E.z)) E.z = some (cs i) ∧ Opens W (cs i) (fun H vs => ∃ x, vs = E.cells x ∧ Q H x) := fun i hi => by
      obtain ⟨c, h8, h9⟩ := h7 i hi
      have : cs i = c := by show (W.cells? 0 (a.add (i * E.z)) E.z).getD [] = c; rw [h8]; rfl
      rw [this]
      exact ⟨h8, hel _ _ _ h9 (hbD i hi)⟩
    have hall : ∀ j, j ≤ m → ∃ (S : List Rw) (xs : List α), xs.length = j ∧ RsOk W (R ++ S) ∧ ∀ (i : Nat) (x : α), xs[i]? = some x → VRs (muR (R ++ S)) (E.cells x) (cs i) ∧ Q (heapR (R ++ S)) x := by
      intro j
      induction j with
      | zero => exact fun _ => ⟨[], [], rfl, by simpa using hR, by simp⟩
      | succ j ih =>
        intro hj
        obtain ⟨S, xs, a1, a2, a3⟩ := ih (by omega)
        obtain ⟨S2, vs, b1, b2, y, b3, b4⟩ := (hcs j (by omega)).2 (R ++ S) a2
        subst b3
        refine ⟨S ++ S2, xs ++ [y], by simp [a1], by simpa using b1, fun i x hx => ?_⟩
        rw [← List.append_assoc]
        rcases Nat.lt_or_ge i xs.length with hi | hi
        · rw [List.getElem?_append_left hi] at hx
          obtain ⟨c1, c2⟩ := a3 i x hx
          exact ⟨c1.mono muR_app, hm _ _ _ c2 heapR_ext⟩
        · rw [List.getElem?_append_right hi] at hx
          obtain ⟨hi2, rfl⟩ : i - xs.length = 0 ∧ y = x := by
            cases hq : i - xs.length with
            | zero => rw [hq] at hx; simpa using hx
            | succ q => rw [hq] at hx; simp at hx
          rw [show i = j by omega]
          exact ⟨b2, b4⟩
    obtain ⟨S, xs, a1, a2, a3⟩ := hall m (Nat.le_refl _)
    have hpos := E.pos
    have hcell : ∀ i, i < m → ∀ j, j < E.z → W.cell? (a.add (i * E.z + j)) = (cs i)[j]? := fun i hi j hj => by
      rw [← cells_get (hcs i hi).1 hj, Go.Deep.add_add]
    have hget : ∀ i j, i < m → j < E.z → ∃ y, (cs i)[j]? = some y := fun i j hi hj =>
      ⟨_, List.getElem?_eq_getElem (by rw [cells_len (hcs i hi).1]; exact hj)⟩
    obtain ⟨y0, hy0⟩ := hget 0 0 (by omega) hpos
    have h00 := hcell 0 (by omega) 0 hpos
    rw [hy0] at h00
    obtain ⟨C, T, fz, g1, g2, _⟩ := cell_block h00
    rw [add_block] at g1
    have ha : a = ⟨a.block, a.off, none⟩ := by
      cases a with
      | mk b o sp =>
        simp only [Addr.add, Nat.zero_mul, Nat.zero_add, if_true] at g2
        simp only at g2 ⊢
        rw [g2]
    have hC : ∀ i j, i < m → j < E.z → C[a.off + (i * E.z + j)]? = (cs i)[j]? := fun i j hi hj => by
      obtain ⟨y, hy⟩ := hget i j hi hj
      have h8 := hcell i hi j hj
      rw [hy] at h8 ⊢
      obtain ⟨C', T', fz', k1, _, k3⟩ := cell_block h8
      rw [add_block, g1] at k1
      cases k1
      rw [add_off] at k3
      exact k3
    have hfl : (flat E xs).length = m * E.z := by rw [flat_len, a1]
    have hok : (Rw.mk a.block a.off (flat E xs)).okG (muR (R ++ S)) W := by
      refine ⟨C, T, fz, g1, ?_, fun q x y hx hy => ?_⟩
      · have h8 := hC (m - 1) (E.z - 1) (by omega) (by omega)
        obtain ⟨y, hy⟩ := hget (m - 1) (E.z - 1) (by omega) (by omega)
        rw [hy] at h8
        have h9 := (Array.getElem?_eq_some_iff.1 h8).1
        have h10 : (m - 1) * E.z + (E.z - 1) + 1 = m * E.z := by
          obtain ⟨p, rfl⟩ : ∃ p, m = p + 1 := ⟨m - 1, by omega⟩
          rw [Nat.succ_mul]; simp only [Nat.add_sub_cancel]; omega
        simp only [hfl]
        omega
      · simp only at hx hy
        have hq : q < m * E.z := by rw [← hfl]; exact (List.getElem?_eq_some_iff.1 hx).1
        have hi : q / E.z < m := Nat.div_lt_of_lt_mul (by rw [Nat.mul_comm]; exact hq)
        have hj : q % E.z < E.z := Nat.mod_lt _ hpos
        have hqe : q / E.z * E.z + q % E.z = q := by rw [Nat.mul_comm]; exact Nat.div_add_mod q E.z
        obtain ⟨u, hu⟩ : ∃ u, xs[q / E.z]? = some u := ⟨_, List.getElem?_eq_getElem (by omega)⟩
        have h8 := flat_get E hu
        have h9 : (E.cells u)[q % E.z]? = some x := by
          rw [← h8, List.getElem?_take, if_pos hj, List.getElem?_drop, hqe]
          exact hx
        rw [← hqe, hC _ _ hi hj] at hy
        exact (a3 _ _ hu).1.2 _ _ _ h9 hy
    refine ⟨S ++ [⟨a.block, a.off, flat E xs⟩], .slice (some ⟨(R ++ S).length, 0, 0⟩) len m, ?_, ?_, xs.take len, ⟨?_, .inr (.inr ⟨⟨(R ++ S).length, 0, 0⟩, m, flat E xs, 3, false, true, ?_, ?_, ?_, ?_, ?_⟩)⟩, ?_, ?_⟩
    · rw [← List.append_assoc]; exact a2.snoc hok
    · rw [ha, ← List.append_assoc]
      have hv := VR.slice (μ := muR (R ++ S ++ [⟨a.block, a.off, flat E xs⟩])) ⟨(R ++ S).length, 0, 0⟩ ⟨a.block, a.off, (flat E xs).length, 0⟩ len m m (muR_loc (r := ⟨a.block, a.off, flat E xs⟩) (by rw [List.getElem?_append_right (Nat.le_refl _)]; simp)) (by omega) h3 (Nat.le_refl _) (fun _ => .inl rfl)
      simpa using hv
    · rw [List.length_take]; omega
    · rw [List.length_take, a1, Nat.min_eq_left h3]
    · rw [← List.append_assoc, heapR_get (r := ⟨a.block, a.off, flat E xs⟩) (by rw [List.getElem?_append_right (Nat.le_refl _)]; simp)]
    · simp only [List.drop_zero]
      rw [List.length_take, a1, Nat.min_eq_left h3]
      conv => lhs; rw [← List.take_append_drop len xs, flat_app]
      rw [List.take_append_of_le_length (by rw [flat_len, List.length_take, a1, Nat.min_eq_left h3]; exact Nat.le_refl _)]
      rw [List.take_of_length_le (by rw [flat_len, List.length_take, a1, Nat.min_eq_left h3]; exact Nat.le_refl _)]
    · simp only [Nat.zero_add]
      rw [List.length_take, a1, Nat.min_eq_left h3, hfl]
      exact Nat.mul_le_mul_right _ h3
    · rw [List.length_take, a1, Nat.min_eq_left h3]; exact h3
    · intro x hx
      rw [← List.append_assoc]
      obtain ⟨i, hi⟩ := List.getElem?_of_mem (List.mem_of_mem_take hx)
      exact hm _ _ _ (a3 i x hi).2 heapR_ext
    · rw [List.length_take]; omega
/-- A slice of numbers. -/
theorem opens_ints {H : Type} {enc : TypeId × Value → H} {W : World} {t e : TypeId} {n N : Nat} {V : Value} {x : DataW H × List MemPlace}
    (ht : prog.underlying t = some (.slice e)) (he : prog.underlying e = some (.int .i64)) (hz : prog.cellsOf e = 1) (hN : N < 2 ^ 60) (h : DataW.trod enc prog W 0 (fun _ => true) true n t [V] = some x) (hb : Rows.uptoBulk x.1 ≤ N) :
    OpensV W V (fun H v => ∃ l, Ints H v l ∧ l.length ≤ N) := by
  refine (opens_slice encI (Q := fun _ x => -9223372036854775808 ≤ x ∧ x < 9223372036854775808) (fun _ _ _ h _ => h) ht hz hN h hb fun cs m y hy _ => ?_).mono fun H v ⟨l, h1, h2, h3⟩ => ⟨l, h1.ints h2, h3⟩
  obtain ⟨z, rfl, _, hw⟩ := DataW.trod_int he hy
  refine (opens_cons opens_int opens_nil fun _ _ _ h _ => h).mono fun H vs ⟨v, us, h1, h2, h3⟩ => ⟨z, by rw [h1, h2, h3]; rfl, ?_⟩
  simp [Lit.wf, IntKind.min, IntKind.max, IntKind.signed, IntKind.bits] at hw
  omega
end Go.AM
/-
  Arguments that came in: looms, breaks, sights.
-/
namespace Go.AM
open Go.Proofs.Tryz Go.RowKit Go.ChangeShapes Go.WideShapes Go.ChangeAt
open Go.Proofs.YtlhmeoeamcgcmaaGreat (Rows.uptoSmall Rows.uptoBulkAll Rows.uptoBulk)
set_option maxRecDepth 100000
/-- A loom that came in, its slices no longer than these. -/
def LomN (N : Nat) (H : Heap) (v : AVal) : Prop := ∃ L, LomAt H v L ∧ L.ps.length ≤ N ∧ L.ss.length ≤ N ∧ ∀ p ∈ L.ps, p.rib.length ≤ N
theorem LomN.ext {N : Nat} {G H : Heap} {v : AVal} (h : LomN N G v) (e : Ext G H) : LomN N H v := by
  obtain ⟨L, h1, h2⟩ := h
  exact ⟨L, h1.ext e, h2⟩
def RowsN {α : Type} (E : Enc α) (N : Nat) (H : Heap) (v : AVal) : Prop := ∃ l, Rows E H v l ∧ l.length ≤ N
theorem RowsN.ext {α : Type} {E : Enc α} {N : Nat} {G H : Heap} {v : AVal} (h : RowsN E N G v) (e : Ext G H) : RowsN E N H v := by
  obtain ⟨l, h1, h2⟩ := h
  exact ⟨l, h1.ext e, h2⟩
def PrtN (N : Nat) (H : Heap) (p : PrtV) : Prop := ∃ l, Ints H p.v l ∧ l.length ≤ N
section
variable {H : Type} {enc : TypeId × Value → H} {W : World} {n N : Nat}
theorem one_cell {f : Field} {cs : List Value} {c : Value} {i : Nat} (ho : f.offset = i) (hk : prog.cellsOf f.type = 1) (hc : cs[i]? = some c) : (cs.drop f.offset).take (prog.cellsOf f.type) = [c] := by
  rw [ho, hk]
  have hi := (List.getElem?_eq_some_iff.1 hc)
  rw [List.drop_eq_getElem_cons hi.1, hi.2]
  rfl
theorem opens_part (hN : N < 2 ^ 60) {cs : List Value} {y : DataW H × List MemPlace} (h : DataW.trod enc prog W 0 (fun _ => true) true n 81 cs = some y) (hb : Rows.uptoBulk y.1 ≤ N) :
    Opens W cs (fun H vs => ∃ x, vs = encP.cells x ∧ PrtN N H x) := by
  obtain ⟨y0, y1, y2, y3, m, rfl, hl, h0, h1, h2, h3⟩ := Go.Joins.trod_struct4 underlying81 h
  have hl4 : cs.length = 4 := hl.trans (by kernel_rfl)
  match cs, hl4 with
  | [c0, c1, c2, c3], _ =>
    have e0 := h0; have e1 := h1; have e2 := h2; have e3 := h3
    rw [one_cell (i := 0) rfl (by kernel_rfl) rfl] at e0
    rw [one_cell (i := 1) rfl (by kernel_rfl) rfl] at e1
    rw [one_cell (i := 2) rfl (by kernel_rfl) rfl] at e2
    rw [one_cell (i := 3) rfl (by kernel_rfl) rfl] at e3
    obtain ⟨z1, q1, -, -⟩ := DataW.trod_int underlying3 e1
    obtain ⟨z2, q2, -, -⟩ := DataW.trod_int underlying3 e2
    obtain ⟨z3, q3, -⟩ := DataW.trod_bool underlying4 e3
    simp only [List.cons.injEq, and_true] at q1 q2 q3
    subst q1 q2 q3
    have hs := opens_ints underlying36 underlying3 (by kernel_rfl) hN e0 (Nat.le_trans (bulk_agg (by simp)) hb)
    refine (opens_cons hs (opens_cons opens_int (opens_cons opens_int (opens_cons opens_bool opens_nil fun _ _ _ h _ => h) fun _ _ _ h _ => h) fun _ _ _ h _ => h) (fun G K v h e => ?_)).mono fun K vs h => ?_
    · obtain ⟨l, k1, k2⟩ := h
      exact ⟨l, k1.ext e, k2⟩
    · obtain ⟨v0, _, rfl, ⟨l, k1, k2⟩, v1, _, rfl, rfl, v2, _, rfl, rfl, v3, _, rfl, rfl, rfl⟩ := h
      exact ⟨⟨v0, z1, z2, z3⟩, by simp only [encP, norm_one k1.one], l, k1, k2⟩
theorem opens_sight {cs : List Value} {y : DataW H × List MemPlace} (h : DataW.trod enc prog W 0 (fun _ => true) true n 56 cs = some y) :
    ∃ s : Sgt, cs = [.int .i64 s.rib, .int .i64 s.lo, .int .i64 s.hi, .bool s.bad] := by
  obtain ⟨y0, y1, y2, m, rfl, hl, h0, h1, h2⟩ := Go.Deep.trod_struct3 underlying56 h
  have hl4 : cs.length = 4 := hl.trans (by kernel_rfl)
  match cs, hl4 with
  | [c0, c1, c2, c3], _ =>
    rw [one_cell (i := 0) rfl (by kernel_rfl) rfl] at h0
    rw [one_cell (i := 3) rfl (by kernel_rfl) rfl] at h2
    obtain ⟨u0, u1, k, -, -, h3, h4⟩ := trod_struct2 underlying54 h1
    have h5 : DataW.trod enc prog W 0 (fun _ => true) true k 3 [c1] = some u0 := h3
    have h6 : DataW.trod enc prog W 0 (fun _ => true) true k 3 [c2] = some u1 := h4
    obtain ⟨z0, q0, -, -⟩ := DataW.trod_int underlying3 h0
    obtain ⟨z1, q1, -, -⟩ := DataW.trod_int underlying3 h5
    obtain ⟨z2, q2, -, -⟩ := DataW.trod_int underlying3 h6
    obtain ⟨z3, q3, -⟩ := DataW.trod_bool underlying4 h2
    simp only [List.cons.injEq, and_true] at q0 q1 q2 q3
    exact ⟨⟨z0, z1, z2, z3⟩, by rw [q0, q1, q2, q3]⟩
theorem opens_brk {cs : List Value} {y : DataW H × List MemPlace} (h : DataW.trod enc prog W 0 (fun _ => true) true n 75 cs = some y) :
    ∃ b : Int × Int × Int, cs = [.int .i64 b.1, .int .i64 b.2.1, .int .i64 b.2.2] := by
  obtain ⟨y0, y1, y2, m, rfl, hl, h0, h1, h2⟩ := Go.Deep.trod_struct3 underlying75 h
  have hl4 : cs.length = 3 := hl.trans (by kernel_rfl)
  match cs, hl4 with
  | [c0, c1, c2], _ =>
    rw [one_cell (i := 0) rfl (by kernel_rfl) rfl] at h0
    rw [one_cell (i := 1) rfl (by kernel_rfl) rfl] at h1
    rw [one_cell (i := 2) rfl (by kernel_rfl) rfl] at h2
    obtain ⟨z0, q0, -, -⟩ := DataW.trod_int underlying3 h0
    obtain ⟨z1, q1, -, -⟩ := DataW.trod_int underlying3 h1
    obtain ⟨z2, q2, -, -⟩ := DataW.trod_int underlying3 h2
    simp only [List.cons.injEq, and_true] at q0 q1 q2
    exact ⟨(z0, z1, z2), by rw [q0, q1, q2]⟩
theorem opens_ints3 {a b c : Int} : Opens W [.int .i64 a, .int .i64 b, .int .i64 c] (fun _ vs => vs = [.int .i64 a, .int .i64 b, .int .i64 c]) :=
  (opens_cons opens_int (opens_cons opens_int (opens_cons opens_int opens_nil fun _ _ _ h _ => h) fun _ _ _ h _ => h) fun _ _ _ h _ => h).mono fun _ vs ⟨v0, _, h0, h1, v1, _, h2, h3, v2, _, h4, h5, h6⟩ => by
    subst h6 h5 h4 h3 h2 h1 h0; rfl
theorem opens_ints4 {a b c : Int} {d : Bool} : Opens W [.int .i64 a, .int .i64 b, .int .i64 c, .bool d] (fun _ vs => vs = [.int .i64 a, .int .i64 b, .int .i64 c, .bool d]) :=
  (opens_cons opens_int (opens_cons opens_int (opens_cons opens_int (opens_cons opens_bool opens_nil fun _ _ _ h _ => h) fun _ _ _ h _ => h) fun _ _ _ h _ => h) fun _ _ _ h _ => h).mono fun _ vs ⟨v0, _, h0, h1, v1, _, h2, h3, v2, _, h4, h5, v3, _, h7, h8, h6⟩ => by
    subst h6 h8 h7 h5 h4 h3 h2 h1 h0; rfl
theorem opens_loom {base : Nat} {V : Value} {d : DataW H} {p : List MemPlace} (hN : N < 2 ^ 60) (hval : Value.okWide prog W .any base 25 V) (h : DataW.Trod enc prog W 0 (fun _ => true) true 25 V d p) (hb : Rows.uptoBulk d ≤ N) :
    OpensV W V (LomN N) := by
  obtain ⟨v0, v1, v2, v3, y0, y1, y2, y3, m, rfl, rfl, rfl, h0, h1, h2, h3⟩ := Go.Joins.open_agg4 underlying25 (by kernel_rfl) (by kernel_rfl) hval h
  obtain ⟨z0, q0, -, -⟩ := DataW.trod_int underlying3 h0
  obtain ⟨z1, q1, -, -⟩ := DataW.trod_int underlying3 h1
  simp only [List.cons.injEq, and_true] at q0 q1
  subst q0 q1
  have hP := opens_slice encP (Q := PrtN N) (fun _ _ _ h e => ⟨h.choose, h.choose_spec.1.ext e, h.choose_spec.2⟩) underlying22 (by kernel_rfl) hN h2 (Nat.le_trans (bulk_agg (by simp)) hb) fun cs k y hy hyb => opens_part hN hy hyb
  have hS := opens_slice encS (Q := fun _ _ => True) (fun _ _ _ h _ => h) underlying23 (by kernel_rfl) hN h3 (Nat.le_trans (bulk_agg (by simp)) hb) fun cs k y hy hyb => by
    obtain ⟨s, rfl⟩ := opens_sight hy
    exact opens_ints4.mono fun _ _ h => ⟨s, h, trivial⟩
  refine (Opens.agg (A := #[.int .i64 z0, .int .i64 z1, v2, v3]) (opens_cons opens_int (opens_cons opens_int (opens_cons hP (opens_cons hS opens_nil fun _ _ _ h e => ⟨h.choose, h.choose_spec.1.ext e, h.choose_spec.2⟩)
    fun _ _ _ h e => ⟨h.choose, h.choose_spec.1.ext e, fun x hx => ?_, h.choose_spec.2.2⟩) fun _ _ _ h _ => h) fun _ _ _ h _ => h)).mono fun K v hv => ?_
  · obtain ⟨l, k1, k2⟩ := h.choose_spec.2.1 x hx
    exact ⟨l, k1.ext e, k2⟩
  · obtain ⟨_, rfl, u0, _, rfl, rfl, u1, _, rfl, rfl, pv, _, rfl, ⟨l, k1, k2, k3⟩, sv, _, rfl, ⟨s, j1, -, j3⟩, rfl⟩ := hv
    have hf : ∃ ps : List Prt, ps.length = l.length ∧ ∀ (i : Nat) x p, l[i]? = some x → ps[i]? = some p → Ints K x.v p.rib ∧ p.rib.length ≤ N ∧ x.each = p.each ∧ x.ph = p.ph ∧ x.wv = p.wv := by
      clear k1 k3
      induction l with
      | nil => exact ⟨[], rfl, by simp⟩
      | cons x l ih =>
        obtain ⟨ps, e1, e2⟩ := ih fun y hy => k2 y (by simp [hy])
        obtain ⟨r, r1, r2⟩ := k2 x (by simp)
        refine ⟨⟨r, x.each, x.ph, x.wv⟩ :: ps, by simp [e1], fun i y p hy hp => ?_⟩
        cases i with
        | zero => simp at hy hp; subst hy hp; exact ⟨r1, r2, rfl, rfl, rfl⟩
        | succ i => exact e2 i y p (by simpa using hy) (by simpa using hp)
    obtain ⟨ps, e1, e2⟩ := hf
    refine ⟨⟨z0, z1, ps, s⟩, ⟨pv, sv, rfl, ⟨l, k1, e1.symm, fun i x p a b => ?_⟩, j1⟩, ?_, j3, fun p hp => ?_⟩
    · obtain ⟨q1, q2, q3⟩ := e2 i x p a b
      exact ⟨q1, q3⟩
    · show ps.length ≤ N
      omega
    · obtain ⟨i, hi⟩ := List.getElem?_of_mem hp
      obtain ⟨x, hx⟩ : ∃ x, l[i]? = some x := ⟨_, List.getElem?_eq_getElem (by have h9 : i < ps.length := (List.getElem?_eq_some_iff.1 hi).1; omega)⟩
      exact (e2 i x p hx hi).2.1
def BrkV (_ : Heap) (v : AVal) : Prop := ∃ a b c : Int, v = .agg [.int .i64 a, .int .i64 b, .int .i64 c]
def SgtV (_ : Heap) (v : AVal) : Prop := ∃ s : Sgt, v = .agg (encS.cells s)
theorem opens_sgt {base : Nat} {V : Value} {d : DataW H} {p : List MemPlace} (hval : Value.okWide prog W .any base 56 V) (h : DataW.Trod enc prog W 0 (fun _ => true) true 56 V d p) :
    OpensV W V SgtV := by
  obtain ⟨cs, rfl, -⟩ := okWide_struct underlying56 hval
  obtain ⟨f, hf⟩ := h
  obtain ⟨s, hb⟩ := opens_sight hf
  have hc : cs.toList = [.int .i64 s.rib, .int .i64 s.lo, .int .i64 s.hi, .bool s.bad] := hb
  exact (Opens.agg (Q := fun _ vs => vs = [.int .i64 s.rib, .int .i64 s.lo, .int .i64 s.hi, .bool s.bad]) (by rw [hc]; exact opens_ints4)).mono fun _ v ⟨vs, h1, h2⟩ => ⟨s, by rw [h1, h2]; rfl⟩
theorem opens_breaks {base : Nat} {V : Value} {d : DataW H} {p : List MemPlace} (hN : N < 2 ^ 60) (hval : Value.okWide prog W .any base 60 V) (h : DataW.Trod enc prog W 0 (fun _ => true) true 60 V d p) (hb : Rows.uptoBulk d ≤ N) :
    OpensV W V (RowsN encB N) := by
  obtain ⟨a0, k, c, rfl⟩ := okWide_slice underlying60 hval
  obtain ⟨f, hf⟩ := h
  refine (opens_slice encB (Q := fun _ _ => True) (fun _ _ _ h _ => h) underlying60 (by kernel_rfl) hN hf hb fun cs k y hy hyb => ?_).mono fun K v ⟨l, h1, _, h3⟩ => ⟨l, h1, h3⟩
  obtain ⟨b, rfl⟩ := opens_brk hy
  exact opens_ints3.mono fun _ _ h => ⟨b, h, trivial⟩
def IntV (_ : Heap) (v : AVal) : Prop := ∃ n : Int, v = .int .i64 n
end
end Go.AM
