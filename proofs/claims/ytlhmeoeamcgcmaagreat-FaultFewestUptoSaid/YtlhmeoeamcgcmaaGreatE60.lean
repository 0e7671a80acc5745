/-
  Contracts: all truths, as the reference lists them.
-/
import Derived.Test.YtlhmeoeamcgcmaaGreatE59
set_option linter.unusedSimpArgs false
set_option linter.unusedVariables false
namespace Go.AM
open Go.Proofs.Tryz
attribute [-go_sem] put_ne put_same
attribute [local go_sem ↓] put_if
/-- Values, by cells. -/
def encZ : Enc AVal := ⟨1, fun v => [norm v], fun _ => rfl, by decide⟩
theorem encZ_sc : ∀ y, (encZ.cells y).all AVal.scalar = true := fun y => by
  have : (norm y).scalar = true := by unfold norm; split <;> simp_all [AVal.scalar]
  simp only [encZ, List.all_cons, this, List.all_nil]
  rfl
theorem bsZ0 {lit : Bool} {A : Heap} {v : AVal} (h1 : One v) (hl : lit = false) : bsA prog lit A 37 1 [(0, v)] = some (.slice (some ⟨A.length, 0, 0⟩) 1 1, A ++ [rowE encZ 66 [v] 0]) := by
  subst hl
  rcases h1 with ⟨h1, h2, h3⟩
  simp [bsA, rowOf, Fc.el37, fillA, repCells, h1, h2, h3, splice, rowE, flat, encZ, norm]
/-- One value more. -/
theorem snocZ {A : Heap} {w v : AVal} {vs : List AVal} {b base : Nat} (hO : Own encZ 66 b A w vs) (h1 : One v) (hb : base ≤ b) (hbh : b ≤ A.length) (hl : vs.length ≤ 10000000) :
    ∃ x A', (∀ {lit : Bool}, lit = true → bsA prog lit A 37 1 [(0, v)] = some (x, A')) ∧ Ext A A' ∧ ∃ w' h', appendA prog base A' 37 w x = some (w', h') ∧ Own encZ 66 b h' w' (vs ++ [v]) ∧ A.length ≤ h'.length ∧ (∀ G, G.length ≤ b → Ext G A → Ext G h') ∧ One w' ∧ KeepO encZ 66 A h' := by
  have hn := norm_one h1
  rcases h1 with ⟨q1, q2, q3⟩
  have hr : rowOf prog 37 1 [(0, v)] = some (66, 1, [v]) := by
    simp [rowOf, Fc.el37, fillA, repCells, q1, q2, q3, splice]
  by_cases hbare : AVal.bare v = true
  · obtain ⟨w', h', a1, a2, a3, a4, a5, a6⟩ := hO.append1X (P := prog) (y := v) (a := v) (base := base) (t := 37) rfl (by simp only [encZ, hn]) Fc.el37 encZ_sc hb hbh (by omega)
    refine ⟨.vals [v], A, fun {lit} hlit => ?_, .refl, w', h', a1, a2, a3, a4, a5, a6⟩
    subst hlit
    simp only [bsA, hr]
    rw [if_neg (by decide), if_pos ⟨trivial, trivial, by simp [hbare]⟩]
  · obtain ⟨w', h', a1, a2, a3, a4, a5, a6⟩ := (hO.app (T := [rowE encZ 66 [v] 0])).appendRX (P := prog) (x := .slice (some ⟨A.length, 0, 0⟩) 1 1) (m := [v]) (base := base) (t := 37) (Rows.own (get_eq rfl) rfl (by simp)) Fc.el37 encZ_sc hb (by simp; omega) (by simp) (by simp; omega)
    refine ⟨.slice (some ⟨A.length, 0, 0⟩) 1 1, A ++ [rowE encZ 66 [v] 0], fun {lit} hlit => ?_, .app .refl, w', h', a1, a2, by simp at a3; omega, fun G hG e => a4 G hG (e.trans (.app .refl)), a5, fun i y g hy => a6 i y (get_app g) hy⟩
    simp only [bsA, hr]
    rw [if_neg (by decide), if_neg (fun q => hbare (by simpa using q.2.2))]
    simp [rowE, flat, encZ, hn]
/-- Truths in a list of one's own. -/
def AllAt (b : Nat) (H : Heap) (v : AVal) (ts : List (List Brk)) : Prop := ∃ vs : List AVal, Own encZ 66 b H v vs ∧ vs.length = ts.length ∧ ∀ (i : Nat) x t, vs[i]? = some x → ts[i]? = some t → OwnE encB 128 0 H x t
section
variable {b : Nat} {H H' : Heap} {v : AVal} {ts : List (List Brk)}
theorem AllAt.ext (x : AllAt b H v ts) (e : Ext H H') : AllAt b H' v ts := by
  obtain ⟨vs, h1, h2, h3⟩ := x
  exact ⟨vs, h1.ext e, h2, fun i x t a c => (h3 i x t a c).ext e⟩
theorem AllAt.one (x : AllAt b H v ts) : One v := by obtain ⟨vs, h1, _⟩ := x; exact h1.one
theorem AllAt.low {b' : Nat} (x : AllAt b H v ts) (hb : b' ≤ b) : AllAt b' H v ts := by
  obtain ⟨vs, h1, h2, h3⟩ := x
  exact ⟨vs, h1.low hb, h2, h3⟩
theorem AllAt.rows (x : AllAt b H v ts) (hl : ts.length < 2 ^ 60) : ∃ vs, Rows encZ H v vs ∧ vs.length = ts.length := by
  obtain ⟨vs, h1, h2, _⟩ := x
  exact ⟨vs, h1.rows (by omega), h2⟩
theorem AllAt.len (x : AllAt b H v ts) (hl : ts.length < 2 ^ 60) : lenOpA prog H 37 v = some (.int .i64 (ts.length : Int)) := by
  obtain ⟨vs, h1, h2, _⟩ := x
  have := (h1.rows (by omega)).len (P := prog) Fc.el37
  rwa [h2] at this
/-- An element. -/
theorem AllAt.at (x : AllAt b H v ts) (hl : ts.length < 2 ^ 60) {i : Nat} {t : List Brk} (ht : ts[i]? = some t) :
    ∃ a w, indexAddrA prog 37 v (.int .i64 (i : Int)) = some a ∧ (∀ K, Ext H K → loadP prog K 66 a = some w) ∧ OwnE encB 128 0 H w t := by
  obtain ⟨vs, h1, h2, h3⟩ := x
  have hi : i < ts.length := (List.getElem?_eq_some_iff.1 ht).1
  have hx : vs[i]? = some vs[i] := List.getElem?_eq_getElem (by omega)
  have hR := h1.rows (show vs.length < 2 ^ 60 by omega)
  have ad := hR.addr (P := prog) (i := (i : Int)) Fc.el37 Fc.ar37 (by omega) (by omega)
  rw [Int.toNat_natCast] at ad
  have hw := h3 i _ _ hx ht
  refine ⟨_, _, ad, fun K e => ?_, hw⟩
  exact (hR.ext e).cell (P := prog) Fc.ty66 hx (o := 0) (a := vs[i]) (by simp only [encZ, norm_one hw.one]; rfl)
/-- One truth more. -/
theorem AllAt.snoc {A : Heap} {w x : AVal} {t : List Brk} {base : Nat} (y : AllAt b A w ts) (hx : OwnE encB 128 0 A x t) (hb : base ≤ b) (hbh : b ≤ A.length) (hl : ts.length ≤ 10000000) :
    ∃ z A', (∀ {lit : Bool}, lit = true → bsA prog lit A 37 1 [(0, x)] = some (z, A')) ∧ Ext A A' ∧ ∃ w' h', appendA prog base A' 37 w z = some (w', h') ∧ AllAt b h' w' (ts ++ [t]) ∧ A.length ≤ h'.length ∧ (∀ G, G.length ≤ b → Ext G A → Ext G h') ∧ One w' ∧ KeepO encZ 66 A h' := by
  obtain ⟨vs, h1, h2, h3⟩ := y
  obtain ⟨z, A', a1, a2, w', h', a3, a4, a5, a6, a7, a8⟩ := snocZ (base := base) h1 hx.one hb hbh (by omega)
  refine ⟨z, A', a1, a2, w', h', a3, ⟨_, a4, by simp [h2], fun i p q g1 g2 => ?_⟩, a5, a6, a7, a8⟩
  by_cases hi : i < vs.length
  · rw [List.getElem?_append_left hi] at g1
    rw [List.getElem?_append_left (by omega)] at g2
    exact a8.ownE (h3 i p q g1 g2) (by decide)
  · rw [List.getElem?_append_right (by omega)] at g1
    rw [List.getElem?_append_right (by omega)] at g2
    have e0 : i - vs.length = 0 := by
      have := (List.getElem?_eq_some_iff.1 g1).1
      simp at this; omega
    rw [e0] at g1
    rw [show i - ts.length = 0 by omega] at g2
    cases g1; cases g2
    exact a8.ownE hx (by decide)
end
/-! ### The list of all truths -/
def addB (k f t : Int) (rest : List (List Brk)) : List (List Brk) := rest.map fun x => (k, f, t) :: x
def toN (k : Int) (f : Nat) (rest : List (List Brk)) : Nat → List (List Brk)
  | 0 => []
  | n + 1 => toN k f rest n ++ addB k (f : Int) ((f + n : Nat) : Int) rest
def frN (k : Int) (T : Nat) (rest : List (List Brk)) : Nat → List (List Brk)
  | 0 => []
  | n + 1 => frN k T rest n ++ toN k n rest (T - n)
def allR (T : Nat) : Nat → Nat → List (List Brk)
  | _, 0 => [[]]
  | k, m + 1 => allR T (k + 1) m ++ frN (k : Int) T (allR T (k + 1) m) T
theorem addB_len {k f t : Int} {rest : List (List Brk)} : (addB k f t rest).length = rest.length := by simp [addB]
theorem toN_len {k : Int} {f : Nat} {rest : List (List Brk)} : ∀ n, (toN k f rest n).length = n * rest.length
  | 0 => by simp [toN]
  | n + 1 => by rw [toN, List.length_append, toN_len n, addB_len, Nat.succ_mul]
theorem frN_len {k : Int} {T : Nat} {rest : List (List Brk)} : ∀ n, (frN k T rest n).length ≤ n * (T * rest.length)
  | 0 => by simp [frN]
  | n + 1 => by
    have := frN_len (k := k) (T := T) (rest := rest) n
    have h2 : (T - n) * rest.length ≤ T * rest.length := Nat.mul_le_mul_right _ (by omega)
    rw [frN, List.length_append, toN_len, Nat.succ_mul]; omega
theorem addB_take {k f t : Int} {rest : List (List Brk)} {i : Nat} {x : List Brk} (h : rest[i]? = some x) : addB k f t (rest.take (i + 1)) = addB k f t (rest.take i) ++ [(k, f, t) :: x] := by
  unfold addB
  rw [List.take_add_one, h, List.map_append]
  rfl
theorem allR_pos {T : Nat} : ∀ (m k : Nat), 0 < (allR T k m).length
  | 0, k => by simp [allR]
  | m + 1, k => by have := allR_pos (T := T) m (k + 1); simp only [allR, List.length_append]; omega
end Go.AM
