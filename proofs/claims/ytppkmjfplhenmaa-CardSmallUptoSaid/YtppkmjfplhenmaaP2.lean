/-
  Plain numbers: the longest run.
-/
import Derived.Test.YtppkmjfplhenmaaR4
import Derived.Test.YtppkmjfplhenmaaD18
set_option linter.unusedSimpArgs false
set_option linter.unusedVariables false
namespace Go.AM

/-- How long the run is that begins at two throws. -/
def lenR (p q : List Int) (a b : Nat) (k : Bool) : Nat := extF p q a b k p.length 0
theorem extF_spec {p q : List Int} {a b : Nat} {k : Bool} : ∀ (m n : Nat), n ≤ extF p q a b k m n ∧ (∀ j, n ≤ j → j < extF p q a b k m n → runAt p q a b k j = true) ∧ (extF p q a b k m n = n + m ∨ runAt p q a b k (extF p q a b k m n) = false)
  | 0, n => ⟨Nat.le_refl _, fun j h1 h2 => by simp only [extF] at h2; omega, .inl rfl⟩
  | m + 1, n => by
    obtain ⟨h1, h2, h3⟩ := extF_spec (p := p) (q := q) (a := a) (b := b) (k := k) m (n + 1)
    simp only [extF]
    by_cases hr : runAt p q a b k n = true
    · rw [if_pos hr]
      refine ⟨by omega, fun j hj1 hj2 => ?_, ?_⟩
      · by_cases e : j = n
        · subst e; exact hr
        · exact h2 j (by omega) hj2
      · rcases h3 with h | h
        · exact .inl (by omega)
        · exact .inr h
    · rw [if_neg hr]
      exact ⟨Nat.le_refl _, fun j hj1 hj2 => by omega, .inr (by simpa using hr)⟩
theorem runAt_p {p q : List Int} {a b n : Nat} {k : Bool} (h : runAt p q a b k n = true) : a + n < p.length ∧ (0 ≤ posI b k n ∧ posI b k n < q.length) := by
  have := of_decide_eq_true h
  exact ⟨this.1, this.2.1⟩
theorem runB_len {p q : List Int} {a b L : Nat} {k : Bool} : runB p q a b k L = true ↔ L ≤ lenR p q a b k := by
  obtain ⟨h1, h2, h3⟩ := extF_spec (p := p) (q := q) (a := a) (b := b) (k := k) p.length 0
  unfold runB lenR
  rw [decide_eq_true_iff]
  constructor
  · intro h
    by_cases hle : L ≤ extF p q a b k p.length 0
    · exact hle
    · rcases h3 with h4 | h4
      · have := (runAt_p (h p.length (by omega))).1
        omega
      · have := h _ (show extF p q a b k p.length 0 < L by omega)
        rw [h4] at this; cases this
  · intro h n hn
    exact h2 n (by omega) (by omega)
theorem lenR_zero {p q : List Int} {a b : Nat} {k : Bool} (h : ¬ (a < p.length ∧ b < q.length ∧ p.getD a 0 = q.getD b 0)) : lenR p q a b k = 0 := by
  by_cases h0 : lenR p q a b k = 0
  · exact h0
  · have h1 := (runB_len (p := p) (q := q) (a := a) (b := b) (k := k) (L := 1)).2 (by omega)
    have h2 := of_decide_eq_true ((of_decide_eq_true h1) 0 (by omega))
    exfalso
    refine h ⟨by omega, ?_, ?_⟩
    · have := h2.2.1; unfold posI at this; split at this <;> omega
    · have := h2.2.2
      have e : (posI b k 0).toNat = b := by unfold posI; split <;> omega
      rwa [e] at this
theorem lenR_min {p q : List Int} {a b : Nat} {k : Bool} : lenR p q a b k ≤ min p.length q.length := by
  by_cases h0 : lenR p q a b k = 0
  · omega
  · have h1 := of_decide_eq_true ((runB_len (p := p) (q := q) (a := a) (b := b) (k := k)).2 (Nat.le_refl _))
    have h2 := runAt_p (h1 (lenR p q a b k - 1) (by omega))
    have h3 := runAt_p (h1 0 (by omega))
    unfold posI at h2 h3
    split at h2 <;> split at h3 <;> omega

/-- The order in which starts are tried. -/
def ltR (a b : Nat) (k : Bool) (a' b' : Nat) (k' : Bool) : Prop := a < a' ∨ (a = a' ∧ (b < b' ∨ (b = b' ∧ k = false ∧ k' = true)))
/-- The best of all starts that come before one. -/
def Seg (p q : List Int) (a b : Nat) (k : Bool) (st : Nat × Nat × Nat × Bool) : Prop :=
  (∀ a' b' k', ltR a' b' k' a b k → lenR p q a' b' k' ≤ st.2.2.1) ∧
  (st = (0, 0, 0, false) ∨ (0 < st.2.2.1 ∧ st.2.2.1 = lenR p q st.1 st.2.1 st.2.2.2 ∧ ltR st.1 st.2.1 st.2.2.2 a b k ∧ ∀ a' b' k', ltR a' b' k' st.1 st.2.1 st.2.2.2 → lenR p q a' b' k' < st.2.2.1))
theorem Seg.step {p q : List Int} {a b a2 b2 : Nat} {k k2 : Bool} {st : Nat × Nat × Nat × Bool} (h : Seg p q a b k st) (hb : ∀ a' b' k', ltR a' b' k' a2 b2 k2 → ltR a' b' k' a b k ∨ (a' = a ∧ b' = b ∧ k' = k)) (hm : ltR a b k a2 b2 k2) (hm2 : ∀ a' b' k', ltR a' b' k' a b k → ltR a' b' k' a2 b2 k2) :
    Seg p q a2 b2 k2 (shStep p q a st b k) := by
  obtain ⟨h1, h2⟩ := h
  unfold shStep
  rw [show extF p q a b k p.length 0 = lenR p q a b k from rfl]
  by_cases hlt : st.2.2.1 < lenR p q a b k
  · rw [if_pos hlt]
    refine ⟨fun a' b' k' h3 => ?_, .inr ⟨by dsimp only; omega, rfl, hm, fun a' b' k' h3 => ?_⟩⟩
    · rcases hb a' b' k' h3 with h4 | ⟨rfl, rfl, rfl⟩
      · have := h1 a' b' k' h4; dsimp only; omega
      · exact Nat.le_refl _
    · have := h1 a' b' k' h3; dsimp only; omega
  · rw [if_neg hlt]
    refine ⟨fun a' b' k' h3 => ?_, ?_⟩
    · rcases hb a' b' k' h3 with h4 | ⟨rfl, rfl, rfl⟩
      · exact h1 a' b' k' h4
      · omega
    · rcases h2 with h2 | ⟨g1, g2, g3, g4⟩
      · exact .inl h2
      · exact .inr ⟨g1, g2, hm2 _ _ _ g3, g4⟩
/-- Starts that have no run. -/
theorem Seg.skip {p q : List Int} {a b a2 b2 : Nat} {k k2 : Bool} {st : Nat × Nat × Nat × Bool} (h : Seg p q a b k st) (hb : ∀ a' b' k', ltR a' b' k' a2 b2 k2 → ltR a' b' k' a b k ∨ lenR p q a' b' k' = 0) (hm2 : ∀ a' b' k', ltR a' b' k' a b k → ltR a' b' k' a2 b2 k2) : Seg p q a2 b2 k2 st := by
  obtain ⟨h1, h2⟩ := h
  refine ⟨fun a' b' k' h3 => ?_, ?_⟩
  · rcases hb a' b' k' h3 with h4 | h4
    · exact h1 a' b' k' h4
    · omega
  · rcases h2 with h2 | ⟨g1, g2, g3, g4⟩
    · exact .inl h2
    · exact .inr ⟨g1, g2, hm2 _ _ _ g3, g4⟩
theorem Seg.both {p q : List Int} {a b : Nat} {st : Nat × Nat × Nat × Bool} (h : Seg p q a b false st) : Seg p q a (b + 1) false (shStep p q a (shStep p q a st b false) b true) := by
  have h1 : Seg p q a b true (shStep p q a st b false) := h.step (fun a' b' k' h => by cases k' <;> simp [ltR] at h ⊢ <;> omega) (by simp [ltR]) (fun a' b' k' h => by simp [ltR] at h ⊢; omega)
  exact h1.step (fun a' b' k' h => by cases k' <;> simp [ltR] at h ⊢ <;> omega) (by simp [ltR]) (fun a' b' k' h => by cases k' <;> simp [ltR] at h ⊢ <;> omega)

theorem range_take {β : Type} {f : β → Int → β} {L : List Int} {st : β} : ∀ {m : Nat}, m ≤ L.length → (List.range m).foldl (fun st j => f st (L.getD j 0)) st = (L.take m).foldl f st
  | 0, _ => by simp
  | m + 1, h => by
    rw [List.range_succ, List.foldl_append, range_take (by omega), List.take_add_one, List.foldl_append]
    simp only [List.foldl_cons, List.foldl_nil]
    rw [List.getElem?_eq_getElem (show m < L.length by omega)]
    simp only [Option.toList_some, List.foldl_cons, List.foldl_nil]
    rw [List.getD_eq_getElem?_getD, List.getElem?_eq_getElem (show m < L.length by omega)]
    rfl
def shF (p q : List Int) (a : Nat) (st : Nat × Nat × Nat × Bool) (y : Int) : Nat × Nat × Nat × Bool := shStep p q a (shStep p q a st y.toNat false) y.toNat true
theorem shRow_fold {p q : List Int} {a : Nat} {L : List Int} {st : Nat × Nat × Nat × Bool} : shRow p q a L st L.length = L.foldl (shF p q a) st := by
  have := range_take (f := shF p q a) (L := L) (st := st) (Nat.le_refl _)
  rw [List.take_length] at this
  exact this
theorem Seg.row {p q : List Int} {a : Nat} (ha : a < p.length) {st : Nat × Nat × Nat × Bool} (h : Seg p q a 0 false st) : ∀ {m : Nat}, m ≤ q.length → Seg p q a m false ((posL q (p.getD a 0) m).foldl (shF p q a) st)
  | 0, _ => h
  | m + 1, hm => by
    have ih := Seg.row ha h (m := m) (by omega)
    rw [posL_succ]
    by_cases e : q.getD m 0 = p.getD a 0
    · rw [if_pos e, List.foldl_append]
      simp only [List.foldl_cons, List.foldl_nil, shF, Int.toNat_natCast]
      exact ih.both
    · rw [if_neg e]
      refine ih.skip (fun a' b' k' h3 => ?_) (fun a' b' k' h => by simp [ltR] at h ⊢; omega)
      by_cases e2 : a' = a ∧ b' = m
      · obtain ⟨rfl, rfl⟩ := e2
        exact .inr (lenR_zero fun hh => e hh.2.2.symm)
      · refine .inl ?_
        simp [ltR] at h3 ⊢
        omega
theorem Seg.all {p q : List Int} : ∀ {m : Nat}, m ≤ p.length → Seg p q m 0 false (shAll p q m)
  | 0, _ => ⟨fun a' b' k' h => by simp [ltR] at h, .inl rfl⟩
  | m + 1, hm => by
    rw [shAll_succ, shRow_fold]
    have := Seg.row (show m < p.length by omega) (Seg.all (p := p) (q := q) (m := m) (by omega)) (Nat.le_refl q.length)
    refine this.skip (fun a' b' k' h3 => ?_) (fun a' b' k' h => by simp [ltR] at h ⊢; omega)
    by_cases e2 : a' = m ∧ q.length ≤ b'
    · exact .inr (lenR_zero fun hh => by omega)
    · refine .inl ?_
      simp [ltR] at h3 ⊢
      omega
/-- What the longest run is. -/
theorem sh_hit {p q : List Int} {a b L : Nat} {k : Bool} (hL : 0 < L) (h1 : runB p q a b k L = true) (h2 : ∀ a' b' k', runB p q a' b' k' (L + 1) = false) (h3 : ∀ a' b' k', ltR a' b' k' a b k → runB p q a' b' k' L = false) : shAll p q p.length = (a, b, L, k) := by
  have hs := Seg.all (p := p) (q := q) (Nat.le_refl _)
  have hl : lenR p q a b k = L := by
    have g1 := runB_len.1 h1
    have g2 := h2 a b k
    by_cases e : L + 1 ≤ lenR p q a b k
    · rw [runB_len.2 e] at g2; cases g2
    · omega
  have ha : a < p.length := by
    have := (runAt_p ((of_decide_eq_true h1) 0 hL)).1
    omega
  generalize shAll p q p.length = st at *
  obtain ⟨a', b', L', k'⟩ := st
  obtain ⟨g1, g2⟩ := hs
  have g3 := g1 a b k (.inl ha)
  rw [hl] at g3
  rcases g2 with g2 | ⟨g4, g5, g6, g7⟩
  · simp only [Prod.mk.injEq] at g2
    dsimp only at g3
    omega
  · dsimp only at g3 g4 g5 g6 g7
    have e1 : L' = L := by
      have := h2 a' b' k'
      by_cases e : L + 1 ≤ lenR p q a' b' k'
      · rw [runB_len.2 e] at this; cases this
      · omega
    subst e1
    have h4 : ¬ ltR a' b' k' a b k := fun hh => by
      have := h3 a' b' k' hh
      rw [runB_len.2 (by omega)] at this; cases this
    have h5 : ¬ ltR a b k a' b' k' := fun hh => by
      have := g7 a b k hh
      omega
    cases k <;> cases k' <;> simp [ltR] at h4 h5 <;> first | (exfalso; omega) | (obtain ⟨rfl, rfl⟩ : a' = a ∧ b' = b := by omega); rfl
theorem sh_miss {p q : List Int} (h : ∀ a b k, runB p q a b k 1 = false) : shAll p q p.length = (0, 0, 0, false) := by
  have hs := Seg.all (p := p) (q := q) (Nat.le_refl _)
  generalize shAll p q p.length = st at *
  obtain ⟨a', b', L', k'⟩ := st
  rcases hs.2 with g2 | ⟨g4, g5, g6, g7⟩
  · exact g2
  · dsimp only at g4 g5
    have := h a' b' k'
    rw [runB_len.2 (by omega)] at this; cases this
/-- Which runs there are. -/
theorem sh_spec {p q : List Int} : (∀ a b k, lenR p q a b k ≤ (shAll p q p.length).2.2.1) ∧ (shAll p q p.length = (0, 0, 0, false) ∨ (0 < (shAll p q p.length).2.2.1 ∧ (shAll p q p.length).2.2.1 = lenR p q (shAll p q p.length).1 (shAll p q p.length).2.1 (shAll p q p.length).2.2.2 ∧
    ∀ a' b' k', ltR a' b' k' (shAll p q p.length).1 (shAll p q p.length).2.1 (shAll p q p.length).2.2.2 → lenR p q a' b' k' < (shAll p q p.length).2.2.1)) := by
  have hs := Seg.all (p := p) (q := q) (Nat.le_refl _)
  refine ⟨fun a b k => ?_, ?_⟩
  · by_cases ha : a < p.length
    · exact hs.1 a b k (.inl ha)
    · rw [lenR_zero (fun hh => ha hh.1)]; exact Nat.zero_le _
  · rcases hs.2 with g | ⟨g1, g2, g3, g4⟩
    · exact .inl g
    · exact .inr ⟨g1, g2, g4⟩
end Go.AM
