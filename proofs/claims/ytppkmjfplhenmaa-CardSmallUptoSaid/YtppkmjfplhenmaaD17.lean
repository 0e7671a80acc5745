/-
  Contracts: the longest run.
-/
import Derived.Test.YtppkmjfplhenmaaD16
set_option linter.unusedSimpArgs false
set_option linter.unusedVariables false
namespace Go.AM
open Go.Proofs.Try

/-- The best run so far: where, where, how long, and which way. -/
def shStep (p q : List Int) (a : Nat) (st : Nat × Nat × Nat × Bool) (b : Nat) (back : Bool) : Nat × Nat × Nat × Bool :=
  if st.2.2.1 < extF p q a b back p.length 0 then (a, b, extF p q a b back p.length 0, back) else st
def shRow (p q : List Int) (a : Nat) (L : List Int) (st : Nat × Nat × Nat × Bool) (m : Nat) : Nat × Nat × Nat × Bool :=
  (List.range m).foldl (fun st j => shStep p q a (shStep p q a st (L.getD j 0).toNat false) (L.getD j 0).toNat true) st
def shAll (p q : List Int) (m : Nat) : Nat × Nat × Nat × Bool :=
  (List.range m).foldl (fun st a => shRow p q a (posL q (p.getD a 0) q.length) st (posL q (p.getD a 0) q.length).length) (0, 0, 0, false)
theorem shRow_zero {p q : List Int} {a : Nat} {L : List Int} {st : Nat × Nat × Nat × Bool} : shRow p q a L st 0 = st := rfl
theorem shRow_succ {p q : List Int} {a m : Nat} {L : List Int} {st : Nat × Nat × Nat × Bool} : shRow p q a L st (m + 1) = shStep p q a (shStep p q a (shRow p q a L st m) (L.getD m 0).toNat false) (L.getD m 0).toNat true := by simp [shRow, List.range_succ]
theorem shAll_zero {p q : List Int} : shAll p q 0 = (0, 0, 0, false) := rfl
theorem shAll_succ {p q : List Int} {m : Nat} : shAll p q (m + 1) = shRow p q m (posL q (p.getD m 0) q.length) (shAll p q m) (posL q (p.getD m 0) q.length).length := by simp [shAll, List.range_succ]

/-- card.Share: the run, the error. -/
def shareS (w : Int) (p : List Int) (w' : Int) (q : List Int) : (Nat × Nat × Nat × Bool) × Int :=
  if bothS w p w' q ≠ 0 then ((0, 0, 0, false), bothS w p w' q) else if (shAll p q p.length).2.2.1 = 0 then ((0, 0, 0, false), 6) else (shAll p q p.length, 0)

theorem extF_le {p q : List Int} {a b : Nat} {back : Bool} : ∀ {m n : Nat}, extF p q a b back m n ≤ n + m
  | 0, n => by simp [extF]
  | m + 1, n => by
    simp only [extF]
    split
    · have := extF_le (p := p) (q := q) (a := a) (b := b) (back := back) (m := m) (n := n + 1)
      omega
    · omega

/-- One throw more in the map. -/
theorem map_step {base : Nat} {A : Heap} {q ks : List Int} {i : Nat} (hb : base ≤ A.length) (hi : i < q.length) (hq : q.length ≤ 1000) (hd : ks.Nodup) (hk : ∀ x, x ∈ ks ↔ posL q x i ≠ []) :
    ∃ vl va H1 H2 ks', lookupA prog (A ++ [⟨.map (mkEs (fun x => posL q x i) (A.length + 1) ks), 0⟩] ++ mkRows (fun x => posL q x i) ks) 141 (.map (some A.length)) (.int .i64 (q.getD i 0)) false = some vl ∧
      appendA prog base (A ++ [⟨.map (mkEs (fun x => posL q x i) (A.length + 1) ks), 0⟩] ++ mkRows (fun x => posL q x i) ks) 22 vl (.vals [.int .i64 (i : Int)]) = some (va, H1) ∧
      mapUpdateA prog base H1 141 (.map (some A.length)) (.int .i64 (q.getD i 0)) va = some H2 ∧ H2 = A ++ [⟨.map (mkEs (fun x => posL q x (i + 1)) (A.length + 1) ks'), 0⟩] ++ mkRows (fun x => posL q x (i + 1)) ks' ∧
      ks'.Nodup ∧ (∀ x, x ∈ ks' ↔ posL q x (i + 1) ≠ []) := by
  obtain ⟨x0, hx0⟩ : ∃ x0, q.getD i 0 = x0 := ⟨_, rfl⟩
  rw [hx0]
  have hm : (A ++ [(⟨.map (mkEs (fun x => posL q x i) (A.length + 1) ks), 0⟩ : ABlk)] ++ mkRows (fun x => posL q x i) ks)[A.length]? = some ⟨.map (mkEs (fun x => posL q x i) (A.length + 1) ks), 0⟩ := get_app (by simp)
  have hf : ∀ y, posL q y (i + 1) = if y = x0 then posL q x0 i ++ [(i : Int)] else posL q y i := fun y => by
    rw [posL_succ, hx0]
    by_cases e : y = x0
    · subst e; simp
    · rw [if_neg (fun e2 => e e2.symm), if_neg e]
  have hff : (fun x => posL q x (i + 1)) = fun y => if y = x0 then posL q x0 i ++ [(i : Int)] else posL q y i := funext hf
  have hlen : (posL q x0 i).length ≤ i := posL_len i
  cases hx : ks.idxOf? x0 with
  | some k =>
    obtain ⟨h1, h2, _⟩ := List.idxOf?_eq_some_iff.1 hx
    have hkx : ks[k]? = some x0 := by
      rw [List.getElem?_eq_getElem h1]
      have : ks[k] = x0 := by simpa using h2
      rw [this]
    have hne := (hk _).1 (List.mem_of_getElem? hkx)
    have hrow : (A ++ [(⟨.map (mkEs (fun x => posL q x i) (A.length + 1) ks), 0⟩ : ABlk)] ++ mkRows (fun x => posL q x i) ks)[A.length + 1 + k]? = some (rowB (posL q x0 i) ((posL q x0 i).length - 1)) := by
      rw [List.getElem?_append_right (by simp)]
      simp [mkRows, hkx]
    refine ⟨_, _, _, _, ks, look_some hm hx, app_at hne hrow (by omega) (by omega), upd_some (by rw [get_set_ne (by omega)]; exact hm) hb hx, ?_, hd, ?_⟩
    · rw [hff, mkEs_set hkx hd, mkRows_set hkx hd]
      rw [List.set_append_right _ _ (by simp), List.append_assoc, List.set_append_right _ _ (by omega)]
      simp
    · intro x
      rw [hk x, hf]
      by_cases e : x = x0
      · subst e; simpa using hne
      · rw [if_neg e]
  | none =>
    have hnm : x0 ∉ ks := by
      intro hm'
      have := List.idxOf?_eq_none_iff.1 hx
      exact this hm'
    have hnil : posL q x0 i = [] := by
      cases hp : posL q x0 i with
      | nil => rfl
      | cons y ys => exact absurd ((hk _).2 (by rw [hp]; simp)) hnm
    refine ⟨_, _, _, _, ks ++ [x0], look_none hm hx, app_nil, upd_none (get_app hm) hb hx, ?_, ?_, ?_⟩
    · have c1 : ∀ y ∈ ks, posL q y (i + 1) = posL q y i := fun y hy => by
        have hne : y ≠ x0 := fun e => hnm (by rw [← e]; exact hy)
        rw [hf, if_neg hne]
      rw [mkEs_app, mkEs_congr c1, hf, if_pos rfl, hnil]
      have c2 : mkRows (fun x => posL q x (i + 1)) (ks ++ [x0]) = mkRows (fun x => posL q x i) ks ++ [rowB [(i : Int)] 0] := by
        unfold mkRows
        rw [List.map_append]
        congr 1
        · exact List.map_congr_left fun y hy => by dsimp only; rw [c1 y hy]
        · simp only [List.map_cons, List.map_nil]
          rw [hf, if_pos rfl, hnil]
          rfl
      rw [c2, List.append_assoc, List.append_assoc, List.set_append_right _ _ (Nat.le_refl _)]
      simp [mkRows]
      rw [show A.length + (ks.length + 1) = A.length + 1 + ks.length by omega]
    · rw [List.nodup_append]
      refine ⟨hd, by simp, fun z hz y hy e => ?_⟩
      simp at hy
      exact hnm (by rw [← hy, ← e]; exact hz)
    · intro x
      rw [List.mem_append, hk x, hf]
      by_cases e : x = x0
      · subst e; simp
      · rw [if_neg e]; simp [e]

theorem look_ints {A : Heap} {q ks : List Int} {x : Int} (hq : q.length ≤ 1000) (hk : ∀ x, x ∈ ks ↔ posL q x q.length ≠ []) :
    ∃ v, (∀ {T : Heap}, lookupA prog (A ++ [⟨.map (mkEs (fun x => posL q x q.length) (A.length + 1) ks), 0⟩] ++ mkRows (fun x => posL q x q.length) ks ++ T) 141 (.map (some A.length)) (.int .i64 x) false = some v) ∧
      Ints (A ++ [⟨.map (mkEs (fun x => posL q x q.length) (A.length + 1) ks), 0⟩] ++ mkRows (fun x => posL q x q.length) ks) v (posL q x q.length) := by
  have hm : ∀ {T : Heap}, (A ++ [(⟨.map (mkEs (fun x => posL q x q.length) (A.length + 1) ks), 0⟩ : ABlk)] ++ mkRows (fun x => posL q x q.length) ks ++ T)[A.length]? = some ⟨.map (mkEs (fun x => posL q x q.length) (A.length + 1) ks), 0⟩ := fun {T} => get_app (get_app (by simp))
  have hsm : ∀ y ∈ posL q x q.length, -9223372036854775808 ≤ y ∧ y < 9223372036854775808 := fun y hy => by have := posL_mem hy; omega
  have hlen := posL_len (q := q) (x := x) q.length
  cases hx : ks.idxOf? x with
  | some k =>
    obtain ⟨h1, h2, _⟩ := List.idxOf?_eq_some_iff.1 hx
    have hkx : ks[k]? = some x := by
      rw [List.getElem?_eq_getElem h1]
      have : ks[k] = x := by simpa using h2
      rw [this]
    have hne := (hk _).1 (List.mem_of_getElem? hkx)
    refine ⟨_, fun {T} => look_some hm hx, ?_⟩
    have hrow : (A ++ [(⟨.map (mkEs (fun x => posL q x q.length) (A.length + 1) ks), 0⟩ : ABlk)] ++ mkRows (fun x => posL q x q.length) ks)[A.length + 1 + k]? = some (rowB (posL q x q.length) ((posL q x q.length).length - 1)) := by
      rw [List.getElem?_append_right (by simp)]
      simp [mkRows, hkx]
    refine ⟨⟨by omega, hsm⟩, .inr (.inr ⟨⟨A.length + 1 + k, (posL q x q.length).length - 1, 0⟩, (posL q x q.length).length, ints (posL q x q.length), 3, true, false, ?_, hrow, ?_, by simp [ints_length], Nat.le_refl _⟩)⟩
    · cases hp : posL q x q.length with
      | nil => exact absurd hp hne
      | cons y ys => rfl
    · simp only [List.drop_zero]
      rw [List.take_of_length_le (by rw [ints_length]; exact Nat.le_refl _)]
  | none =>
    have hnil : posL q x q.length = [] := by
      cases hp : posL q x q.length with
      | nil => rfl
      | cons y ys => exact absurd ((hk _).2 (by rw [hp]; simp)) (List.idxOf?_eq_none_iff.1 hx)
    exact ⟨_, fun {T} => look_none hm hx, by rw [hnil]; exact ⟨⟨by simp, by simp⟩, .inl ⟨rfl, rfl⟩⟩⟩
end Go.AM
