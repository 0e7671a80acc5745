/-
  Plain: chains with other names of cards and threads.
-/
import Derived.Test.YteanoaejoddnbaaU14
import Derived.Test.YteanoaejoddnbaaU18
import Derived.Test.YteanoaejoddnbaaU17
set_option linter.unusedSimpArgs false
set_option linter.unusedVariables false
namespace Go.AM
/-! ### Sets of threads with other names -/
def setR (τ : List Int) (m : Nat) : Nat → Nat
  | 0 => 0
  | k + 1 => setR τ m k ||| (((m >>> k) &&& 1) <<< (τ.getD k 0).toNat)
def setN (τ : List Int) (m : Nat) : Nat := setR τ m τ.length
theorem setR_bit {τ : List Int} {m j : Nat} : ∀ {k}, (setR τ m k).testBit j = true ↔ ∃ i, i < k ∧ (τ.getD i 0).toNat = j ∧ m.testBit i = true
  | 0 => by simp [setR]
  | k + 1 => by
    rw [setR, Nat.testBit_or, Bool.or_eq_true, setR_bit (k := k), Nat.testBit_shiftLeft]
    have e : ∀ j', ((m >>> k) &&& 1).testBit j' = (decide (j' = 0) && m.testBit k) := fun j' => by
      rw [Nat.testBit_and, Nat.testBit_shiftRight]
      cases j' with
      | zero => simp
      | succ j' => rw [Nat.testBit_succ]; simp
    rw [e]
    constructor
    · rintro (⟨i, h1, h2, h3⟩ | h)
      · exact ⟨i, by omega, h2, h3⟩
      · simp only [Bool.and_eq_true, decide_eq_true_eq] at h
        exact ⟨k, by omega, by omega, h.2.2⟩
    · rintro ⟨i, h1, h2, h3⟩
      by_cases q : i = k
      · subst q
        right
        simp only [Bool.and_eq_true, decide_eq_true_eq]
        exact ⟨by omega, by omega, h3⟩
      · left; exact ⟨i, by omega, h2, h3⟩
theorem setN_bit {τ : List Int} {m j : Nat} : (setN τ m).testBit j = true ↔ ∃ i, i < τ.length ∧ (τ.getD i 0).toNat = j ∧ m.testBit i = true := setR_bit
theorem tau_inj {T : Nat} {τ : List Int} (h : Ord T τ) {i j : Nat} (hi : i < τ.length) (hj : j < τ.length) (e : (τ.getD i 0).toNat = (τ.getD j 0).toNat) : i = j := by
  have hl := h.1
  have h1 := h.2.1 _ (getD_mem' (d := 0) (l := τ) (i := i) hi)
  have h2 := h.2.1 _ (getD_mem' (d := 0) (l := τ) (i := j) hj)
  exact ord_inj h (by omega) (by omega) (by omega)
theorem setN_at {T : Nat} {τ : List Int} (h : Ord T τ) {m i : Nat} (hi : i < T) : (setN τ m).testBit (τ.getD i 0).toNat = m.testBit i := by
  have hl := h.1
  rw [Bool.eq_iff_iff, setN_bit]
  constructor
  · rintro ⟨i', h1, h2, h3⟩
    rw [tau_inj h h1 (by omega) h2] at h3
    exact h3
  · exact fun q => ⟨i, by omega, rfl, q⟩
theorem setN_and {T : Nat} {τ : List Int} (h : Ord T τ) {a b : Nat} : setN τ (a &&& b) = setN τ a &&& setN τ b := by
  refine Nat.eq_of_testBit_eq fun j => ?_
  rw [Bool.eq_iff_iff, Nat.testBit_and, Bool.and_eq_true, setN_bit, setN_bit, setN_bit]
  constructor
  · rintro ⟨i, h1, h2, h3⟩
    rw [Nat.testBit_and, Bool.and_eq_true] at h3
    exact ⟨⟨i, h1, h2, h3.1⟩, ⟨i, h1, h2, h3.2⟩⟩
  · rintro ⟨⟨i, h1, h2, h3⟩, ⟨i', g1, g2, g3⟩⟩
    have := tau_inj h h1 g1 (by omega)
    subst this
    exact ⟨i, h1, h2, by rw [Nat.testBit_and, h3, g3]; rfl⟩
theorem setN_inj {T : Nat} {τ : List Int} (h : Ord T τ) {a b : Nat} (ha : a < 2 ^ T) (hb : b < 2 ^ T) (e : setN τ a = setN τ b) : a = b := by
  refine Nat.eq_of_testBit_eq fun i => ?_
  by_cases hi : i < T
  · rw [← setN_at h hi, ← setN_at h hi, e]
  · have hp : 2 ^ T ≤ 2 ^ i := Nat.pow_le_pow_right (by decide) (by omega)
    rw [Nat.testBit_lt_two_pow (Nat.lt_of_lt_of_le ha hp), Nat.testBit_lt_two_pow (Nat.lt_of_lt_of_le hb hp)]
theorem setN_lt {T : Nat} {τ : List Int} (h : Ord T τ) {m : Nat} : setN τ m < 2 ^ T := by
  refine Nat.lt_pow_two_of_testBit _ fun j hj => ?_
  rw [Bool.eq_false_iff]
  intro q
  obtain ⟨i, h1, h2, _⟩ := setN_bit.1 q
  have := h.2.1 _ (getD_mem' (d := 0) (l := τ) (i := i) h1)
  omega
theorem setR_lt {T : Nat} {τ : List Int} (h : Ord T τ) {m k : Nat} (hk : k ≤ τ.length) : setR τ m k < 2 ^ T := by
  refine Nat.lt_pow_two_of_testBit _ fun j hj => ?_
  rw [Bool.eq_false_iff]
  intro q
  obtain ⟨i, h1, h2, _⟩ := setR_bit.1 q
  have := h.2.1 _ (getD_mem' (d := 0) (l := τ) (i := i) (by omega))
  omega
/-! ### Chains -/
/-- The same chain with cards π and threads τ. -/
structure RenL (L M : Lac) (π τ : List Int) : Prop where
  pi : Ord L.C.length π
  ta : Ord L.T.toNat τ
  T : M.T = L.T
  n : M.C.length = L.C.length
  c : ∀ k, k < L.C.length → M.C.getD (π.getD k 0).toNat 0 = (setN τ (L.C.getD k 0).toNat : Nat)
  m : M.R.length = L.R.length
  r : ∀ (i : Nat) (x : Rw3), L.R[i]? = some x → ∃ s : Nat, s ≤ 2 ∧ M.R[i]? = some (x.1 + (s : Int) * (L.C.length : Int), ((setN τ x.2.1.toNat : Nat) : Int), ((setN τ x.2.2.toNat : Nat) : Int))
theorem ord_pos {n : Nat} {π : List Int} (h : Ord n π) {x : Nat} (hx : x < n) : ∃ k, k < n ∧ (π.getD k 0).toNat = x := by
  have hm := ord_all h (x := (x : Int)) (by omega)
  obtain ⟨k, hk, e⟩ := List.mem_iff_getElem.1 hm
  refine ⟨k, by have := h.1; omega, ?_⟩
  rw [getD_at hk, e]; rfl
theorem two_pow_cast (n : Nat) : ((2 : Int) ^ n) = ((2 ^ n : Nat) : Int) := by norm_cast
theorem RenL.ok {L M : Lac} {π τ : List Int} (h : RenL L M π τ) (hL : LacOk L) (ht : ∀ r ∈ L.R, r.1 ≤ 60) : LacOk M := by
  have hp := fun m => setN_lt h.ta (m := m)
  have hc : ∀ x, x < M.C.length → ∃ k, k < L.C.length ∧ (π.getD k 0).toNat = x ∧ M.C.getD x 0 = (setN τ (L.C.getD k 0).toNat : Nat) := fun x hx => by
    rw [h.n] at hx
    obtain ⟨k, hk, e⟩ := ord_pos h.pi hx
    exact ⟨k, hk, e, by rw [← e]; exact h.c k hk⟩
  have hpw := two_pow_cast L.T.toNat
  have hn := hL.n
  refine ⟨by rw [h.T]; exact hL.T, by rw [h.n]; exact hL.n, by rw [h.m]; exact hL.m, fun x hx => ?_, fun r hr => ?_, ?_⟩
  · obtain ⟨i, hi, e⟩ := List.mem_iff_getElem.1 hx
    obtain ⟨k, hk, _, e2⟩ := hc i hi
    rw [getD_at hi, e] at e2
    have := hp (L.C.getD k 0).toNat
    rw [h.T, e2, hpw]
    omega
  · obtain ⟨i, hi, e⟩ := List.mem_iff_getElem.1 hr
    have hx : L.R[i]? = some (L.R[i]'(by rw [← h.m]; exact hi)) := List.getElem?_eq_getElem _
    obtain ⟨s, hs, e2⟩ := h.r i _ hx
    have hm := List.mem_of_getElem? hx
    obtain ⟨x, ex⟩ : ∃ x, x = L.R[i]'(by rw [← h.m]; exact hi) := ⟨_, rfl⟩
    rw [← ex] at e2 hm
    rw [List.getElem?_eq_getElem hi, e] at e2
    have e3 := Option.some.inj e2
    obtain ⟨a1, a2, a3, a4⟩ := hL.r x hm
    have a0 := ht x hm
    have b1 := hp x.2.1.toNat
    have b2 := hp x.2.2.toNat
    have hmul : (s : Int) * (L.C.length : Int) ≤ 2 * 7 := Int.mul_le_mul (by omega) (by omega) (by omega) (by omega)
    have hmul0 : 0 ≤ (s : Int) * (L.C.length : Int) := Int.mul_nonneg (by omega) (by omega)
    rw [e3, h.T, hpw]
    refine ⟨by simp only; omega, by simp only; omega, by simp only; omega, ?_⟩
    simp only [Int.toNat_natCast]
    rw [← setN_and h.ta, a4]
  · rw [List.nodup_iff_pairwise_ne, List.pairwise_iff_getElem]
    intro i j hi hj hij e
    obtain ⟨k, hk, k1, k2⟩ := hc i hi
    obtain ⟨k', hk', k1', k2'⟩ := hc j hj
    rw [getD_at hi] at k2
    rw [getD_at hj] at k2'
    have e2 : setN τ (L.C.getD k 0).toNat = setN τ (L.C.getD k' 0).toNat := by
      have : ((setN τ (L.C.getD k 0).toNat : Nat) : Int) = ((setN τ (L.C.getD k' 0).toNat : Nat) : Int) := by rw [← k2, ← k2', e]
      exact_mod_cast this
    have c1 := hL.c _ (getD_mem' (d := 0) (l := L.C) (i := k) hk)
    have c2 := hL.c _ (getD_mem' (d := 0) (l := L.C) (i := k') hk')
    rw [hpw] at c1 c2
    have e3 := setN_inj h.ta (by omega) (by omega) e2
    have e4 : L.C.getD k 0 = L.C.getD k' 0 := by omega
    rw [getD_at hk, getD_at hk'] at e4
    have := nodup_inj hL.d _ _ e4
    subst this
    omega
theorem RenL.fit {L M : Lac} {π τ : List Int} (h : RenL L M π τ) (hL : LacOk L) {p k : Nat} (hk : k < L.C.length) : fitB M p (π.getD k 0).toNat = fitB L p k := by
  have hpw := two_pow_cast L.T.toNat
  have hck := hL.c _ (getD_mem' (d := 0) (l := L.C) (i := k) hk)
  rw [hpw] at hck
  have one : ∀ (s : Nat) (x : Rw3), x ∈ L.R → (x.1 + (s : Int) * (L.C.length : Int)).toNat % L.C.length = x.1.toNat % L.C.length := fun s x hx => by
    obtain ⟨a1, _⟩ := hL.r x hx
    obtain ⟨t, et⟩ := Int.eq_ofNat_of_zero_le a1.1
    rw [et, Int.toNat_natCast]
    have : ((t : Int) + (s : Int) * (L.C.length : Int)).toNat = t + s * L.C.length := by
      have : (t : Int) + (s : Int) * (L.C.length : Int) = ((t + s * L.C.length : Nat) : Int) := by push_cast; rfl
      rw [this, Int.toNat_natCast]
    rw [this, Nat.add_mul_mod_self_right]
  have two : ∀ x : Rw3, x ∈ L.R → ((L.C.getD k 0).toNat &&& x.2.1.toNat = x.2.2.toNat ↔ setN τ (L.C.getD k 0).toNat &&& setN τ x.2.1.toNat = setN τ x.2.2.toNat) := fun x hx => by
    obtain ⟨a1, a2, a3, a4⟩ := hL.r x hx
    rw [hpw] at a2 a3
    rw [← setN_and h.ta]
    refine ⟨fun q => by rw [q], fun q => setN_inj h.ta (Nat.lt_of_le_of_lt Nat.and_le_left (by omega)) (by omega) q⟩
  rw [Bool.eq_iff_iff, fitB_iff, fitB_iff]
  constructor
  · intro q x hx e
    obtain ⟨i, hi, ei⟩ := List.mem_iff_getElem.1 hx
    obtain ⟨s, hs, e2⟩ := h.r i x (by rw [List.getElem?_eq_getElem hi, ei])
    have := q _ (List.mem_of_getElem? e2) (by rw [h.n]; simp only; rw [one s x hx]; exact e)
    rw [h.c k hk] at this
    simp only [Int.toNat_natCast] at this
    exact (two x hx).2 this
  · intro q y hy e
    obtain ⟨i, hi, ei⟩ := List.mem_iff_getElem.1 hy
    have hx : L.R[i]? = some (L.R[i]'(by rw [← h.m]; exact hi)) := List.getElem?_eq_getElem _
    obtain ⟨x, ex⟩ : ∃ x, x = L.R[i]'(by rw [← h.m]; exact hi) := ⟨_, rfl⟩
    rw [← ex] at hx
    have hm := List.mem_of_getElem? hx
    obtain ⟨s, hs, e2⟩ := h.r i x hx
    rw [List.getElem?_eq_getElem hi, ei] at e2
    have e3 := Option.some.inj e2
    rw [e3] at e ⊢
    rw [h.n] at e
    simp only at e
    rw [one s x hm] at e
    rw [h.c k hk]
    simp only [Int.toNat_natCast]
    exact (two x hm).1 (q x hm e)
/-- Orders with other cards. -/
def renO (π o : List Int) : List Int := o.map fun x => π.getD x.toNat 0
theorem renO_at {π o : List Int} {i : Nat} (hi : i < o.length) : (renO π o).getD i 0 = π.getD (o.getD i 0).toNat 0 := by
  have h1 : i < (renO π o).length := by simpa [renO] using hi
  rw [getD_at h1, getD_at hi]
  simp [renO]
theorem renO_ord {n : Nat} {π o : List Int} (hp : Ord n π) (ho : Ord n o) : Ord n (renO π o) := by
  refine ⟨by simp [renO, ho.1], fun x hx => ?_, ?_⟩
  · obtain ⟨y, hy, e⟩ := List.mem_map.1 hx
    have hy' := ho.2.1 y hy
    rw [← e]
    exact hp.2.1 _ (getD_mem' (d := 0) (by have := hp.1; omega))
  · rw [List.nodup_iff_pairwise_ne, List.pairwise_iff_getElem]
    intro i j hi hj hij e
    have hi' : i < o.length := by simpa [renO] using hi
    have hj' : j < o.length := by simpa [renO] using hj
    rw [← getD_at (d := 0) hi, ← getD_at (d := 0) hj, renO_at hi', renO_at hj'] at e
    have b1 := ho.2.1 _ (getD_mem' (d := 0) (l := o) (i := i) hi')
    have b2 := ho.2.1 _ (getD_mem' (d := 0) (l := o) (i := j) hj')
    have h1 := ord_inj hp (by omega) (by omega) e
    have hl := ho.1
    have := ord_inj ho (i := i) (j := j) (by omega) (by omega) (by omega)
    omega
theorem renO_xpl {L M : Lac} {π τ o : List Int} (h : RenL L M π τ) (hL : LacOk L) (ho : Ord L.C.length o) : Xpl M (renO π o) ↔ Xpl L o := by
  have hl : (renO π o).length = o.length := by simp [renO]
  have key : ∀ i, i < o.length → fitB M i ((renO π o).getD i 0).toNat = fitB L i (o.getD i 0).toNat := fun i hi => by
    have b1 := ho.2.1 _ (getD_mem' (d := 0) (l := o) (i := i) hi)
    rw [renO_at hi]
    exact h.fit hL (by omega)
  unfold Xpl
  rw [hl]
  exact ⟨fun q i hi => by rw [← key i hi]; exact q i hi, fun q i hi => by rw [key i hi]; exact q i hi⟩
/-- What explains the rows of one chain, with other cards, explains those of the other. -/
theorem fnd_to {L M : Lac} {π τ o : List Int} (h : RenL L M π τ) (hL : LacOk L) (ho : o ∈ fnd L) : renO π o ∈ fnd M := by
  obtain ⟨h1, h2⟩ := fnd_mem.1 ho
  refine fnd_mem.2 ⟨by rw [h.n]; exact renO_ord h.pi h1, (renO_xpl h hL h1).2 h2⟩
theorem fnd_from {L M : Lac} {π τ o : List Int} (h : RenL L M π τ) (hL : LacOk L) (ho : o ∈ fnd M) : ∃ u, u ∈ fnd L ∧ renO π u = o := by
  obtain ⟨h1, h2⟩ := fnd_mem.1 ho
  rw [h.n] at h1
  have hx : ∀ i, ∃ k, i < L.C.length → k < L.C.length ∧ π.getD k 0 = o.getD i 0 := fun i => by
    by_cases hi : i < L.C.length
    · have b := h1.2.1 _ (getD_mem' (d := 0) (l := o) (i := i) (by rw [h1.1]; exact hi))
      obtain ⟨k, hk, e⟩ := ord_pos h.pi (x := (o.getD i 0).toNat) (by omega)
      have b2 := h.pi.2.1 _ (getD_mem' (d := 0) (l := π) (i := k) (by rw [h.pi.1]; exact hk))
      exact ⟨k, fun _ => ⟨hk, by omega⟩⟩
    · exact ⟨0, fun q => absurd q hi⟩
  obtain ⟨f, hf⟩ := Classical.axiomOfChoice hx
  obtain ⟨u, eu⟩ : ∃ u : List Int, u = lst (fun i => (f i : Int)) L.C.length := ⟨_, rfl⟩
  have hul : u.length = L.C.length := by rw [eu, lst_len]
  have hua : ∀ i, i < L.C.length → u.getD i 0 = (f i : Int) := fun i hi => by rw [eu, lst_get hi]
  have ho' : Ord L.C.length u := by
    refine ⟨hul, fun x hx => ?_, ?_⟩
    · obtain ⟨i, hi, e⟩ := List.mem_iff_getElem.1 hx
      have hi' : i < L.C.length := by omega
      have := hua i hi'
      rw [getD_at hi, e] at this
      have := (hf i hi').1
      omega
    · rw [List.nodup_iff_pairwise_ne, List.pairwise_iff_getElem]
      intro i j hi hj hij e
      have e1 := hua i (by omega)
      have e2 := hua j (by omega)
      rw [getD_at hi] at e1
      rw [getD_at hj, ← e, e1] at e2
      have g1 := (hf i (by omega)).2
      have g2 := (hf j (by omega)).2
      have e3 : f i = f j := by omega
      rw [e3, g2] at g1
      have := ord_inj h1 (i := j) (j := i) (by omega) (by omega) g1
      omega
  have hr : renO π u = o := by
    refine lst_ext (by simp [renO, hul, h1.1]) fun i hi => ?_
    have hi' : i < u.length := by simpa [renO] using hi
    rw [renO_at hi', hua i (by omega), Int.toNat_natCast]
    exact (hf i (by omega)).2
  refine ⟨u, fnd_mem.2 ⟨ho', (renO_xpl h hL ho').1 (by rw [hr]; exact h2)⟩, hr⟩
theorem renO_inj {n : Nat} {π o u : List Int} (hp : Ord n π) (ho : Ord n o) (hu : Ord n u) (e : renO π o = renO π u) : o = u := by
  refine lst_ext (by rw [ho.1, hu.1]) fun i hi => ?_
  have hiu : i < u.length := by rw [hu.1, ← ho.1]; exact hi
  have e1 : (renO π o).getD i 0 = (renO π u).getD i 0 := by rw [e]
  rw [renO_at hi, renO_at hiu] at e1
  have b1 := ho.2.1 _ (getD_mem' (d := 0) (l := o) (i := i) hi)
  have b2 := hu.2.1 _ (getD_mem' (d := 0) (l := u) (i := i) hiu)
  have := ord_inj hp (by omega) (by omega) e1
  omega
theorem fnd_count {L M : Lac} {π τ : List Int} (h : RenL L M π τ) (hL : LacOk L) : (fnd M).length = (fnd L).length := by
  refine Nat.le_antisymm ?_ ?_
  · refine pigeon (R := fun a b => renO π b = a) fnd_nodup (fun a ha => fnd_from h hL ha) fun a _ c _ b _ h1 h2 => by rw [← h1, ← h2]
  · refine pigeon (R := fun a b => renO π a = b) fnd_nodup (fun a ha => ⟨_, fnd_to h hL ha, rfl⟩) fun a ha c hc b _ h1 h2 => ?_
    exact renO_inj h.pi (fnd_mem.1 ha).1 (fnd_mem.1 hc).1 (by rw [h1, h2])
end Go.AM
/-
  Plain: what is known, and what decides, with other names.
-/
namespace Go.AM
theorem dcdP_inj {os : List (List Int)} {z : List Int} (hn : os.Nodup) : dcdP os z = true ↔ ∀ a ∈ os, ∀ b ∈ os, keyL z a = keyL z b → a = b := by
  unfold dcdP
  rw [decide_eq_true_eq, List.nodup_iff_pairwise_ne, List.pairwise_map, List.pairwise_iff_getElem]
  constructor
  · intro h a ha b hb e
    obtain ⟨i, hi, rfl⟩ := List.mem_iff_getElem.1 ha
    obtain ⟨j, hj, rfl⟩ := List.mem_iff_getElem.1 hb
    rcases Nat.lt_trichotomy i j with q | q | q
    · exact absurd e (h i j hi hj q)
    · subst q; rfl
    · exact absurd e.symm (h j i hj hi q)
  · intro h i j hi hj hij e
    have e2 := h _ (List.getElem_mem hi) _ (List.getElem_mem hj) e
    exact List.pairwise_iff_getElem.1 (List.nodup_iff_pairwise_ne.1 hn) i j hi hj hij e2
theorem keyL_ren {n : Nat} {π o u z : List Int} (hp : Ord n π) (ho : Ord n o) (hu : Ord n u) (hz : ∀ p ∈ z, 0 ≤ p ∧ p < (n : Int)) : keyL z (renO π o) = keyL z (renO π u) ↔ keyL z o = keyL z u := by
  unfold keyL
  rw [List.map_inj_left, List.map_inj_left]
  have key : ∀ p ∈ z, ((renO π o).getD p.toNat 0 = (renO π u).getD p.toNat 0 ↔ o.getD p.toNat 0 = u.getD p.toNat 0) := fun p hpz => by
    have hb := hz p hpz
    have h1 : p.toNat < o.length := by rw [ho.1]; omega
    have h2 : p.toNat < u.length := by rw [hu.1]; omega
    have b1 := ho.2.1 _ (getD_mem' (d := 0) (l := o) (i := p.toNat) h1)
    have b2 := hu.2.1 _ (getD_mem' (d := 0) (l := u) (i := p.toNat) h2)
    rw [renO_at h1, renO_at h2]
    refine ⟨fun e => ?_, fun e => by rw [e]⟩
    have := ord_inj hp (by omega) (by omega) e
    omega
  exact ⟨fun h p hpz => (key p hpz).1 (h p hpz), fun h p hpz => (key p hpz).2 (h p hpz)⟩
theorem dcdP_ren {L M : Lac} {π τ z : List Int} (h : RenL L M π τ) (hL : LacOk L) (hz : ∀ p ∈ z, 0 ≤ p ∧ p < (L.C.length : Int)) : dcdP (fnd M) z = dcdP (fnd L) z := by
  rw [Bool.eq_iff_iff, dcdP_inj fnd_nodup, dcdP_inj fnd_nodup]
  constructor
  · intro q a ha b hb e
    have h1 := (fnd_mem.1 ha).1
    have h2 := (fnd_mem.1 hb).1
    exact renO_inj h.pi h1 h2 (q _ (fnd_to h hL ha) _ (fnd_to h hL hb) ((keyL_ren h.pi h1 h2 hz).2 e))
  · intro q a ha b hb e
    obtain ⟨a', ha', rfl⟩ := fnd_from h hL ha
    obtain ⟨b', hb', rfl⟩ := fnd_from h hL hb
    have h1 := (fnd_mem.1 ha').1
    have h2 := (fnd_mem.1 hb').1
    rw [q _ ha' _ hb' ((keyL_ren h.pi h1 h2 hz).1 e)]
theorem dcdL_ren {L M : Lac} {π τ : List Int} (h : RenL L M π τ) (hL : LacOk L) : dcdL M.C.length (fnd M) = dcdL L.C.length (fnd L) := by
  obtain ⟨-, -, a1, a2, a3⟩ := dcdL_is (n := L.C.length) (fnd_nodup (L := L)) fun o ho => (fnd_mem.1 ho).1.1
  obtain ⟨-, -, b1, b2, b3⟩ := dcdL_is (n := M.C.length) (fnd_nodup (L := M)) fun o ho => (fnd_mem.1 ho).1.1
  rw [h.n] at b1 b2 b3 ⊢
  have inr : ∀ z : List Int, z.Sublist (upto L.C.length) → ∀ p ∈ z, 0 ≤ p ∧ p < (L.C.length : Int) := fun z hz p hp => upto_mem.1 (hz.subset hp)
  refine isDec_one (n := L.C.length) (os := fnd L) ⟨b1, by rw [← dcdP_ren h hL (inr _ b1)]; exact b2, fun y hy hd => b3 y hy (by rw [dcdP_ren h hL (inr _ hy)]; exact hd)⟩ ⟨a1, a2, a3⟩
/-- What is known at a position, or that two orders differ there. -/
theorem knw_is {n p : Nat} {os : List (List Int)} (hp : p < n) (h0 : os ≠ []) (ho : ∀ o ∈ os, Ord n o) : (0 ≤ (knwL n os).getD p 0 ∧ (knwL n os).getD p 0 < (n : Int) ∧ ∀ o ∈ os, o.getD p 0 = (knwL n os).getD p 0) ∨ ((knwL n os).getD p 0 = -1 ∧ ∃ o ∈ os, ∃ u ∈ os, o.getD p 0 ≠ u.getD p 0) := by
  have hh : os.headD [] ∈ os := by
    cases q : os with
    | nil => exact absurd q h0
    | cons a l => simp
  have e : (knwL n os).getD p 0 = if (os.all fun x => decide (x.getD p 0 = (os.headD []).getD p 0)) = true then (os.headD []).getD p 0 else -1 := by unfold knwL; rw [lst_get hp]
  rw [e]
  have hb := (ho _ hh).2.1 _ (getD_mem' (d := 0) (l := os.headD []) (i := p) (by rw [(ho _ hh).1]; exact hp))
  by_cases c : (os.all fun x => decide (x.getD p 0 = (os.headD []).getD p 0)) = true
  · rw [if_pos c]
    exact .inl ⟨hb.1, hb.2, fun o hoo => of_decide_eq_true (List.all_eq_true.1 c o hoo)⟩
  · rw [if_neg c]
    rw [List.all_eq_true] at c
    refine .inr ⟨rfl, Classical.byContradiction fun q => c fun x hx => decide_eq_true ?_⟩
    exact Classical.byContradiction fun w => q ⟨x, hx, _, hh, w⟩
theorem knw_ren {L M : Lac} {π τ : List Int} (h : RenL L M π τ) (hL : LacOk L) (h0 : fnd L ≠ []) {p : Nat} (hp : p < L.C.length) : ((knwL L.C.length (fnd L)).getD p 0 = -1 ∧ (knwL L.C.length (fnd M)).getD p 0 = -1) ∨ ((0 ≤ (knwL L.C.length (fnd L)).getD p 0 ∧ (knwL L.C.length (fnd L)).getD p 0 < (L.C.length : Int)) ∧ (knwL L.C.length (fnd M)).getD p 0 = π.getD ((knwL L.C.length (fnd L)).getD p 0).toNat 0) := by
  have ho1 : ∀ o ∈ fnd L, Ord L.C.length o := fun o ho => (fnd_mem.1 ho).1
  have ho2 : ∀ o ∈ fnd M, Ord L.C.length o := fun o ho => by rw [← h.n]; exact (fnd_mem.1 ho).1
  have h0' : fnd M ≠ [] := fun q => by
    have := fnd_count h hL
    rw [q] at this
    exact h0 (List.eq_nil_of_length_eq_zero this.symm)
  obtain ⟨x, hx⟩ := List.exists_mem_of_ne_nil _ h0
  have at_ : ∀ o ∈ fnd L, (renO π o).getD p 0 = π.getD (o.getD p 0).toNat 0 := fun o ho => renO_at (by rw [(ho1 o ho).1]; exact hp)
  rcases knw_is hp h0 ho1 with ⟨a1, a2, a3⟩ | ⟨a1, o, ho, u, hu, a2⟩
  · refine .inr ⟨⟨a1, a2⟩, ?_⟩
    rcases knw_is hp h0' ho2 with ⟨b1, b2, b3⟩ | ⟨b1, o', ho', u', hu', b2⟩
    · rw [← b3 _ (fnd_to h hL hx), at_ x hx, a3 x hx]
    · obtain ⟨o, ho, rfl⟩ := fnd_from h hL ho'
      obtain ⟨u, hu, rfl⟩ := fnd_from h hL hu'
      rw [at_ o ho, at_ u hu, a3 o ho, a3 u hu] at b2
      exact absurd rfl b2
  · refine .inl ⟨a1, ?_⟩
    rcases knw_is hp h0' ho2 with ⟨b1, b2, b3⟩ | ⟨b1, _⟩
    · have e1 := b3 _ (fnd_to h hL ho)
      have e2 := b3 _ (fnd_to h hL hu)
      rw [at_ o ho] at e1
      rw [at_ u hu] at e2
      have c1 := (ho1 o ho).2.1 _ (getD_mem' (d := 0) (l := o) (i := p) (by rw [(ho1 o ho).1]; exact hp))
      have c2 := (ho1 u hu).2.1 _ (getD_mem' (d := 0) (l := u) (i := p) (by rw [(ho1 u hu).1]; exact hp))
      have := ord_inj h.pi (by omega) (by omega) (e1.trans e2.symm)
      exact absurd (by omega) a2
    · exact b1
end Go.AM
/-
  LaceNamed: other names of threads.
-/
namespace Go.AM
open Go.Proofs.Try
theorem dschL74 {p : Prop} (h : p := by first | exact Nat.ne_of_beq_eq_false rfl | assumption | (apply asOne; (first | exact One.int | exact One.bool | assumption | exact Ints.one (by assumption) | exact Rows.one (by assumption) | exact Own.one (by assumption) | exact One.lit ⟨rfl, rfl, rfl⟩)) | (apply asInts; (repeat first | assumption | exact ints_nil | apply Ints.app); done) | (apply asRows; (repeat first | assumption | exact Rows.nil | apply Rows.app); done) | (apply asScal; (first | apply allS1 | apply allS2 | apply allS3 | apply allS4) <;> (first | exact One.int | exact One.bool | assumption | exact Ints.one (by assumption) | exact Rows.one (by assumption) | exact Own.one (by assumption) | exact One.lit ⟨rfl, rfl, rfl⟩)) | exact litT rfl | exact litF rfl | omega | (simp only [List.length_append, List.length_cons, List.length_nil, List.length_set, List.length_reverse]; first | done | omega) | fail) : p := h
attribute [-go_sem] put_ne put_same
attribute [local go_sem ↓] put_if
theorem shrN {t : TypeId} {a k : Nat} (ha : a < 2 ^ 62) (hk : k ≤ 60) : binA prog .shr t (.int .i64 (a : Int)) (.int .i64 (k : Int)) = some (.int .i64 ((a >>> k : Nat) : Int)) := by
  rw [bin_shr (by omega)]
  have hm : min (k : Int).toNat IntKind.i64.bits = k := by
    have : IntKind.i64.bits = 64 := rfl
    omega
  rw [hm]
  congr 2
  rw [Nat.shiftRight_eq_div_pow]
  rw [Int.fdiv_eq_ediv_of_nonneg _ (by exact_mod_cast Nat.zero_le (2 ^ k))]
  push_cast
  rfl
theorem shlB {a w : Nat} (ha : a ≤ 1) (hw : w ≤ 60) : binA prog .shl 3 (.int .i64 (a : Int)) (.int .i64 (w : Int)) = some (.int .i64 ((a <<< w : Nat) : Int)) := by
  rw [bin_shl (by omega)]
  have hm : min (w : Int).toNat IntKind.i64.bits = w := by
    have : IntKind.i64.bits = 64 := rfl
    omega
  have h1 : 2 ^ w ≤ 2 ^ 60 := Nat.pow_le_pow_right (by decide) hw
  have e : (a : Int) * 2 ^ w = ((a <<< w : Nat) : Int) := by
    rw [Nat.shiftLeft_eq]
    push_cast
    rfl
  have h2 : a <<< w ≤ 2 ^ 60 := by
    rw [Nat.shiftLeft_eq]
    calc a * 2 ^ w ≤ 1 * 2 ^ w := Nat.mul_le_mul_right _ ha
      _ ≤ 2 ^ 60 := by omega
  rw [hm, e]
  obtain ⟨x, ex⟩ : ∃ x, x = a <<< w := ⟨_, rfl⟩
  rw [← ex] at h2 ⊢
  rw [wrap64 (by omega) (by omega)]
set_option maxHeartbeats 1000000 in
theorem run_nam1 {base b T : Nat} {h : Heap} {tv : AVal} {τ : List Int} {m : Nat} (hg : h[b]? = some ⟨.cells [tv] 25 false false, 0⟩) (hI : Ints h tv τ) (ht : Ord T τ) (hT : T ≤ 8) (hm : m < 2 ^ 60) :
    callL prog raw base (.fn 63 [] [.ptr (some ⟨b, 0, 0⟩)]) [.int .i64 (m : Int)] h = some (.int .i64 ((setN τ m : Nat) : Int), h) := by
  have ot := hI.one
  have hl := lenI hI
  have htl := ht.1
  have hb := lt_of_get hg
  refine callL_run func63 rfl rfl ?_
  have hsp := @Nat.succ_ne_zero; repeat' (first | simp (disch := first | exact dschL74 | fail) only [go_sem, ↓reduceIte, hsp, hg, hl] | refine WP_drw ?_ | refine cnd_intro (fun hsp => ?_) fun hsp => ?_)
  refine WP_count [(4, 6), (9, 22)] 0 τ.length (Nat.zero_le _) (fun _ i fr H => fr 9 = .int .i64 (i : Int) ∧ H = h ∧ fr 4 = .int .i64 ((setR τ m i : Nat) : Int)) ?_ ?_ ?_
  · exact ⟨by (simp (disch := first | exact dschL74 | fail) only [go_sem, ↓reduceIte, Int.natCast_zero]; first | done | rfl), rfl, by simp (disch := first | exact dschL74 | fail) only [go_sem, ↓reduceIte]; rfl⟩
  · rintro i fr H hi0 hi hA ⟨r9, eH, r4⟩
    have q0 := hA 0 rfl
    have q3 := hA 3 rfl
    have q7 := hA 7 rfl
    have q8 := hA 8 rfl
    try simp (disch := first | exact dschL74 | fail) only [go_sem, ↓reduceIte] at q0 q3 q7 q8
    rw [eH]
    have hlt : ((i : Int) < (τ.length : Int)) = True := eq_true (by omega)
    have ai := adrI (i := (i : Int)) (by omega) hI (by omega)
    rw [Int.toNat_natCast] at ai
    have li := loadI hI hi
    have hp := ht.2.1 _ (getD_mem (l := τ) (i := i) hi)
    obtain ⟨w, ew⟩ := Int.eq_ofNat_of_zero_le hp.1
    have e1 := shrN (t := 3) (a := m) (k := i) (by omega) (by omega)
    have hsr : m >>> i < 2 ^ 62 := by
      have := Nat.shiftRight_le m i
      omega
    have e2 := andN (t := 3) (a := m >>> i) (b := 1) hsr (by omega)
    have hb1 : (m >>> i) &&& 1 ≤ 1 := Nat.and_le_right
    have e3 := shlB (a := (m >>> i) &&& 1) (w := w) hb1 (by omega)
    have hs := setR_lt ht (m := m) (k := i) (by omega)
    have hs2 := setR_lt ht (m := m) (k := i + 1) (by omega)
    have hpw : 2 ^ T ≤ 2 ^ 8 := Nat.pow_le_pow_right (by decide) hT
    have hsl : ((m >>> i) &&& 1) <<< w ≤ 2 ^ 60 := by
      rw [Nat.shiftLeft_eq]
      have h3 : 2 ^ w ≤ 2 ^ 8 := Nat.pow_le_pow_right (by decide) (by omega)
      have h4 : ((m >>> i) &&& 1) * 2 ^ w ≤ 1 * 2 ^ w := Nat.mul_le_mul_right _ hb1
      omega
    have e4 := orN (t := 3) (a := setR τ m i) (b := ((m >>> i) &&& 1) <<< w) (by omega) (by omega)
    have hst : setR τ m (i + 1) = setR τ m i ||| (((m >>> i) &&& 1) <<< w) := by rw [setR, ew, Int.toNat_natCast]
    rw [← hst] at e4
    rw [ew] at li
    rw [show ((1 : Nat) : Int) = 1 from rfl] at e2
    obtain ⟨a1, ea1⟩ : ∃ a, a = m >>> i := ⟨_, rfl⟩
    rw [← ea1] at e1 e2 e3 e4
    obtain ⟨a2, ea2⟩ : ∃ a, a = a1 &&& 1 := ⟨_, rfl⟩
    rw [← ea2] at e2 e3 e4
    obtain ⟨a3, ea3⟩ : ∃ a, a = a2 <<< w := ⟨_, rfl⟩
    rw [← ea3] at e3 e4
    have hsp := @Nat.succ_ne_zero; repeat' (first | simp (disch := first | exact dschL74 | fail) only [go_sem, ↓reduceIte, hsp, r9, r4, q0, q3, q7, q8, hlt, ai, li, e1, e2, e3, e4] | refine WP_drw ?_ | refine cnd_intro (fun hsp => ?_) fun hsp => ?_)
    exact ⟨by (repeat first | exact Agree.refl | assumption | refine Agree.put rfl ?_ | refine Agree.put0 ?_ | refine Agree.sub rfl (by assumption) ?_), by omega⟩
  · rintro fr H hA ⟨r9, eH, r4⟩
    have q0 := hA 0 rfl
    have q3 := hA 3 rfl
    have q7 := hA 7 rfl
    have q8 := hA 8 rfl
    try simp (disch := first | exact dschL74 | fail) only [go_sem, ↓reduceIte] at q0 q3 q7 q8
    rw [eH]
    have hlt : ((τ.length : Int) < (τ.length : Int)) = False := eq_false (by omega)
    have hsp := @Nat.succ_ne_zero; repeat' (first | simp (disch := first | exact dschL74 | fail) only [go_sem, ↓reduceIte, hsp, r9, r4, q0, q3, q7, q8, hlt] | refine WP_drw ?_ | refine cnd_intro (fun hsp => ?_) fun hsp => ?_)
    exact fI rfl
end Go.AM
/-
  LaceNamed, walked.
-/
namespace Go.AM
open Go.Proofs.Try
theorem dschL75 {p : Prop} (h : p := by first | exact Nat.ne_of_beq_eq_false rfl | assumption | (apply asOne; (first | exact One.int | exact One.bool | assumption | exact Ints.one (by assumption) | exact Rows.one (by assumption) | exact Own.one (by assumption) | exact One.lit ⟨rfl, rfl, rfl⟩)) | (apply asSp; (repeat first | assumption | apply SpAt.set | (refine SpAt.new ?_ (by (first | rfl | (simp only [List.length_append, List.length_cons, List.length_nil, List.length_set]; done) | (simp only [List.length_append, List.length_cons, List.length_nil, List.length_set]; omega)))) | apply SpAt.app | apply Bytes.app); done) | (apply asBytes; (repeat first | assumption | apply Bytes.app); done) | (apply asInts; (repeat first | assumption | exact ints_nil | apply Ints.app); done) | (apply asRows; (repeat first | assumption | exact Rows.nil | apply Rows.app); done) | (apply asScal; (first | apply allS1 | apply allS2 | apply allS3 | apply allS4) <;> (first | exact One.int | exact One.bool | assumption | exact Ints.one (by assumption) | exact Rows.one (by assumption) | exact Own.one (by assumption) | exact One.lit ⟨rfl, rfl, rfl⟩)) | exact litT rfl | exact litF rfl | omega | (simp only [List.length_append, List.length_cons, List.length_nil, List.length_set, List.length_reverse]; first | done | omega) | fail) : p := h
attribute [-go_sem] put_ne put_same
attribute [local go_sem ↓] put_if
theorem stL75 {base : Nat} {l : List Oper} {s : St} {Q : AExit → St → Prop} : WP prog raw base (.region 4 l.toArray true) s Q = WPS prog raw base (.region 4 l.toArray true) s Q := WP_stop
attribute [local go_sem ↓ 3000] stL75
theorem stL75b {base : Nat} {l : List Oper} {s : St} {Q : AExit → St → Prop} : WP prog raw base (.region 10 l.toArray true) s Q = WPS prog raw base (.region 10 l.toArray true) s Q := WP_stop
attribute [local go_sem ↓ 3000] stL75b
theorem stL75c {base : Nat} {l : List Oper} {s : St} {Q : AExit → St → Prop} : WP prog raw base (.region 15 l.toArray true) s Q = WPS prog raw base (.region 15 l.toArray true) s Q := WP_stop
attribute [local go_sem ↓ 3000] stL75c
def rnR (τ : List Int) (n i : Nat) (x : Rw3) : Rw3 := (x.1 + ((i % 3 : Nat) : Int) * (n : Int), ((setN τ x.2.1.toNat : Nat) : Int), ((setN τ x.2.2.toNat : Nat) : Int))
def rnL (τ : List Int) (n : Nat) (R : List Rw3) (i : Nat) : List Rw3 := (List.range i).map fun k => rnR τ n k (R.getD k (0, 0, 0))
theorem rnL_len {τ : List Int} {n i : Nat} {R : List Rw3} : (rnL τ n R i).length = i := by simp [rnL]
theorem rnL_succ {τ : List Int} {n i : Nat} {R : List Rw3} : rnL τ n R (i + 1) = rnL τ n R i ++ [rnR τ n i (R.getD i (0, 0, 0))] := by simp [rnL, List.range_succ]
set_option maxRecDepth 100000 in
set_option maxHeartbeats 16000000 in
theorem run_LaceNamed {base : Nat} {h : Heap} {v0 v1 : AVal} {l0 l1 : List Int} (hB0 : Bytes h v0 l0) (hB1 : Bytes h v1 l1) :
    callL prog raw base (.fn 9 [] []) [v0, v1] h = some (.bool true, h) := by
  have ov0 := hB0.one
  have ov1 := hB1.one
  have hw0 := run_wound (base := h.length) hB0
  have hw1 := run_wound (base := h.length) (hB1.ext (.app (t := [spB v0 l0 0]) .refl))
  rw [show (h ++ [spB v0 l0 0]).length = h.length + 1 by simp] at hw1
  obtain ⟨G0, eG0⟩ : ∃ G0, G0 = h ++ [spB v0 l0 0] := ⟨_, rfl⟩
  obtain ⟨G1, eG1⟩ : ∃ G1, G1 = h ++ [spB v0 l0 0] ++ [spB v1 l1 0] := ⟨_, rfl⟩
  have lG1 : G1.length = h.length + 2 := by rw [eG1]; simp
  have x1 : Ext h G1 := by rw [eG1]; exact .app (.app .refl)
  have hS0 : SpAt G1 h.length v0 l0 0 := by rw [eG1]; exact (SpAt.new hB0 rfl).app
  have hS1 : SpAt G1 (h.length + 1) v1 l1 0 := by rw [eG1]; exact SpAt.new (hB1.ext (.app (t := [spB v0 l0 0]) .refl)) (by simp)
  rw [← eG1, ← eG0] at hw1
  rw [← eG0] at hw0
  obtain ⟨H1, H2, T, C, R, o, cv, rv, ov, k, e1, e2, ocv, oov, orv, g2, lG1', S⟩ := run_start (base := h.length) (N := 6) (most := 8) (G := G1) (by omega) hS0 (by omega) (by omega) (by omega)
  rw [show (((6 : Nat) : Int)) = 6 from rfl] at e1
  rw [show (((8 : Nat) : Int)) = 8 from rfl] at e2
  obtain ⟨B, eB⟩ : ∃ B, B = H1 ++ [lacB T cv (.slice none 0 0)] := ⟨_, rfl⟩
  have gB : B[H1.length]? = some (lacB T cv (.slice none 0 0)) := by rw [eB]; exact get_eq rfl
  obtain ⟨H3, eH3⟩ : ∃ H3, H3 = H2.set H1.length (lacB T cv rv) := ⟨_, rfl⟩
  rw [← eB] at e2
  rw [← eH3] at S
  obtain ⟨b1, b2⟩ := S.b
  have lh3 : h.length + 2 ≤ H3.length := by omega
  have hc := S.lac (by omega) (by omega)
  have hcl := S.bd
  have hoC := S.ord
  have hRl := S.rl
  have hoL := S.xpl
  have hTb := S.made.tb
  have aL := S.at (by omega) (by omega)
  have iO : Ints H3 ov o := S.ints (by omega)
  have g13 : H3[h.length + 1]? = some (spB v1 l1 0) := S.sp.get (by omega) hS1.1
  have xh3 : Ext h H3 := S.sp.on x1 (Nat.le_refl _)
  have hS3 : SpAt H3 (h.length + 1) v1 l1 0 := ⟨g13, hB1.ext xh3, hS1.2.2⟩
  have gc3 := S.g
  obtain ⟨πw, H4, e4, y4, π, oπ, hπ⟩ := run_order (base := h.length) (h := H3) (n := C.length) (by omega) hS3 (by omega) (by omega)
  have l4 := y4.len
  have hS4 := y4.at hS3
  obtain ⟨t, et⟩ := Int.eq_ofNat_of_zero_le (show 0 ≤ T by omega)
  obtain ⟨τw, H5, e5, y5, τ, oτ, hτ⟩ := run_order (base := h.length) (h := H4) (n := t) (by omega) hS4 (by omega) (by omega)
  have l5 := y5.len
  rw [← et] at e5
  have gc4 := y4.get (by omega) gc3
  have gc5 := y5.get (by omega) gc4
  have oπ1 := oπ.one
  have oτ1 := oτ.one
  have iC : Ints H3 cv C := by
    obtain ⟨_, _, q, q2, _⟩ := id aL
    simp only [AVal.agg.injEq, List.cons.injEq, and_true] at q
    rw [q.2.1]; exact q2
  have hlC3 := lenI iC
  have gB' := gB
  unfold lacB at eB gB' g2 eH3 gc3 gc4 gc5
  obtain ⟨H6, eH6⟩ : ∃ H6, H6 = H5 ++ [(⟨.cells [τw] 25 false false, 0⟩ : ABlk)] := ⟨_, rfl⟩
  have x6 : Ext H5 H6 := by rw [eH6]; exact .app .refl
  have l6 : H6.length = H5.length + 1 := by rw [eH6]; simp
  have g6 : H6[H5.length]? = some ⟨.cells [τw] 25 false false, 0⟩ := by rw [eH6]; exact get_eq rfl
  have gc6 := x6.get gc5
  obtain ⟨n, en⟩ : ∃ n, n = C.length := ⟨_, rfl⟩
  rw [← en] at hlC3 e4 hcl hoC hπ
  have xh6 : Ext h H6 := (y5.on (y4.on xh3 (by omega)) (by omega)).trans x6
  obtain ⟨hpw1, hpw2⟩ := pow_le8 hTb
  have hCs : Small C := ⟨by omega, fun x hx => by have := S.made.c x hx; omega⟩
  have iC6 : Ints H6 cv C := ownE_ints (((S.oC.spE hS3 y4).spE hS4 y5).ext x6) hCs
  have hlC6 := lenI iC6
  rw [← en] at hlC6
  obtain ⟨dN, edN⟩ : ∃ dN : Nat → List Int, dN = fun i => (List.range i).foldl (fun l k => l.set (π.getD k 0).toNat ((setN τ (C.getD k 0).toNat : Nat) : Int)) (List.replicate n 0) := ⟨_, rfl⟩
  obtain ⟨H7, eH7⟩ : ∃ H7, H7 = H6 ++ [srB (dN 0) 3 0] := ⟨_, rfl⟩
  have mk : makeSliceA prog H6 25 (.int .i64 (n : Int)) (.int .i64 (n : Int)) = some (.slice (some ⟨H6.length, 0, 0⟩) n n, H7) := by
    rw [make_full Fc.el25 (by omega) (by omega), rep_zero, eH7, edN]
    rfl
  obtain ⟨H8, eH8⟩ : ∃ H8, H8 = H7 ++ [lacB T (.slice (some ⟨H6.length, 0, 0⟩) n n) (.slice none 0 0)] := ⟨_, rfl⟩
  have x8 : Ext H6 H8 := by rw [eH8, eH7]; exact .app (.app .refl)
  have l7 : H7.length = H6.length + 1 := by rw [eH7]; simp
  have gc8 := x8.get gc6
  have g68 := x8.get g6
  have hlC8 := lenI (iC6.ext x8)
  rw [← en] at hlC8
  unfold lacB at eH8
  have hpo : Ord n π := perm_ord hπ
  have hto : Ord t τ := perm_ord hτ
  obtain ⟨pid, pver, epw⟩ : ∃ id ver, πw = .slice (some ⟨id, ver, 0⟩) n n := by
    have hl := hpo.1
    rcases oπ with (⟨_, q⟩ | ⟨id, ver, e, _⟩) | ⟨_, q⟩
    · rw [q] at hl; simp at hl; omega
    · exact ⟨id, ver, by rw [e, hl]⟩
    · rw [q] at hl; simp at hl; omega
  have iP8 : Ints H8 πw π := (ownE_ints ((oπ.spE hS4 y5).ext x6) (ord_small hpo (by omega))).ext x8
  have iT8 : Ints H8 τw τ := (ownE_ints (oτ.ext x6) (ord_small hto (by omega))).ext x8
  have dNl : ∀ i, (dN i).length = n := fun i => by
    rw [edN]
    simp only
    induction i with
    | zero => simp
    | succ i ih => rw [List.range_succ, List.foldl_append]; simpa using ih
  have dNs : ∀ i, dN (i + 1) = (dN i).set (π.getD i 0).toNat ((setN τ (C.getD i 0).toNat : Nat) : Int) := fun i => by
    rw [edN]
    simp only
    rw [List.range_succ, List.foldl_append]
    rfl
  obtain ⟨LB, eLB⟩ : ∃ LB : ABlk, LB = lacB T (.slice (some ⟨H6.length, 0, 0⟩) n n) (.slice none 0 0) := ⟨_, rfl⟩
  have eH8' : H8 = H6 ++ [srB (dN 0) 3 0] ++ [LB] := by rw [eH8, eH7, eLB]
  refine callL_run func9 rfl rfl ?_
  have hsp := @Nat.succ_ne_zero; repeat' (first | simp (disch := first | exact dschL75 | fail) only [go_sem, ↓reduceIte, hsp, hw0, hw1, e1, ← eB, gB', e2, g2, ← eH3] | refine WP_drw ?_ | refine cnd_intro (fun hsp => ?_) fun hsp => ?_)
  refine WPS_go ?_
  refine WP_wild [⟨7, 3, 50, ⟨H1.length, 0, 0⟩, .int .i64 T, 8⟩] (by kernel_rfl) (by kernel_rfl) (by kernel_rfl) ⟨refsLow_int, trivial⟩ fun K hK => ?_
  iterate 12
    rw [TRS_cons]
    refine ⟨by first | (simp (disch := first | exact dschL75 | fail) only [go_sem, ↓reduceIte, gc3, hlC3, e4, gc4, e5, ← eH6, ldsQ_cons, ldsQ_nil, grdQ_cons, grdQ_nil, if_true, Nat.reduceLeDiff]; done) | exact trivial, ?_⟩
    simp (disch := first | exact dschL75 | fail) only [go_sem, ↓reduceIte, gc3, hlC3, e4, gc4, e5, ← eH6]
  rw [TRS_nil]
  refine ⟨by first | (simp (disch := first | exact dschL75 | fail) only [go_sem, ↓reduceIte, gc3, hlC3, e4, gc4, e5, ← eH6, ldsQ_cons, ldsQ_nil, grdQ_cons, grdQ_nil, if_true, Nat.reduceLeDiff]; done) | exact trivial, ?_⟩
  subst hK
  have hsp := @Nat.succ_ne_zero; repeat' (first | simp (disch := first | exact dschL75 | fail) only [go_sem, ↓reduceIte, hsp, g6, gc6, hlC6, mk, ← eH8, gc8, hlC8] | refine WP_drw ?_ | refine cnd_intro (fun hsp => ?_) fun hsp => ?_)
  have el8 : H8.length = H6.length + 2 := by rw [eH8']; simp
  refine WP_count [(13, 14), (64, 79)] 0 n (Nat.zero_le _) (fun _ i fr X => fr 64 = .int .i64 (i : Int) ∧ X = H6 ++ [srB (dN i) 3 0] ++ [LB]) ?_ ?_ ?_
  · exact ⟨by (simp (disch := first | exact dschL75 | fail) only [go_sem, ↓reduceIte, Int.natCast_zero]; first | done | rfl), eH8'⟩
  · rintro i fr X hi0 hi hA ⟨r64, eX⟩
    have q4 := hA 4 rfl
    have q7 := hA 7 rfl
    have q8 := hA 8 rfl
    have q9 := hA 9 rfl
    have q11 := hA 11 rfl
    have q12 := hA 12 rfl
    have q62 := hA 62 rfl
    have q63 := hA 63 rfl
    try simp (disch := first | exact dschL75 | fail) only [go_sem, ↓reduceIte] at q4 q7 q8 q9 q11 q12 q62 q63
    have hlt : ((i : Int) < (n : Int)) = True := eq_true (by omega)
    have x6X : Ext H6 X := by rw [eX]; exact .app (.app .refl)
    have lX : X.length = H6.length + 2 := by rw [eX]; simp
    have gL : X[H7.length]? = some LB := by rw [eX, l7]; exact get_eq (by simp)
    have gD : X[H6.length]? = some (srB (dN i) 3 0) := by rw [eX]; exact get_app (get_eq rfl)
    have iCX := iC6.ext x6X
    have iPX : Ints X πw π := (ownE_ints ((oπ.spE hS4 y5).ext x6) (ord_small hpo (by omega))).ext x6X
    have iTX : Ints X τw τ := (ownE_ints (oτ.ext x6) (ord_small hto (by omega))).ext x6X
    have g6X := x6X.get g6
    have ai := adrI (i := (i : Int)) (by omega) iCX (by omega)
    rw [Int.toNat_natCast] at ai
    have li := loadI iCX (i := i) (by omega)
    have hc0 := S.made.c _ (getD_mem (l := C) (i := i) (by omega))
    obtain ⟨c, ec⟩ := Int.eq_ofNat_of_zero_le hc0.1
    rw [ec] at li hc0
    have hnm := fun base => run_nam1 (base := base) (m := c) g6X iTX hto (by omega) (by omega)
    have hpl := hpo.1
    have hpb := hpo.2.1 _ (getD_mem (l := π) (i := i) (by omega))
    obtain ⟨r, er⟩ := Int.eq_ofNat_of_zero_le hpb.1
    have hds := dNs i
    rw [er, ec, Int.toNat_natCast, Int.toNat_natCast] at hds
    rw [er] at hpb
    have lp := loadI iPX (i := i) (by omega)
    rw [er] at lp
    have ap : indexAddrA prog 25 πw (.int .i64 (i : Int)) = some (.ptr (some ⟨pid, pver, i⟩)) := by
      rw [epw, adr_sl Fc.el25 Fc.ar25 (by omega) (by omega), Int.toNat_natCast, Nat.mul_one, Nat.zero_add]
    have ar : indexAddrA prog 25 (.slice (some ⟨H6.length, 0, 0⟩) n n) (.int .i64 (r : Int)) = some (.ptr (some ⟨H6.length, 0, r⟩)) := by
      rw [adr_sl Fc.el25 Fc.ar25 (by omega) (by omega), Int.toNat_natCast, Nat.mul_one, Nat.zero_add]
    have hdl := dNl i
    have hst : ∀ {F : ABlk → Heap}, stQ h.length H6.length (some (srB (dN i) 3 0)) 0 r [.int .i64 ((setN τ c : Nat) : Int)] F = some (F (srB (dN (i + 1)) 3 0)) := fun {F} => by
      rw [stQ_ints (by omega), hds]
    have hset : X.set H6.length (srB (dN (i + 1)) 3 0) = H6 ++ [srB (dN (i + 1)) 3 0] ++ [LB] := by
      rw [eX, List.set_append_left _ _ (by simp), List.set_append_right _ _ (Nat.le_refl _), Nat.sub_self]
      rfl
    have gL2 := gL
    rw [eLB] at gL2
    unfold lacB at gL2
    have lp' : loadP prog X 3 (.ptr (some ⟨pid, pver, i⟩)) = some (.int .i64 (r : Int)) := by
      rw [epw] at lp
      simpa [elAddr, ARef.add] using lp
    have hlow : refsLow X.length (.slice (some ⟨H6.length, 0, 0⟩) n n) := by
      have : H6.length < X.length := by omega
      simp [refsLow, AVal.refs, this]
    have hsp := @Nat.succ_ne_zero; repeat' (first | simp (disch := first | exact dschL75 | fail) only [go_sem, ↓reduceIte, hsp, r64, q4, q7, q8, q9, q11, q12, q62, q63, hlt, ai, li] | refine WP_drw ?_ | refine cnd_intro (fun hsp => ?_) fun hsp => ?_)
    refine WPS_go ?_
    refine WP_wild [⟨1, 25, 69, ⟨H7.length, 0, 1⟩, .slice (some ⟨H6.length, 0, 0⟩) n n, 10⟩, ⟨5, 3, 73, ⟨pid, pver, i⟩, .int .i64 (r : Int), 10⟩] (by kernel_rfl) (by kernel_rfl) (by kernel_rfl) ⟨hlow, refsLow_int, trivial⟩ fun K hK => ?_
    iterate 11
      rw [TRS_cons]
      refine ⟨by first | (simp (disch := first | exact dschL75 | fail) only [go_sem, ↓reduceIte, q4, q7, q8, q9, q11, q12, q62, q63, gL2, ap, lp', hnm, ar, gD, hst, ldsQ_cons, ldsQ_nil, grdQ_cons, grdQ_nil, if_true, Nat.reduceLeDiff]; done) | exact trivial, ?_⟩
      simp (disch := first | exact dschL75 | fail) only [go_sem, ↓reduceIte, q4, q7, q8, q9, q11, q12, q62, q63, gL2, ap, lp', hnm, ar, gD, hst]
    rw [TRS_nil]
    refine ⟨by first | (simp (disch := first | exact dschL75 | fail) only [go_sem, ↓reduceIte, q4, q7, q8, q9, q11, q12, q62, q63, gL2, ap, lp', hnm, ar, gD, hst, ldsQ_cons, ldsQ_nil, grdQ_cons, grdQ_nil, if_true, Nat.reduceLeDiff]; done) | exact trivial, ?_⟩
    subst hK
    have hsp := @Nat.succ_ne_zero; repeat' (first | simp (disch := first | exact dschL75 | fail) only [go_sem, ↓reduceIte, hsp, r64, q4, q7, q8, q9, q11, q12, q62, q63] | refine WP_drw ?_ | refine cnd_intro (fun hsp => ?_) fun hsp => ?_)
    exact ⟨by (repeat first | exact Agree.refl | assumption | refine Agree.put rfl ?_ | refine Agree.put0 ?_ | refine Agree.sub rfl (by assumption) ?_), by omega, hset⟩
  · rintro fr X hA ⟨r64, eX⟩
    have q4 := hA 4 rfl
    have q7 := hA 7 rfl
    have q8 := hA 8 rfl
    have q9 := hA 9 rfl
    have q11 := hA 11 rfl
    have q12 := hA 12 rfl
    have q62 := hA 62 rfl
    have q63 := hA 63 rfl
    try simp (disch := first | exact dschL75 | fail) only [go_sem, ↓reduceIte] at q4 q7 q8 q9 q11 q12 q62 q63
    have hlt : ((n : Int) < (n : Int)) = False := eq_false (by omega)
    have x6X : Ext H6 X := by rw [eX]; exact .app (.app .refl)
    have lX : X.length = H6.length + 2 := by rw [eX]; simp
    have gcX := x6X.get gc6
    have oR6 : OwnE encR 70 G1.length H6 rv R := ((S.oR.spE hS3 y4).spE hS4 y5).ext x6
    have hrX := ((oR6.ext x6X).rows (by omega)).len (P := prog) Fc.el42
    obtain ⟨cw, ecw⟩ : ∃ cw : AVal, cw = .slice (some ⟨H6.length, 0, 0⟩) n n := ⟨_, rfl⟩
    have gLX : X[H7.length]? = some (lacB T cw (.slice none 0 0)) := by rw [eX, l7, ecw, ← eLB]; exact get_eq (by simp)
    have oDX : Own encI 3 H6.length X cw (dN n) := by
      refine .inr ⟨H6.length, 0, by rw [dNl, ecw], ?_, Nat.le_refl _, by rw [dNl]; omega⟩
      rw [eX, rowE, flat_encI]
      exact get_app (get_eq rfl)
    have hov := fun {K} (e : Ext H6 K) => lenI ((ownE_ints (((S.oO.spE hS3 y4).spE hS4 y5).ext x6) (ord_small hoC (by omega))).ext e)
    rw [hoC.1] at hov
    have ocw : One cw := oDX.one
    have hsp := @Nat.succ_ne_zero; repeat' (first | simp (disch := first | exact dschL75 | fail) only [go_sem, ↓reduceIte, hsp, r64, q4, q7, q8, q9, q11, q12, q62, q63, hlt, gcX, hrX] | refine WP_drw ?_ | refine cnd_intro (fun hsp => ?_) fun hsp => ?_)
    refine WP_count [(15, 16), (83, 110)] 0 R.length (Nat.zero_le _) (fun _ i fr K => fr 83 = .int .i64 (i : Int) ∧ Ext H6 K ∧ H6.length + 2 ≤ K.length ∧ ∃ w, K[H7.length]? = some (lacB T cw w) ∧ Own encI 3 H6.length K cw (dN n) ∧ Own encR 70 (H6.length + 2) K w (rnL τ n R i)) ?_ ?_ ?_
    · exact ⟨by (simp (disch := first | exact dschL75 | fail) only [go_sem, ↓reduceIte, Int.natCast_zero]; first | done | rfl), x6X, by omega, _, gLX, oDX, Own.nil⟩
    · rintro i fr2 K hi0 hi hA2 ⟨r83, xK, lK, w, gK, oD, oW⟩
      have d4 := hA2 4 rfl
      have d7 := hA2 7 rfl
      have d8 := hA2 8 rfl
      have d9 := hA2 9 rfl
      have d11 := hA2 11 rfl
      have d12 := hA2 12 rfl
      have d81 := hA2 81 rfl
      have d82 := hA2 82 rfl
      try simp (disch := first | exact dschL75 | fail) only [go_sem, ↓reduceIte, q4, q7, q8, q9, q11, q12] at d4 d7 d8 d9 d11 d12 d81 d82
      have hlt2 : ((i : Int) < (R.length : Int)) = True := eq_true (by omega)
      obtain ⟨x, ex⟩ : ∃ x : Rw3, x = R.getD i (0, 0, 0) := ⟨_, rfl⟩
      have hx : R[i]? = some x := by rw [ex]; exact getD_some hi
      have ow := oW.one
      have hRK := (oR6.ext xK).rows (show R.length < 2 ^ 60 by omega)
      have ad := hRK.addr (P := prog) (i := (i : Int)) Fc.el42 Fc.ar42 (by omega) (by omega)
      rw [Int.toNat_natCast] at ad
      have ld : loadP prog K 70 (elAdr rv encR.z i 0) = some (.agg [.int .i64 x.1, .int .i64 x.2.1, .int .i64 x.2.2]) := hRK.load (P := prog) Fc.ty70 hx
      obtain ⟨K1, eK1⟩ : ∃ K1, K1 = K ++ [rwB x] := ⟨_, rfl⟩
      have xK1 : Ext K K1 := by rw [eK1]; exact .app .refl
      have lK1 : K1.length = K.length + 1 := by rw [eK1]; simp
      have gr : K1[K.length]? = some (rwB x) := by rw [eK1]; exact get_eq rfl
      have gK1 := xK1.get gK
      have g6K := (xK.trans xK1).get g6
      have iTK : Ints K1 τw τ := (ownE_ints (oτ.ext x6) (ord_small hto (by omega))).ext (xK.trans xK1)
      have hovK := hov (xK.trans xK1)
      obtain ⟨s1, s2, s3, s4⟩ := S.seen x (List.mem_of_getElem? hx)
      have s5 : x.2.2.toNat ≤ x.2.1.toNat := by rw [← s4]; exact Nat.and_le_right
      obtain ⟨m1, em1⟩ := Int.eq_ofNat_of_zero_le s2.1
      obtain ⟨m2, em2⟩ := Int.eq_ofNat_of_zero_le s3
      obtain ⟨m0, em0⟩ := Int.eq_ofNat_of_zero_le s1.1
      have hn1 := fun base => run_nam1 (base := base) (m := m1) g6K iTK hto (by omega) (by omega)
      have hn2 := fun base => run_nam1 (base := base) (m := m2) g6K iTK hto (by omega) (by omega)
      have hrem := remN (x := (i : Int)) (n := 3) (by omega) (by omega)
      rw [Int.toNat_natCast, show ((3 : Nat) : Int) = 3 from rfl] at hrem
      have hmn : (i % 3) * n ≤ 2 * 6 := Nat.mul_le_mul (by omega) (by omega)
      obtain ⟨j, ej⟩ : ∃ j, j = i % 3 := ⟨_, rfl⟩
      rw [← ej] at hrem hmn
      have hmul : binA prog .mul 3 (.int .i64 (j : Int)) (.int .i64 (n : Int)) = some (.int .i64 ((j * n : Nat) : Int)) := by
        have e0 : (j : Int) * (n : Int) = ((j * n : Nat) : Int) := by push_cast; rfl
        rw [bin_mul, e0, wrap64 (by omega) (by omega)]
      have hadd : binA prog .add 3 (.int .i64 (m0 : Int)) (.int .i64 ((j * n : Nat) : Int)) = some (.int .i64 ((m0 + j * n : Nat) : Int)) := by
        have e0 : (m0 : Int) + ((j * n : Nat) : Int) = ((m0 + j * n : Nat) : Int) := by push_cast; rfl
        rw [bin_add, e0, wrap64 (by omega) (by omega)]
      obtain ⟨y, ey⟩ : ∃ y : Rw3, y = (((m0 + j * n : Nat) : Int), ((setN τ m1 : Nat) : Int), ((setN τ m2 : Nat) : Int)) := ⟨_, rfl⟩
      have ery : rnR τ n i x = y := by
        rw [rnR, em0, em1, em2, ← ej, ey, Int.toNat_natCast, Int.toNat_natCast]
        push_cast
        rfl
      obtain ⟨w', K2, ea, oW', lW, eW, oneW, kW⟩ := snocR (base := h.length) (r := y) (.inl (oW.ext xK1)) (by omega) (by omega) (by rw [rnL_len]; omega)
      have hbs : ∀ {lit}, bsA prog lit K1 42 1 [(0, .agg [.int .i64 ((m0 + j * n : Nat) : Int), .int .i64 ((setN τ m1 : Nat) : Int), .int .i64 ((setN τ m2 : Nat) : Int)])] = some (.slice (some ⟨K1.length, 0, 0⟩) 1 1, K1 ++ [rowE encR 70 [y] 0]) := fun {lit} => by
        have := bsR1 (lit := lit) (H := K1) (r := y)
        rw [ey] at this ⊢
        exact this
      have gK2 := kW.box gK1
      obtain ⟨K3, eK3⟩ : ∃ K3, K3 = K2.set H7.length (lacB T cw w') := ⟨_, rfl⟩
      have xK3 : Ext H6 K3 := by rw [eK3]; exact (eW _ (by omega) (xK.trans xK1)).set (by omega)
      have lK3 : H6.length + 2 ≤ K3.length := by rw [eK3, List.length_set]; omega
      have gK3 : K3[H7.length]? = some (lacB T cw w') := by rw [eK3, List.getElem?_set_self (lt_of_get gK2)]
      have oD3 : Own encI 3 H6.length K3 cw (dN n) := by rw [eK3]; exact (kW.own (oD.ext xK1) (by decide)).setBox gK2
      have oW3 : Own encR 70 (H6.length + 2) K3 w' (rnL τ n R (i + 1)) := by rw [eK3, rnL_succ, ← ex, ery]; exact oW'.setBox gK2
      have hlow : refsLow K1.length w := (oW.ext xK1).low_refs
      rw [em0, em1, em2] at ld
      have gr' := gr
      unfold rwB at gr' eK1
      rw [em0, em1, em2] at gr' eK1
      unfold lacB at gK1 eK3
      have hsp := @Nat.succ_ne_zero; repeat' (first | simp (disch := first | exact dschL75 | fail) only [go_sem, ↓reduceIte, hsp, r83, d4, d7, d8, d9, d11, d12, d81, d82, q4, q7, q8, q9, q11, q12, q62, q63, hlt2, ad, ld, ← eK1] | refine WP_drw ?_ | refine cnd_intro (fun hsp => ?_) fun hsp => ?_)
      refine WPS_go ?_
      refine WP_wild [⟨1, 42, 88, ⟨H7.length, 0, 2⟩, w, 20⟩, ⟨3, 3, 90, ⟨K.length, 0, 0⟩, .int .i64 (m0 : Int), 20⟩, ⟨16, 3, 103, ⟨K.length, 0, 2⟩, .int .i64 (m2 : Int), 17⟩] (by kernel_rfl) (by kernel_rfl) (by kernel_rfl) ⟨hlow, refsLow_int, refsLow_int, trivial⟩ fun Z hK => ?_
      iterate 23
        rw [TRS_cons]
        refine ⟨by first | (simp (disch := first | exact dschL75 | fail) only [go_sem, ↓reduceIte, d4, d7, d8, d9, d11, d12, d81, d82, q4, q7, q8, q9, q11, q12, q62, q63, gK1, gr', hovK, hrem, hmul, hadd, hn1, hn2, hbs, ea, gK2, ← eK3, ldsQ_cons, ldsQ_nil, grdQ_cons, grdQ_nil, if_true, Nat.reduceLeDiff]; done) | exact trivial, ?_⟩
        simp (disch := first | exact dschL75 | fail) only [go_sem, ↓reduceIte, d4, d7, d8, d9, d11, d12, d81, d82, q4, q7, q8, q9, q11, q12, q62, q63, gK1, gr', hovK, hrem, hmul, hadd, hn1, hn2, hbs, ea, gK2, ← eK3]
      rw [TRS_nil]
      refine ⟨by first | (simp (disch := first | exact dschL75 | fail) only [go_sem, ↓reduceIte, d4, d7, d8, d9, d11, d12, d81, d82, q4, q7, q8, q9, q11, q12, q62, q63, gK1, gr', hovK, hrem, hmul, hadd, hn1, hn2, hbs, ea, gK2, ← eK3, ldsQ_cons, ldsQ_nil, grdQ_cons, grdQ_nil, if_true, Nat.reduceLeDiff]; done) | exact trivial, ?_⟩
      subst hK
      have hsp := @Nat.succ_ne_zero; repeat' (first | simp (disch := first | exact dschL75 | fail) only [go_sem, ↓reduceIte, hsp, r83, d4, d7, d8, d9, d11, d12, d81, d82, q4, q7, q8, q9, q11, q12, q62, q63] | refine WP_drw ?_ | refine cnd_intro (fun hsp => ?_) fun hsp => ?_)
      exact ⟨by (repeat first | exact Agree.refl | assumption | refine Agree.put rfl ?_ | refine Agree.put0 ?_ | refine Agree.sub rfl (by assumption) ?_), by omega, xK3, lK3, w', gK3, oD3, oW3⟩
    · rintro fr2 K hA2 ⟨r83, xK, lK, w, gK, oD, oW⟩
      have d4 := hA2 4 rfl
      have d7 := hA2 7 rfl
      have d8 := hA2 8 rfl
      have d9 := hA2 9 rfl
      have d11 := hA2 11 rfl
      have d12 := hA2 12 rfl
      have d81 := hA2 81 rfl
      have d82 := hA2 82 rfl
      try simp (disch := first | exact dschL75 | fail) only [go_sem, ↓reduceIte, q4, q7, q8, q9, q11, q12] at d4 d7 d8 d9 d11 d12 d81 d82
      have hlt2 : ((R.length : Int) < (R.length : Int)) = False := eq_false (by omega)
      obtain ⟨L, eL⟩ : ∃ L : Lac, L = ⟨T, C, R⟩ := ⟨_, rfl⟩
      obtain ⟨M, eM⟩ : ∃ M : Lac, M = ⟨T, dN n, rnL τ n R R.length⟩ := ⟨_, rfl⟩
      have hcN : L.C.length = n := by rw [eL, en]
      have hRen : RenL L M π τ := by
        subst eL eM
        refine ⟨by simp only; rw [← en]; exact hpo, by simp only; rw [et, Int.toNat_natCast]; exact hto, rfl, by simp only; rw [dNl, en], fun k hk => ?_, by simp [rnL_len], fun i x hx => ?_⟩
        · simp only at hk ⊢
          rw [← en] at hk
          have key : ∀ j, j ≤ n → k < j → (dN j).getD (π.getD k 0).toNat 0 = ((setN τ (C.getD k 0).toNat : Nat) : Int) := fun j => by
            induction j with
            | zero => intro _ h2; omega
            | succ j ih =>
              intro h1 h2
              have hl := dNl j
              have hb := hpo.2.1 _ (getD_mem (l := π) (i := k) (by rw [hpo.1]; exact hk))
              have hbj := hpo.2.1 _ (getD_mem (l := π) (i := j) (by rw [hpo.1]; omega))
              rw [dNs, List.getD_eq_getElem?_getD]
              by_cases e : k = j
              · subst e
                rw [List.getElem?_set_self (by omega)]
                rfl
              · have hne : (π.getD j 0).toNat ≠ (π.getD k 0).toNat := fun z => e (ord_inj hpo (by omega) (by omega) (by omega))
                rw [List.getElem?_set_ne hne, ← List.getD_eq_getElem?_getD]
                exact ih (by omega) (by omega)
          exact key n (Nat.le_refl _) hk
        · have hi := (List.getElem?_eq_some_iff.1 hx).1
          simp only at hi hx ⊢
          refine ⟨i % 3, by omega, ?_⟩
          rw [rnL, List.getElem?_map, List.getElem?_range hi]
          have : R.getD i (0, 0, 0) = x := by rw [List.getD_eq_getElem?_getD, hx]; rfl
          simp only [Option.map_some, this, rnR, ← en]
      have hcL : chkL L = 0 := by rw [eL]; exact hc
      have hokL := chkL_iff.1 hcL
      have hoL' : o ∈ fnd L := by rw [eL]; exact hoL
      have hokM := hRen.ok hokL (fun x hx => by rw [eL] at hx; exact (S.seen x hx).t.2)
      have hcM := chkL_iff.2 hokM
      have hoM := fnd_to hRen hokL hoL'
      obtain ⟨p1, p2, -, -, -, p6, -⟩ := found_all hcL hoL'
      obtain ⟨q1', q2', -, -, -, q6', -⟩ := found_all hcM hoM
      have hcnt := fnd_count hRen hokL
      have hdcd := dcdL_ren hRen hokL
      have hMn : M.C.length = n := by rw [hRen.n, hcN]
      rw [hdcd] at q6'
      rw [hcnt] at q1'
      rw [hMn] at q2'
      rw [hcN] at p2
      have lKh : h.length ≤ K.length := by omega
      have aLK : LacAt K (.agg [.int .i64 T, cv, rv]) L := ⟨cv, rv, by rw [eL], by rw [eL]; exact iC6.ext xK, by rw [eL]; exact (oR6.ext xK).rows (show R.length < 2 ^ 60 by omega)⟩
      have hMs : Small (dN n) := by have := lac_small hcM; rw [eM] at this; exact this
      have aMK : LacAt K (.agg [.int .i64 T, cw, w]) M := ⟨cw, w, by rw [eM], by rw [eM]; exact own_ints oD hMs, by rw [eM]; exact oW.rows (by rw [rnL_len]; omega)⟩
      have ow := oW.one
      have c1 := fun base => run_Count (base := base) aLK
      have c2 := fun base => run_Count (base := base) aMK
      rw [p1] at c1
      rw [q1'] at c2
      obtain ⟨_, Z1, c3, z1, kw1, rfl, oK1⟩ := run_Known (base := h.length) lKh aLK
      rw [p2] at c3 oK1
      have oK1' := oK1.one
      have lz1 := z1.len
      obtain ⟨_, Z2, c4, z2, kw2, rfl, oK2⟩ := run_Known (base := h.length) (h := Z1) (by omega) (aMK.ext z1)
      rw [q2'] at c4 oK2
      have oK2' := oK2.one
      have lz2 := z2.len
      have z12 := z1.trans z2
      obtain ⟨_, Z3, c5, z3, dw1, rfl, oE1⟩ := run_Decide (base := h.length) (h := Z2) (by omega) (aLK.ext z12)
      rw [p6] at c5 oE1
      have oE1' := oE1.one
      have lz3 := z3.len
      have z13 := z12.trans z3
      obtain ⟨_, Z4, c6, z4, dw2, rfl, oE2⟩ := run_Decide (base := h.length) (h := Z3) (by omega) (aMK.ext z13)
      rw [q6'] at c6 oE2
      have oE2' := oE2.one
      have lz4 := z4.len
      have z14 := z13.trans z4
      have gc0 := xK.get gc6
      have gL0 := gK
      unfold lacB at gL0
      have gc1 := z1.get gc0
      have gL1 := z1.get gL0
      have gc2 := z12.get gc0
      have gL2 := z12.get gL0
      have gL3 := z13.get gL0
      have hs1 : Small (knwL n (fnd L)) := by have := knwL_small hoL' (by omega); rw [hcN] at this; exact this
      have hs2 : Small (knwL n (fnd M)) := by have := knwL_small hoM (by omega); rw [hMn] at this; exact this
      have i1 : Ints Z4 kw1 (knwL n (fnd L)) := ownE_ints (oK1.ext ((z2.trans z3).trans z4)) hs1
      have i2 : Ints Z4 kw2 (knwL n (fnd M)) := ownE_ints (oK2.ext (z3.trans z4)) hs2
      obtain ⟨Da, eDa⟩ : ∃ Da, Da = dcdL L.C.length (fnd L) := ⟨_, rfl⟩
      rw [← eDa] at c5 c6 oE1 oE2
      have hsub : Da.Sublist (upto L.C.length) := by rw [eDa]; exact (dcdL_is fnd_nodup (fun o h => (fnd_ord h).1)).2.2.1
      have sDa : Small Da := ⟨by have := sub_len hsub; omega, fun x hx => by have := upto_mem.1 (hsub.subset hx); omega⟩
      have i3 := own_ints (oE1.ext z4) sDa
      have i4 := own_ints oE2 sDa
      have w1 := fun base => run_equal (base := base) i3 i4
      rw [decide_eq_true rfl] at w1
      have lk1 := lenI i1
      have lk2 := lenI i2
      rw [knwL_len] at lk1 lk2
      have lo4 := hov (xK.trans z14)
      have iP4 : Ints Z4 πw π := (ownE_ints ((oπ.spE hS4 y5).ext x6) (ord_small hpo (by omega))).ext (xK.trans z14)
      have lP4 := lenI iP4
      rw [hpo.1] at lP4
      have xhZ := xh6.trans (xK.trans z14)
      have haw := fun base => run_awake (base := base) (h := Z4)
      have h0 : fnd L ≠ [] := fun z => by rw [z] at hoL'; simp at hoL'
      have hsp := @Nat.succ_ne_zero; repeat' (first | simp (disch := first | exact dschL75 | fail) only [go_sem, ↓reduceIte, hsp, r83, d4, d7, d8, d9, d11, d12, d81, d82, q4, q7, q8, q9, q11, q12, q62, q63, hlt2, gc0, gL0, c1, c2, c3, gL1, c4, gc2, c5, gL3, c6, lk1, lk2, lo4, eq_self, not_true, decide_false, w1, Bool.not_true] | refine WP_drw ?_ | refine cnd_intro (fun hsp => ?_) fun hsp => ?_)
      refine WP_count [(4, 4), (29, 30), (190, 229)] 0 n (Nat.zero_le _) (fun _ i fr X => fr 190 = .int .i64 (i : Int) ∧ X = Z4) ?_ ?_ ?_
      · exact ⟨by (simp (disch := first | exact dschL75 | fail) only [go_sem, ↓reduceIte, Int.natCast_zero]; first | done | rfl), rfl⟩
      · rintro i fr3 X hi0 hi hA3 ⟨r190, eX3⟩
        have s9 := hA3 9 rfl
        have s23 := hA3 23 rfl
        have s188 := hA3 188 rfl
        have s189 := hA3 189 rfl
        try simp (disch := first | exact dschL75 | fail) only [go_sem, ↓reduceIte, d9] at s9 s23 s188 s189
        rw [eX3]
        have hlt3 : ((i : Int) < (n : Int)) = True := eq_true (by omega)
        have a1 := adrI (i := (i : Int)) (by omega) i1 (by rw [knwL_len]; omega)
        have a2 := adrI (i := (i : Int)) (by omega) i2 (by rw [knwL_len]; omega)
        rw [Int.toNat_natCast] at a1 a2
        have m1 := loadI i1 (i := i) (by rw [knwL_len]; omega)
        have m2 := loadI i2 (i := i) (by rw [knwL_len]; omega)
        have hk := knw_ren hRen hokL h0 (p := i) (by omega)
        rw [hcN] at hk
        rcases hk with ⟨e1', e2'⟩ | ⟨e1', e2'⟩
        · rw [e1'] at m1
          rw [e2'] at m2
          have hsp := @Nat.succ_ne_zero; repeat' (first | simp (disch := first | exact dschL75 | fail) only [go_sem, ↓reduceIte, hsp, r190, s9, s23, s188, s189, d4, d7, d8, d9, d11, d12, d81, d82, q4, q7, q8, q9, q11, q12, q62, q63, hlt3, a1, m1, a2, m2, eq_self, not_true, decide_false, decide_true] | refine WP_drw ?_ | refine cnd_intro (fun hsp => ?_) fun hsp => ?_)
          exact ⟨by (repeat first | exact Agree.refl | assumption | refine Agree.put rfl ?_ | refine Agree.put0 ?_ | refine Agree.sub rfl (by assumption) ?_), by omega⟩
        · obtain ⟨c, ec⟩ := Int.eq_ofNat_of_zero_le e1'.1
          rw [ec] at m1 e1' e2'
          rw [Int.toNat_natCast] at e2'
          rw [e2'] at m2
          have ap := adrI (i := (c : Int)) (by omega) iP4 (by rw [hpo.1]; omega)
          rw [Int.toNat_natCast] at ap
          have lp := loadI iP4 (i := c) (by rw [hpo.1]; omega)
          have u1 : ((c : Int) = -1) = False := eq_false (by omega)
          have u2 : ((c : Int) < 0) = False := eq_false (by omega)
          have u3 : ((c : Int) ≥ (n : Int)) = False := eq_false (by omega)
          have hsp := @Nat.succ_ne_zero; repeat' (first | simp (disch := first | exact dschL75 | fail) only [go_sem, ↓reduceIte, hsp, r190, s9, s23, s188, s189, d4, d7, d8, d9, d11, d12, d81, d82, q4, q7, q8, q9, q11, q12, q62, q63, hlt3, a1, m1, a2, m2, u1, u2, lP4, u3, ap, lp, eq_self, not_true, not_false_iff, decide_false, decide_true] | refine WP_drw ?_ | refine cnd_intro (fun hsp => ?_) fun hsp => ?_)
          exact ⟨by (repeat first | exact Agree.refl | assumption | refine Agree.put rfl ?_ | refine Agree.put0 ?_ | refine Agree.sub rfl (by assumption) ?_), by omega⟩
      · rintro fr3 X hA3 ⟨r190, eX3⟩
        have s9 := hA3 9 rfl
        have s23 := hA3 23 rfl
        have s188 := hA3 188 rfl
        have s189 := hA3 189 rfl
        try simp (disch := first | exact dschL75 | fail) only [go_sem, ↓reduceIte, d9] at s9 s23 s188 s189
        rw [eX3]
        have hlt3 : ((n : Int) < (n : Int)) = False := eq_false (by omega)
        have hsp := @Nat.succ_ne_zero; repeat' (first | simp (disch := first | exact dschL75 | fail) only [go_sem, ↓reduceIte, hsp, r190, s9, s23, s188, s189, d4, d7, d8, d9, d11, d12, d81, d82, q4, q7, q8, q9, q11, q12, q62, q63, hlt3, haw] | refine WP_drw ?_ | refine cnd_intro (fun hsp => ?_) fun hsp => ?_)
        exact fB rfl xhZ
end Go.AM
