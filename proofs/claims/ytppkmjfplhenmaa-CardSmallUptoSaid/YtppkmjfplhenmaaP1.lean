/-
  Plain numbers: periods, where two rows with periods differ, floats.
-/
import Derived.Test.YtppkmjfplhenmaaR7
set_option linter.unusedSimpArgs false
set_option linter.unusedVariables false
namespace Go.AM

/-- A number after which a row repeats. -/
def Per {α : Type} (f : Nat → α) (n : Nat) : Prop := ∀ t, f t = f (t + n)
section
variable {α : Type} {f g : Nat → α} {a b n : Nat}
theorem Per.zero : Per f 0 := fun _ => rfl
theorem Per.add (ha : Per f a) (hb : Per f b) : Per f (a + b) := fun t => by rw [ha t, hb (t + a), Nat.add_assoc]
theorem Per.mul (h : Per f n) : ∀ c, Per f (n * c)
  | 0 => Per.zero
  | c + 1 => (Per.mul h c).add h
theorem Per.mul' (h : Per f n) (c : Nat) : Per f (c * n) := Nat.mul_comm n c ▸ h.mul c
theorem Per.sub (h : Per f (a + b)) (hb : Per f b) : Per f a := fun t => by rw [h t, hb (t + a), Nat.add_assoc]
theorem Per.mod (ha : Per f a) (hb : Per f b) : Per f (a % b) := by
  have h : Per f (a % b + b * (a / b)) := by rw [Nat.mod_add_div]; exact ha
  exact h.sub (hb.mul _)
theorem Per.at_mod (h : Per f n) (t : Nat) : f t = f (t % n) := by
  have := h.mul (t / n) (t % n)
  rw [Nat.mod_add_div] at this
  exact this.symm
theorem Per.of_row {R : Nat} (hR : Per f R) (hR0 : 0 < R) (h : ∀ t, t < R → f t = f (t + n)) : Per f n := fun t => by
  rw [hR.at_mod t, h _ (Nat.mod_lt _ hR0)]
  have e : t + n = t % R + n + R * (t / R) := by have := Nat.mod_add_div t R; omega
  rw [e, ← hR.mul (t / R)]
/-- Two rows that agree for both periods together agree for ever. -/
theorem agree_add (hf : Per f a) (hg : Per g b) (ha : 0 < a) (hb : 0 < b) (h : ∀ t, t < a + b → f t = g t) (t : Nat) : f t = g t := by
  have hb' : Per f b := Per.of_row hf ha fun t ht => by rw [h t (by omega), hg t, ← h (t + b) (by omega)]
  rw [hb'.at_mod t, hg.at_mod t]
  exact h _ (by have := Nat.mod_lt t hb; omega)
theorem agree_mul (hf : Per f a) (hg : Per g b) (ha : 0 < a) (hb : 0 < b) (h : ∀ t, t < a * b → f t = g t) (t : Nat) : f t = g t := by
  rw [(hf.mul b).at_mod t, (hg.mul' a).at_mod t]
  exact h _ (Nat.mod_lt _ (Nat.mul_pos ha hb))
end

/-- The least number after which a row repeats. -/
def Lst {α : Type} (f : Nat → α) (p : Nat) : Prop := 1 ≤ p ∧ Per f p ∧ ∀ q, 1 ≤ q → q < p → ¬ Per f q
theorem Lst.eq {α : Type} {f : Nat → α} {p q : Nat} (hp : Lst f p) (hq : Lst f q) : p = q := by
  rcases Nat.lt_trichotomy p q with h | h | h
  · exact absurd hp.2.1 (hq.2.2 p hp.1 h)
  · exact h
  · exact absurd hq.2.1 (hp.2.2 q hq.1 h)
theorem Lst.dvd {α : Type} {f : Nat → α} {p R : Nat} (hp : Lst f p) (hR : Per f R) : R % p = 0 := by
  have h1 := Nat.mod_lt R (show p > 0 from hp.1)
  by_cases h : R % p = 0
  · exact h
  · exact absurd (hR.mod hp.2.1) (hp.2.2 _ (by omega) h1)
theorem Lst.exists {α : Type} {f : Nat → α} : ∀ {q : Nat}, 1 ≤ q → Per f q → ∃ p, Lst f p ∧ p ≤ q := by
  intro q
  induction q using Nat.strongRecOn with
  | _ q ih =>
    intro h1 h2
    by_cases h : ∃ r, 1 ≤ r ∧ r < q ∧ Per f r
    · obtain ⟨r, hr1, hr2, hr3⟩ := h
      obtain ⟨p, hp, hpq⟩ := ih r hr2 hr1 hr3
      exact ⟨p, hp, by omega⟩
    · exact ⟨q, ⟨h1, h2, fun r hr1 hr2 hr3 => h ⟨r, hr1, hr2, hr3⟩⟩, Nat.le_refl _⟩

/-! ### What a chain weaves repeats -/
theorem cardN_per {k n w t : Nat} (hn : 1 ≤ n) : cardN k n (t + rndN k n w) = cardN k n t := by
  unfold cardN rndN
  by_cases h2 : k = 2
  · subst h2
    simp
  · rw [if_neg h2, if_neg h2]
    by_cases h1 : k = 1
    · subst h1
      by_cases hn1 : 1 < n
      · rw [show max 1 (2 * n - 2) = 2 * n - 2 by omega]
        simp [hn1]
      · have : n = 1 := by omega
        subst this
        simp [Nat.mod_one]
    · rw [if_neg (show ¬ (k = 1 ∧ 1 < n) by omega), if_neg h1, if_neg h2, if_neg (show ¬ (k = 1 ∧ 1 < n) by omega), Nat.add_mod_right]
theorem moveN_per {k n s w t : Nat} (hn : 1 ≤ n) : moveN k n s w (t + rndN k n w) = moveN k n s w t := by
  unfold moveN rndN
  by_cases h2 : k = 2
  · subst h2
    rw [if_pos rfl, if_pos rfl, if_neg (by omega), if_pos rfl, Nat.add_mul_div_left _ _ (by omega), Nat.add_mul, Nat.add_comm, Nat.mul_comm w s, Nat.add_comm, Nat.add_mul_mod_self_right]
  · rw [if_neg h2, if_neg h2]
theorem lift_per {w k s : Nat} {l : List Int} (hn : 1 ≤ l.length) : Per (liftN w l k s) (rndN k l.length w) := fun t => by
  unfold liftN
  rw [cardN_per hn, moveN_per hn]

theorem repB_per {w k s m n : Nat} {l : List Int} (hm : Per (liftN w l k s) m) (h0 : 0 < m) : repB w l k s m n = true ↔ Per (liftN w l k s) n := by
  unfold repB
  rw [decide_eq_true_iff]
  exact ⟨fun h => Per.of_row hm h0 h, fun h t _ => h t⟩
theorem perN_lst {w k s : Nat} {l : List Int} (hn : 1 ≤ l.length) (hw : 1 ≤ w) : Lst (liftN w l k s) (perN w l k s) := by
  have hR := lift_per (w := w) (k := k) (s := s) hn
  have h0 : 1 ≤ rndN k l.length w := by
    unfold rndN
    split
    · omega
    · split
      · exact Nat.mul_pos (by omega) (by omega)
      · omega
  unfold perN
  generalize rndN k l.length w = R at *
  obtain ⟨p, hp, hpR⟩ := Lst.exists h0 hR
  have hd := hp.dvd hR
  have chk : ∀ m, (decide (R % (m + 1) = 0) && repB w l k s R (m + 1)) = true ↔ (R % (m + 1) = 0 ∧ Per (liftN w l k s) (m + 1)) := fun m => by
    rw [Bool.and_eq_true, decide_eq_true_iff, repB_per hR h0]
  by_cases hlt : p < R
  · have : findI (fun m => decide (R % (m + 1) = 0) && repB w l k s R (m + 1)) (R - 1) = some (p - 1) := by
      refine findI_some (by have := hp.1; omega) ((chk _).2 ?_) fun j hj => ?_
      · rw [show p - 1 + 1 = p by have := hp.1; omega]
        exact ⟨hd, hp.2.1⟩
      · cases hh : (decide (R % (j + 1) = 0) && repB w l k s R (j + 1)) with
        | false => rfl
        | true => exact absurd ((chk j).1 hh).2 (hp.2.2 _ (by omega) (by omega))
    rw [this]
    simp only
    rw [show p - 1 + 1 = p by have := hp.1; omega]
    exact hp
  · have : findI (fun m => decide (R % (m + 1) = 0) && repB w l k s R (m + 1)) (R - 1) = none := by
      refine findI_none fun j hj => ?_
      cases hh : (decide (R % (j + 1) = 0) && repB w l k s R (j + 1)) with
      | false => rfl
      | true => exact absurd ((chk j).1 hh).2 (hp.2.2 _ (by omega) (by omega))
    rw [this]
    simp only
    rwa [show R = p by omega]
theorem perM_lst {w k s m : Nat} {l : List Int} (hR : Per (liftN w l k s) m) (h0 : 0 < m) : Lst (liftN w l k s) (perM w l k s m) := by
  obtain ⟨p, hp, hpR⟩ := Lst.exists h0 hR
  unfold perM
  by_cases hlt : p < m
  · have : findI (fun n => repB w l k s m (n + 1)) (m - 1) = some (p - 1) := by
      refine findI_some (by have := hp.1; omega) ((repB_per hR h0).2 ?_) fun j hj => ?_
      · rw [show p - 1 + 1 = p by have := hp.1; omega]
        exact hp.2.1
      · cases hh : repB w l k s m (j + 1) with
        | false => rfl
        | true => exact absurd ((repB_per hR h0).1 hh) (hp.2.2 _ (by omega) (by omega))
    rw [this]
    simp only
    rw [show p - 1 + 1 = p by have := hp.1; omega]
    exact hp
  · have : findI (fun n => repB w l k s m (n + 1)) (m - 1) = none := by
      refine findI_none fun j hj => ?_
      cases hh : repB w l k s m (j + 1) with
      | false => rfl
      | true => exact absurd ((repB_per hR h0).1 hh) (hp.2.2 _ (by omega) (by omega))
    rw [this]
    simp only
    rwa [show m = p by omega]
theorem perR_lst {w k s : Nat} {l : List Int} (hn : 1 ≤ l.length) (hw : 1 ≤ w) : Lst (liftN w l k s) (perR w l k s) := by
  have hR := lift_per (w := w) (k := k) (s := s) hn
  have hpos : 0 < 2 * l.length * w := Nat.mul_pos (by omega) (by omega)
  unfold perR
  by_cases h1 : k = 1 ∧ 1 < l.length
  · rw [if_pos h1]
    refine perM_lst ?_ (by omega)
    have : rndN k l.length w = 2 * l.length - 2 := by unfold rndN; rw [if_pos h1.1]; omega
    rwa [this] at hR
  · rw [if_neg h1]
    refine perM_lst ?_ hpos
    unfold rndN at hR
    by_cases h2 : k = 1
    · have : l.length = 1 := by omega
      rw [if_pos h2, this] at hR
      have := hR.mul (2 * l.length * w)
      rwa [show max 1 (2 * 1 - 2) = 1 from rfl, Nat.one_mul] at this
    · rw [if_neg h2] at hR
      by_cases h3 : k = 2
      · rw [if_pos h3] at hR
        have := hR.mul 2
        rwa [show l.length * w * 2 = 2 * l.length * w by rw [Nat.mul_comm (l.length * w) 2, Nat.mul_assoc]] at this
      · rw [if_neg h3] at hR
        have := hR.mul (2 * w)
        rwa [show l.length * (2 * w) = 2 * l.length * w by rw [Nat.mul_comm 2 l.length, Nat.mul_assoc]] at this
theorem perR_N {w k s : Nat} {l : List Int} (hn : 1 ≤ l.length) (hw : 1 ≤ w) : perR w l k s = perN w l k s := (perR_lst hn hw).eq (perN_lst hn hw)

theorem findI_congr {p : Nat → Bool} {A B : Nat} (hA : (∀ j, j < A → p j = false) → ∀ j, p j = false) (hB : (∀ j, j < B → p j = false) → ∀ j, p j = false) : findI p A = findI p B := by
  cases ha : findI p A with
  | none => rw [findI_none fun j _ => hA (findI_not ha) j]
  | some t =>
    obtain ⟨h1, h2, h3⟩ := findI_is ha
    cases hb : findI p B with
    | none => have := hB (findI_not hb) t; rw [h2] at this; cases this
    | some u =>
      obtain ⟨g1, g2, g3⟩ := findI_is hb
      rcases Nat.lt_trichotomy t u with h | h | h
      · have := g3 t h; rw [h2] at this; cases this
      · rw [h]
      · have := h3 u h; rw [g2] at this; cases this
theorem difR_N {w k s k' s' : Nat} {a b : List Int} (ha : 1 ≤ a.length) (hb : 1 ≤ b.length) (hw : 1 ≤ w) : difR w a b k s k' s' = difN w a b k s k' s' := by
  have h1 := perR_lst (w := w) (k := k) (s := s) ha hw
  have h2 := perR_lst (w := w) (k := k') (s := s') hb hw
  have g1 := lift_per (w := w) (k := k) (s := s) ha
  have g2 := lift_per (w := w) (k := k') (s := s') hb
  have p1 : ∀ {k : Nat} {l : List Int}, 1 ≤ l.length → 0 < rndN k l.length w := fun {k l} hl => by
    unfold rndN
    split
    · omega
    · split
      · exact Nat.mul_pos (by omega) (by omega)
      · omega
  unfold difR difN
  refine findI_congr (fun h j => ?_) (fun h j => ?_)
  · refine decide_eq_false fun hne => hne (agree_mul h1.2.1 h2.2.1 h1.1 h2.1 (fun t ht => ?_) j)
    exact Decidable.not_not.1 (of_decide_eq_false (h t ht))
  · refine decide_eq_false fun hne => hne (agree_add g1 g2 (p1 ha) (p1 hb) (fun t ht => ?_) j)
    exact Decidable.not_not.1 (of_decide_eq_false (h t ht))

/-! ### Floats -/
/-- From a on so many throws without the thread. -/
def Run (p : Nat → Bool) (a len : Nat) : Prop := ∀ j, j < len → p (a + j) = false
theorem flS_run {p : Nat → Bool} : ∀ T, (flS p T).1 ≤ T ∧ Run p (T - (flS p T).1) (flS p T).1 ∧ ((flS p T).1 = T ∨ p (T - (flS p T).1 - 1) = true)
  | 0 => ⟨Nat.le_refl _, fun j hj => by simp [flS] at hj, .inl rfl⟩
  | T + 1 => by
    obtain ⟨h1, h2, h3⟩ := flS_run (p := p) T
    cases hp : p T with
    | true =>
      rw [flS_true hp]
      refine ⟨by simp, fun j hj => by simp at hj, .inr ?_⟩
      simpa using hp
    | false =>
      rw [flS_false (by rw [hp]; simp)]
      refine ⟨by dsimp only; omega, fun j hj => ?_, ?_⟩
      · dsimp only at hj ⊢
        by_cases e : j = (flS p T).1
        · subst e
          rw [show T + 1 - ((flS p T).1 + 1) + (flS p T).1 = T by omega]; exact hp
        · have := h2 j (by omega)
          rwa [show T + 1 - ((flS p T).1 + 1) + j = T - (flS p T).1 + j by omega]
      · dsimp only
        rcases h3 with h | h
        · exact .inl (by omega)
        · refine .inr ?_
          rwa [show T + 1 - ((flS p T).1 + 1) - 1 = T - (flS p T).1 - 1 by omega]
theorem flS_now {p : Nat → Bool} {T a len : Nat} (h : a + len = T) (hr : Run p a len) : len ≤ (flS p T).1 := by
  obtain ⟨h1, h2, h3⟩ := flS_run (p := p) T
  by_cases hle : len ≤ (flS p T).1
  · exact hle
  · rcases h3 with h4 | h4
    · omega
    · have := hr (T - (flS p T).1 - 1 - a) (by omega)
      rw [show a + (T - (flS p T).1 - 1 - a) = T - (flS p T).1 - 1 by omega, h4] at this
      cases this
theorem flS_most {p : Nat → Bool} : ∀ T, (∀ a len, a + len ≤ T → Run p a len → len ≤ (flS p T).2.1) ∧ ∃ a, a + (flS p T).2.1 ≤ T ∧ Run p a (flS p T).2.1
  | 0 => ⟨fun a len h _ => by simp [flS]; omega, 0, by simp [flS], fun j hj => by simp [flS] at hj⟩
  | T + 1 => by
    obtain ⟨h1, a0, h2, h3⟩ := flS_most (p := p) T
    have e : (flS p (T + 1)).2.1 = max (flS p T).2.1 (flS p (T + 1)).1 := rfl
    have hn := flS_run (p := p) (T + 1)
    refine ⟨fun a len h hr => ?_, ?_⟩
    · by_cases hh : a + len ≤ T
      · have := h1 a len hh hr; omega
      · have := flS_now (show a + len = T + 1 by omega) hr; omega
    · by_cases hh : (flS p T).2.1 ≤ (flS p (T + 1)).1
      · rw [e, show max (flS p T).2.1 (flS p (T + 1)).1 = (flS p (T + 1)).1 by omega]
        exact ⟨_, by omega, hn.2.1⟩
      · rw [e, show max (flS p T).2.1 (flS p (T + 1)).1 = (flS p T).2.1 by omega]
        exact ⟨a0, by omega, h3⟩
theorem flS_any {p : Nat → Bool} : ∀ T, (flS p T).2.2 = true ↔ ∃ t, t < T ∧ p t = true
  | 0 => by simp [flS]
  | T + 1 => by
    have h := flS_any (p := p) T
    simp only [flS, Bool.or_eq_true, h]
    constructor
    · rintro (⟨t, h1, h2⟩ | h1)
      · exact ⟨t, by omega, h2⟩
      · exact ⟨T, by omega, h1⟩
    · rintro ⟨t, h1, h2⟩
      by_cases e : t = T
      · subst e; exact .inr h2
      · exact .inl ⟨t, by omega, h2⟩
theorem nevB_any {p : Nat → Bool} : ∀ T, nevB p T = false ↔ ∃ t, t < T ∧ p t = true
  | 0 => by simp [nevB]
  | T + 1 => by
    have h := nevB_any (p := p) T
    simp only [nevB, Bool.and_eq_false_iff, h, Bool.not_eq_false']
    constructor
    · rintro (⟨t, h1, h2⟩ | h1)
      · exact ⟨t, by omega, h2⟩
      · exact ⟨T, by omega, h1⟩
    · rintro ⟨t, h1, h2⟩
      by_cases e : t = T
      · subst e; exact .inr h2
      · exact .inl ⟨t, by omega, h2⟩
theorem any_per {p : Nat → Bool} {n W : Nat} (hp : Per p n) (hn : 0 < n) (hW : n ≤ W) : (∃ t, t < W ∧ p t = true) ↔ ∃ t, t < n ∧ p t = true := by
  constructor
  · rintro ⟨t, _, h2⟩
    exact ⟨t % n, Nat.mod_lt _ hn, by rw [← hp.at_mod t]; exact h2⟩
  · rintro ⟨t, h1, h2⟩
    exact ⟨t, by omega, h2⟩
theorem run_lt {p : Nat → Bool} {n a len : Nat} (hp : Per p n) (hn : 0 < n) (hex : ∃ t, t < n ∧ p t = true) (hr : Run p a len) : len < n := by
  obtain ⟨t, h1, h2⟩ := hex
  by_cases hlt : len < n
  · exact hlt
  · exfalso
    -- some throw of the run has t's place in the period
    have hm := Nat.mod_lt a hn
    obtain ⟨j, hj, hj2⟩ : ∃ j, j < n ∧ (a + j) % n = t := by
      by_cases hle : a % n ≤ t
      · refine ⟨t - a % n, by omega, ?_⟩
        have e : a + (t - a % n) = t + n * (a / n) := by have := Nat.mod_add_div a n; omega
        rw [e, Nat.add_mul_mod_self_left, Nat.mod_eq_of_lt h1]
      · refine ⟨t + n - a % n, by omega, ?_⟩
        have e : a + (t + n - a % n) = t + n * (a / n + 1) := by have := Nat.mod_add_div a n; rw [Nat.mul_add]; omega
        rw [e, Nat.add_mul_mod_self_left, Nat.mod_eq_of_lt h1]
    have := hr j (by omega)
    rw [hp.at_mod (a + j), hj2, h2] at this
    cases this
theorem lng_run {p : Nat → Bool} {n t : Nat} : Run p t (lngN p n t) ∧ (lngN p n t = n ∨ p (t + lngN p n t) = true) := by
  unfold lngN
  cases h : findI (fun j => p (t + j)) n with
  | none => exact ⟨fun j hj => findI_not h j hj, .inl rfl⟩
  | some j =>
    obtain ⟨h1, h2, h3⟩ := findI_is h
    exact ⟨fun i hi => h3 i hi, .inr h2⟩
/-- The longest of the floats that begin in the first throws. -/
theorem fltT_max {p : Nat → Bool} {n m : Nat} : ∀ T, m ≤ fltT p n m T ∧ (∀ a len, a < T → len ≤ n → Run p a len → len ≤ fltT p n m T) ∧ (fltT p n m T = m ∨ ∃ a, a < T ∧ Run p a (fltT p n m T) ∧ fltT p n m T ≤ n)
  | 0 => ⟨Nat.le_refl _, fun a len h => by omega, .inl rfl⟩
  | T + 1 => by
    obtain ⟨h1, h2, h3⟩ := fltT_max (p := p) (n := n) (m := m) T
    have hl := lng_run (p := p) (n := n) (t := T)
    have hle := lngN_le (p := p) (n := n) (t := T)
    cases hp : p T with
    | true =>
      rw [fltT, if_pos hp]
      refine ⟨h1, fun a len ha hln hr => ?_, ?_⟩
      · by_cases e : a = T
        · subst e
          have : len = 0 := by
            by_cases e : len = 0
            · exact e
            · have := hr 0 (by omega); rw [Nat.add_zero, hp] at this; cases this
          omega
        · exact h2 a len (by omega) hln hr
      · rcases h3 with h | ⟨a, h4, h5, h6⟩
        · exact .inl h
        · exact .inr ⟨a, by omega, h5, h6⟩
    | false =>
      rw [fltT, if_neg (by rw [hp]; simp)]
      refine ⟨by omega, fun a len ha hln hr => ?_, ?_⟩
      · by_cases e : a = T
        · subst e
          rcases hl.2 with h | h
          · omega
          · by_cases hh : len ≤ lngN p n a
            · omega
            · have := hr (lngN p n a) (by omega)
              rw [h] at this; cases this
        · have := h2 a len (by omega) hln hr; omega
      · by_cases hh : fltT p n m T ≤ lngN p n T
        · rw [show max (fltT p n m T) (lngN p n T) = lngN p n T by omega]
          exact .inr ⟨T, by omega, hl.1, hle⟩
        · rw [show max (fltT p n m T) (lngN p n T) = fltT p n m T by omega]
          rcases h3 with h | ⟨a, h4, h5, h6⟩
          · exact .inl h
          · exact .inr ⟨a, by omega, h5, h6⟩
theorem flt_eq {p : Nat → Bool} {n m W : Nat} (hp : Per p n) (hn : 0 < n) (hW : 2 * n ≤ W) (hex : ∃ t, t < n ∧ p t = true) : fltT p n m n = max m (flS p W).2.1 := by
  obtain ⟨h1, h2, h3⟩ := fltT_max (p := p) (n := n) (m := m) n
  obtain ⟨g1, a0, g2, g3⟩ := flS_most (p := p) W
  have hv := run_lt hp hn hex g3
  have hup : (flS p W).2.1 ≤ fltT p n m n := by
    refine h2 (a0 % n) _ (Nat.mod_lt _ hn) (by omega) fun j hj => ?_
    have := g3 j hj
    rw [show a0 + j = a0 % n + j + n * (a0 / n) by have := Nat.mod_add_div a0 n; omega, ← hp.mul (a0 / n)] at this
    exact this
  rcases h3 with h | ⟨a, h4, h5, h6⟩
  · omega
  · have := g1 a _ (by omega) h5
    omega

theorem bit_per {w k s j n : Nat} {l : List Int} (h : Per (liftN w l k s) n) : Per (bitN w l k s j) n := fun t => by
  unfold bitN
  rw [← h t]
theorem perR_rnd {w k s : Nat} {l : List Int} (hn : 1 ≤ l.length) (hw : 1 ≤ w) : perR w l k s ≤ rndN k l.length w := by
  have h1 := perR_lst (w := w) (k := k) (s := s) hn hw
  have h2 := lift_per (w := w) (k := k) (s := s) hn
  have h3 := h1.dvd h2
  have h4 : 1 ≤ rndN k l.length w := by
    unfold rndN
    split
    · omega
    · split
      · exact Nat.mul_pos (by omega) (by omega)
      · omega
  by_cases h : perR w l k s ≤ rndN k l.length w
  · exact h
  · rw [Nat.mod_eq_of_lt (by omega)] at h3
    omega
theorem floR_S {w k s : Nat} {l : List Int} (hn : 1 ≤ l.length) (hw : 1 ≤ w) : floR w l k s (perR w l k s) = if allLift w l k s w = true then ((mostN w l k s w : Nat) : Int) else -1 := by
  have h1 := perR_lst (w := w) (k := k) (s := s) hn hw
  have h2 := perR_rnd (w := w) (k := k) (s := s) hn hw
  generalize perR w l k s = n at *
  have hp := fun j => bit_per (j := j) h1.2.1
  have key : ∀ j, nevB (bitN w l k s j) n = false ↔ (flS (bitN w l k s j) (2 * rndN k l.length w)).2.2 = true := fun j => by
    rw [nevB_any, flS_any]
    exact (any_per (hp j) h1.1 (by omega)).symm
  unfold floR allLift
  by_cases hall : ∀ j, j < w → nevB (bitN w l k s j) n = false
  · rw [if_pos hall, if_pos (decide_eq_true fun j hj => (key j).1 (hall j hj))]
    have : ∀ m, m ≤ w → fltR w l k s n m = mostN w l k s m := by
      intro m
      induction m with
      | zero => intro _; rfl
      | succ m ih =>
        intro hm
        rw [fltR, mostN, ih (by omega)]
        exact flt_eq (hp m) h1.1 (by omega) ((nevB_any n).1 (hall m (by omega)))
    rw [this w (Nat.le_refl _)]
  · rw [if_neg hall, if_neg]
    intro h
    exact hall fun j hj => (key j).2 (of_decide_eq_true h j hj)
end Go.AM
