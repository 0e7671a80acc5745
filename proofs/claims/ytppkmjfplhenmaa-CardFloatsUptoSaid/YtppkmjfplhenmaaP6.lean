/-
  Plain facts: floats.
-/
import Derived.Test.YtppkmjfplhenmaaP1
set_option linter.unusedSimpArgs false
set_option linter.unusedVariables false
namespace Go.AM
open Go.Proofs.Try

/-- The longest float of the first threads, in a window. -/
def mmN (p : Nat → Nat → Bool) (T : Nat) : Nat → Nat
  | 0 => 0
  | k + 1 => max (mmN p T k) (flS (p k) T).2.1
def nvN (p : Nat → Nat → Bool) (T : Nat) : Nat → Bool
  | 0 => false
  | k + 1 => nvN p T k || !(flS (p k) T).2.2
theorem nvN_iff {p : Nat → Nat → Bool} {T : Nat} : ∀ {k : Nat}, nvN p T k = false ↔ ∀ j, j < k → (flS (p j) T).2.2 = true
  | 0 => by simp [nvN]
  | k + 1 => by
    simp only [nvN, Bool.or_eq_false_iff, nvN_iff (k := k), Bool.not_eq_false']
    constructor
    · rintro ⟨h1, h2⟩ j hj
      by_cases e : j = k
      · subst e; exact h2
      · exact h1 j (by omega)
    · intro h
      exact ⟨fun j hj => h j (by omega), h k (by omega)⟩
theorem mmN_congr {p : Nat → Nat → Bool} {T T' : Nat} : ∀ {k : Nat}, (∀ j, j < k → (flS (p j) T).2.1 = (flS (p j) T').2.1) → mmN p T k = mmN p T' k
  | 0, _ => rfl
  | k + 1, h => by simp only [mmN, mmN_congr (k := k) (fun j hj => h j (by omega)), h k (by omega)]
theorem mmN_lt {p : Nat → Nat → Bool} {T b : Nat} (hb : 0 < b) : ∀ {k : Nat}, (∀ j, j < k → (flS (p j) T).2.1 < b) → mmN p T k < b
  | 0, _ => hb
  | k + 1, h => by
    have := mmN_lt (p := p) (T := T) hb (k := k) (fun j hj => h j (by omega))
    have := h k (by omega)
    simp only [mmN]; omega
theorem mmN_le {p q : Nat → Nat → Bool} {T : Nat} : ∀ {k : Nat}, (∀ j, j < k → (flS (q j) T).2.1 ≤ (flS (p j) T).2.1) → mmN q T k ≤ mmN p T k
  | 0, _ => Nat.le_refl _
  | k + 1, h => by
    have := mmN_le (p := p) (q := q) (T := T) (k := k) (fun j hj => h j (by omega))
    have := h k (by omega)
    simp only [mmN]; omega
theorem mostN_mm {w : Nat} {l : List Int} {k s : Nat} : ∀ m, mostN w l k s m = mmN (bitN w l k s) (2 * rndN k l.length w) m
  | 0 => rfl
  | m + 1 => by simp only [mostN, mmN, mostN_mm m]
/-- In each window that is wide enough the longest float is the same. -/
theorem fl_win {p : Nat → Bool} {n W : Nat} (hp : Per p n) (hn : 0 < n) (hW : 2 * n ≤ W) (hex : ∃ t, t < n ∧ p t = true) : (flS p W).2.1 = (flS p (2 * n)).2.1 := by
  have h1 := flt_eq (m := 0) hp hn hW hex
  have h2 := flt_eq (m := 0) hp hn (Nat.le_refl _) hex
  omega
theorem fl_lt {p : Nat → Bool} {n W : Nat} (hp : Per p n) (hn : 0 < n) (hex : ∃ t, t < n ∧ p t = true) : (flS p W).2.1 < n := by
  obtain ⟨_, a, _, hr⟩ := flS_most (p := p) W
  exact run_lt hp hn hex hr
theorem fl_mono {p q : Nat → Bool} {T : Nat} (h : ∀ t, p t = true → q t = true) : (flS q T).2.1 ≤ (flS p T).2.1 := by
  obtain ⟨_, a, ha, hr⟩ := flS_most (p := q) T
  refine (flS_most (p := p) T).1 a _ ha fun j hj => ?_
  have := hr j hj
  cases hc : p (a + j) with
  | false => rfl
  | true => rw [h _ hc] at this; cases this

/-- One thread more stays one thread more where it is moved. -/
def orOk : Bool := (List.range 6).all fun w => (List.range (2 ^ w)).all fun x => (List.range w).all fun th => (List.range w).all fun b => (List.range w).all fun j =>
  !(rotN x b w / 2 ^ j % 2 == 1) || (rotN (x ||| 2 ^ th) b w / 2 ^ j % 2 == 1)
theorem orOk_true : orOk = true := by kernel_rfl
theorem or_bit {w x th b j : Nat} (hw : w ≤ 5) (hx : x < 2 ^ w) (hth : th < w) (hb : b < w) (hj : j < w) (h : rotN x b w / 2 ^ j % 2 = 1) : rotN (x ||| 2 ^ th) b w / 2 ^ j % 2 = 1 := by
  have h0 := orOk_true
  unfold orOk at h0
  have h1 := List.all_eq_true.1 h0 w (by simp; omega)
  have h2 := List.all_eq_true.1 h1 x (by simpa using hx)
  have h3 := List.all_eq_true.1 h2 th (by simpa using hth)
  have h4 := List.all_eq_true.1 h3 b (by simpa using hb)
  have h5 := List.all_eq_true.1 h4 j (by simpa using hj)
  simp [h] at h5
  exact h5
theorem or_lt {w x th : Nat} (hx : x < 2 ^ w) (hth : th < w) : x ||| 2 ^ th < 2 ^ w := Nat.or_lt_two_pow hx (Nat.pow_lt_pow_right (by decide) hth)
/-- A chain with one thread lifted more. -/
def moreL (l : List Int) (i th : Nat) : List Int := l.set i (((l.getD i 0).toNat ||| 2 ^ th : Nat) : Int)
theorem more_ok {w k s : Int} {l : List Int} {i th : Nat} (hc : chkC w l k s = 0) (hi : i < l.length) (hth : (th : Int) < w) : chkC w (moreL l i th) k s = 0 := by
  obtain ⟨hw, hn, hk, hs, hst, hx⟩ := chkC_ok hc
  refine chkC_of hw (by unfold moreL; simpa using hn) hk (fun x hm => ?_) hst
  unfold moreL at hm
  rcases List.mem_or_eq_of_mem_set hm with h | h
  · exact hx x h
  · have h0 := hx _ (getD_mem hi)
    have h8 := pow_nat (w := w) (by omega)
    have := or_lt (w := w.toNat) (x := (l.getD i 0).toNat) (th := th) (by omega) (by omega)
    rw [h]
    omega
theorem more_len {l : List Int} {i th : Nat} : (moreL l i th).length = l.length := by simp [moreL]
theorem more_bit {w k s : Int} {l : List Int} {i th j t : Nat} (hc : chkC w l k s = 0) (hw5 : w ≤ 5) (hi : i < l.length) (hth : (th : Int) < w) (hj : j < w.toNat) (h : bitN w.toNat l k.toNat s.toNat j t = true) : bitN w.toNat (moreL l i th) k.toNat s.toNat j t = true := by
  obtain ⟨hw, hn, hk, hs, hst, hx⟩ := chkC_ok hc
  unfold bitN liftN at h ⊢
  rw [more_len]
  have c1 := cardN_lt (k := k.toNat) (n := l.length) (t := t) (by omega)
  have c2 := moveN_lt (k := k.toNat) (n := l.length) (s := s.toNat) (w := w.toNat) (t := t) (by omega)
  have h0 := hx _ (getD_mem c1)
  have h8 := pow_nat (w := w) (by omega)
  rw [decide_eq_true_iff] at h ⊢
  by_cases e : cardN k.toNat l.length t = i
  · rw [e] at h h0 ⊢
    have e2 : (moreL l i th).getD i 0 = (((l.getD i 0).toNat ||| 2 ^ th : Nat) : Int) := by
      unfold moreL
      rw [List.getD_eq_getElem?_getD, List.getElem?_set_self hi]; rfl
    rw [e2, Int.toNat_natCast]
    exact or_bit (by omega) (by omega) (by omega) c2 hj h
  · have e2 : (moreL l i th).getD (cardN k.toNat l.length t) 0 = l.getD (cardN k.toNat l.length t) 0 := by
      unfold moreL
      simp only [List.getD_eq_getElem?_getD]
      rw [List.getElem?_set_ne (fun e3 => e e3.symm)]
    rw [e2]
    exact h
theorem or_N {t : TypeId} {a b : Nat} (ha : a < 9223372036854775808) (hb : b < 9223372036854775808) : binA prog .or t (.int .i64 a) (.int .i64 b) = some (.int .i64 ((a ||| b : Nat) : Int)) := by
  have hx : a ||| b < 2 ^ 63 := Nat.or_lt_two_pow (by omega) (by omega)
  have e : BitVec.ofInt 64 (a : Int) ||| BitVec.ofInt 64 (b : Int) = BitVec.ofNat 64 (a ||| b) := by
    apply BitVec.eq_of_toNat_eq
    simp [BitVec.toNat_or, BitVec.toNat_ofInt]
  have h1 : (BitVec.ofNat 64 (a ||| b)).toNat = a ||| b := by rw [BitVec.toNat_ofNat, Nat.mod_eq_of_lt (by omega)]
  show some (AVal.int .i64 (IntKind.i64.wrap ((BitVec.ofInt 64 (a : Int) ||| BitVec.ofInt 64 (b : Int)).toNat : Int))) = _
  rw [e, h1, wrap64 (by omega) (by omega)]
end Go.AM
