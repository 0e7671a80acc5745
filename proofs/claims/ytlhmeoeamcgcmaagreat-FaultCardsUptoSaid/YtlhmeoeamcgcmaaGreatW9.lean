/-
  Plain theory: a loom whose parts are the cards of a chain.
-/
import Derived.Test.YtlhmeoeamcgcmaaGreatE86
set_option linter.unusedSimpArgs false
set_option linter.unusedVariables false
namespace Go.AM
def crdP (m : Nat) : List Prt := (List.range m).map fun i : Nat => ⟨[0], (m : Int), (i : Int), false⟩
def crdS (m k n : Nat) : List Sgt := (List.range n).map fun t : Nat => ⟨0, (t : Int), (t : Int), decide (t % m = k)⟩
def crdL (m k n : Nat) : Lom := ⟨1, (n : Int), crdP m, crdS m k n⟩
theorem crdP_at {m i : Nat} (h : i < m) : (crdP m).getD i prt0 = ⟨[0], (m : Int), (i : Int), false⟩ := by
  unfold crdP
  rw [List.getD_eq_getElem?_getD, List.getElem?_map, List.getElem?_range h]; rfl
theorem crdS_at {m k n i : Nat} (h : i < n) : (crdS m k n).getD i sgt0 = ⟨0, (i : Int), (i : Int), decide (i % m = k)⟩ := by
  unfold crdS
  rw [List.getD_eq_getElem?_getD, List.getElem?_map, List.getElem?_range h]; rfl
theorem crdP_len {m : Nat} : (crdP m).length = m := by simp [crdP]
theorem crdS_len {m k n : Nat} : (crdS m k n).length = n := by simp [crdS]
theorem crdS_succ {m k n : Nat} : crdS m k (n + 1) = crdS m k n ++ [⟨0, (n : Int), (n : Int), decide (n % m = k)⟩] := by
  unfold crdS
  rw [List.range_succ, List.map_append]; rfl
section
variable {m k n : Nat}
theorem crd_part (hm : 1 ≤ m ∧ m ≤ 4) : ∀ p ∈ crdP m, 0 < p.rib.length ∧ (1 ≤ p.each ∧ p.each ≤ 4) ∧ (0 ≤ p.ph ∧ p.ph ≤ p.each - 1) ∧ (∀ r ∈ p.rib, 0 ≤ r ∧ r ≤ (1 : Int) - 1) ∧ riseB p.rib = true := fun p hp => by
  obtain ⟨i, hi, rfl⟩ := List.mem_map.1 hp
  rw [List.mem_range] at hi
  refine ⟨by simp, by simp only; omega, by simp only; omega, fun r hr => by simp at hr; omega, riseB_of (by simp)⟩
theorem crd_chk {s : List Sgt} (hm : 1 ≤ m ∧ m ≤ 4) (hn : 8 ≤ n ∧ n ≤ 10) (hs : ∀ x ∈ s, x ∈ crdS m k n) (hl : s.length ≤ 10) : chkM ⟨1, (n : Int), crdP m, s⟩ = 0 := by
  refine chkM_of (by simp only; omega) (by simp only; omega) (by simp only [crdP_len]; omega) hl (crd_part hm) fun x hx => ?_
  obtain ⟨i, hi, rfl⟩ := List.mem_map.1 (hs x hx)
  rw [List.mem_range] at hi
  exact ⟨by simp only; omega, by simp only; omega, by simp only; omega, by simp only; omega⟩
theorem crd_tch (hm : 1 ≤ m) {b : Brk} (hb : brkOk (crdL m k n) b) {i : Nat} (hi : i < n) : tch (crdL m k n) b (sgtI (crdL m k n) (i : Int)) ↔ (b.2.1 ≤ (i : Int) ∧ (i : Int) ≤ b.2.2) ∧ (((i % m : Nat) : Int) = b.1) := by
  obtain ⟨h1, h2, _⟩ := hb
  have h2' : b.1 < (m : Int) := by have : (crdL m k n).ps.length = m := crdP_len; omega
  obtain ⟨j, ej⟩ := Int.eq_ofNat_of_zero_le h1
  have e1 : prtOf (crdL m k n) b = ⟨[0], (m : Int), (j : Int), false⟩ := by
    unfold prtOf
    rw [ej, Int.toNat_natCast]
    exact crdP_at (by omega)
  have e2 : sgtI (crdL m k n) (i : Int) = ⟨0, (i : Int), (i : Int), decide (i % m = k)⟩ := by
    unfold sgtI
    rw [Int.toNat_natCast]
    exact crdS_at hi
  unfold tch
  rw [e1, e2, ej]
  constructor
  · rintro ⟨_, t, a, c, d, e, f⟩
    simp only at a c d e f
    obtain rfl : t = (i : Int) := by omega
    rw [tmodN] at f
    exact ⟨⟨a, c⟩, f⟩
  · rintro ⟨⟨a, c⟩, f⟩
    refine ⟨by simp, (i : Int), a, c, Int.le_refl _, Int.le_refl _, ?_⟩
    simp only
    rw [tmodN]
    exact f
theorem crd_bad {i : Nat} (hi : i < n) : badI (crdL m k n) (i : Int) = decide (i % m = k) := by
  unfold badI
  rw [Int.toNat_natCast]
  show ((crdS m k n).getD i sgt0).bad = _
  rw [crdS_at hi]
theorem crd_law (hm : 1 ≤ m ∧ m ≤ 4) (hn : 8 ≤ n ∧ n ≤ 10) (hk : k < m) : chkM (crdL m k n) = 0 ∧ XpA (crdL m k n) [((k : Int), 0, (n : Int) - 1)] ∧ mstM (crdL m k n) = ([(k : Int)], 0) ∧ ∃ b, fewM (crdL m k n) = ([b], 0) ∧ b.1 = (k : Int) := by
  have hc : chkM (crdL m k n) = 0 := crd_chk (k := k) hm hn (fun x hx => hx) (by rw [crdS_len]; omega)
  have lp : (crdL m k n).ps.length = m := crdP_len
  have ls : (crdL m k n).ss.length = n := crdS_len
  have hb0 : brkOk (crdL m k n) ((k : Int), 0, (n : Int) - 1) := ⟨by simp only; omega, by simp only; omega, by simp only; omega, by simp only; omega, by show (n : Int) - 1 < (n : Int); omega⟩
  have hx : XpA (crdL m k n) [((k : Int), 0, (n : Int) - 1)] := by
    refine ⟨⟨List.pairwise_singleton _ _, fun b hb => by rw [List.mem_singleton] at hb; rw [hb]; exact hb0⟩, fun i hi => ?_⟩
    have hi' := upto_mem.1 hi
    obtain ⟨j, rfl⟩ := Int.eq_ofNat_of_zero_le hi'.1
    have hj : j < n := by omega
    rw [crd_bad hj, decide_eq_true_eq]
    constructor
    · rintro ⟨b, hb, h⟩
      rw [List.mem_singleton] at hb
      subst hb
      have := ((crd_tch hm.1 hb0 hj).1 h).2
      simp only at this
      omega
    · intro h
      refine ⟨_, List.mem_singleton.2 rfl, (crd_tch hm.1 hb0 hj).2 ⟨?_, ?_⟩⟩
      · simp only; omega
      · simp only; omega
  -- each truth has a break of card k
  have must : ∀ t, XpA (crdL m k n) t → ∃ b ∈ t, b.1 = (k : Int) := fun t ht => by
    have hkn : k < n := by omega
    obtain ⟨b, hb, h⟩ := (ht.2 (k : Int) (upto_mem.2 (by omega))).2 (by rw [crd_bad hkn, decide_eq_true_eq]; exact Nat.mod_eq_of_lt hk)
    refine ⟨b, hb, ?_⟩
    have := ((crd_tch hm.1 (ht.1.2 b hb) hkn).1 h).2
    rw [Nat.mod_eq_of_lt hk] at this
    exact this.symm
  refine ⟨hc, hx, ?_, ?_⟩
  · obtain ⟨h1, h2⟩ := mstM_mem hc hx
    refine Prod.ext (pair_ext ?_ (List.pairwise_singleton _ _) fun x => ?_) h1
    · unfold mstM
      split
      · exact .nil
      · exact selN_up fun i k h1 _ => by omega
    · rw [h2 x, List.mem_singleton]
      constructor
      · rintro ⟨_, h⟩
        obtain ⟨b, hb, e⟩ := h _ hx
        rw [List.mem_singleton] at hb
        rw [hb] at e
        exact e.symm
      · rintro rfl
        exact ⟨by omega, must⟩
  · obtain ⟨h1, h2, h3⟩ := fewM_truth hc hx
    have hl := h3 _ hx
    obtain ⟨b, hb, e⟩ := must _ h2
    have hpos := List.length_pos_of_mem hb
    simp only [List.length_cons, List.length_nil] at hl
    match hf : (fewM (crdL m k n)).1, hb, hl, hpos with
    | [c], hb, _, _ =>
      rw [List.mem_singleton] at hb
      subst hb
      exact ⟨b, Prod.ext hf h1, e⟩
end
end Go.AM
