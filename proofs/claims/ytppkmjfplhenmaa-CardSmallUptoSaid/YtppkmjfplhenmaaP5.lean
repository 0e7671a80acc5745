/-
  Plain facts: chains that weave patterns, parts of patterns.
-/
import Derived.Test.YtppkmjfplhenmaaP3
import Derived.Test.YtppkmjfplhenmaaS6
set_option linter.unusedSimpArgs false
set_option linter.unusedVariables false
namespace Go.AM
open Go.Proofs.Try

theorem first_iff {w : Nat} {l : List Int} {k n s : Nat} : (firstS w l k n s).2.2 = false ↔ ∀ t, t < l.length → offN w l k n s t = false := by
  unfold firstS
  cases hf : findI (offN w l k n s) l.length with
  | some t =>
    obtain ⟨h1, h2, h3⟩ := findI_is hf
    exact ⟨fun h => (by cases h), fun h => (by rw [h t h1] at h2; cases h2)⟩
  | none =>
    exact ⟨fun _ => findI_not hf, fun _ => rfl⟩
theorem getD_take {l : List Int} {m i : Nat} (h : i < m) : (l.take m).getD i 0 = l.getD i 0 := by
  simp only [List.getD_eq_getElem?_getD, List.getElem?_take, if_pos h]
theorem first_take {w : Nat} {l : List Int} {k n s m : Nat} (hn : 1 ≤ n) (hm : n ≤ m) (h : (firstS w l k n s).2.2 = false) : (firstS w (l.take m) k n s).2.2 = false := by
  rw [first_iff] at h ⊢
  intro t ht
  rw [List.length_take] at ht
  have hc := cardN_lt (k := k) (t := t) hn
  have := h t (by omega)
  unfold offN at this ⊢
  rw [getD_take (by omega), getD_take (by omega)]
  exact this
/-- No plan that stands has fewer cards than the fewest. -/
theorem few_le {W : Int} {l : List Int} (hc : chk W l = 0) {k s n : Nat} (hk : k ≤ 2) (hs : s < W.toNat) (hst : stepOk k s W.toNat = true) (hn : 1 ≤ n) (hf : (firstS W.toNat l k n s).2.2 = false) : (fewestS W.toNat l).2.1 ≤ n := by
  have h1 := (few_min hc).2 k s hk hs hst
  obtain ⟨o1, o2, o3⟩ := only_is hc k s
  rcases Nat.lt_or_ge n (onlyN W.toNat l k s) with h | h
  · have := o3 n hn h
    rw [hf] at this
    cases this
  · omega
theorem few_stands {W : Int} {l : List Int} (hc : chk W l = 0) : ∃ k s n : Nat, k ≤ 2 ∧ s < W.toNat ∧ stepOk k s W.toNat = true ∧ (fewestS W.toNat l).1 = k ∧ (fewestS W.toNat l).2.2 = s ∧ (fewestS W.toNat l).2.1 = n ∧ 1 ≤ n ∧ n ≤ l.length ∧ (firstS W.toNat l k n s).2.2 = false := by
  obtain ⟨⟨k, s, hk, hs, hst, e1, e2, e3, _⟩, _⟩ := few_min hc
  obtain ⟨o1, o2, o3⟩ := only_is hc k s
  exact ⟨k, s, _, hk, hs, hst, e1, e2, e3, o1.1, o1.2, o2⟩
/-- The chain with the fewest cards weaves the pattern. -/
theorem few_weaves {W : Int} {l : List Int} (hc : chk W l = 0) : weavesR W (l.take (fewestS W.toNat l).2.1.toNat) (fewestS W.toNat l).1 (fewestS W.toNat l).2.2 W l = true := by
  obtain ⟨k, s, n, hk, hs, hst, e1, e2, e3, h1, h2, h3⟩ := few_stands hc
  have hw := (chk_ok hc).1
  rw [e1, e2, e3, Int.toNat_natCast]
  have hst3 : stepOk (k : Int) (s : Int) W = true := by rw [show W = ((W.toNat : Nat) : Int) by omega]; exact hst
  have hct := chkC_take (k := (k : Int)) (s := (s : Int)) hc (by omega) hst3 ⟨h1, h2⟩
  unfold weavesR
  rw [if_neg (fun hh => hh.elim (fun h1 => h1 hct) (fun h1 => h1 rfl)), Int.toNat_natCast, Int.toNat_natCast, weave_first ⟨h1, h2⟩, h3]
  rfl
/-- A part from the first throw on never needs more cards. -/
theorem few_part {W : Int} {l : List Int} {m : Nat} (hc : chk W l = 0) (hcm : chk W (l.take m) = 0) (hm : m ≤ l.length) : (fewestS W.toNat (l.take m)).2.1 ≤ (fewestS W.toNat l).2.1 := by
  obtain ⟨k, s, n, hk, hs, hst, e1, e2, e3, h1, h2, h3⟩ := few_stands hc
  rcases Nat.lt_or_ge m n with h | h
  · have := (fewest_bd hcm).2.2
    rw [List.length_take] at this
    omega
  · have := few_le hcm hk hs hst h1 (first_take h1 h h3)
    omega
theorem wov_get {W K S : Int} {C : List Int} {n t : Nat} (ht : t < n) : (wov W C K S n).getD t 0 = ((liftN W.toNat C K.toNat S.toNat t : Nat) : Int) := by
  unfold wov
  exact lst_get ht
theorem wov_take {W K S : Int} {C : List Int} {n m : Nat} (h : m ≤ n) : (wov W C K S n).take m = wov W C K S m := by
  unfold wov lst
  rw [← List.map_take, List.take_range, Nat.min_eq_left h]
/-- The first throws of a ribbon are the cards. -/
theorem wov_cards {W K S : Int} {C : List Int} (hC : chkC W C K S = 0) {n : Nat} (hn : C.length ≤ n) : (wov W C K S n).take C.length = C := by
  rw [wov_take hn]
  obtain ⟨hw, hl, _, _, _, hx⟩ := chkC_ok hC
  refine List.ext_getElem (by unfold wov; rw [lst_len]) fun i h1 h2 => ?_
  have h3 := wov_get (W := W) (K := K) (S := S) (C := C) (n := C.length) (t := i) h2
  rw [List.getD_eq_getElem?_getD, List.getElem?_eq_getElem h1] at h3
  have h4 := hx _ (List.getElem_mem h2)
  have h8 := pow_nat (w := W) (by omega)
  have e : C.getD i 0 = C[i] := by rw [List.getD_eq_getElem?_getD, List.getElem?_eq_getElem h2]; rfl
  have h5 : liftN W.toNat C K.toNat S.toNat i = C[i].toNat := by
    unfold liftN
    rw [cardN_small h2, moveN_small h2, e, rot0 (by omega)]
  simp only [Option.getD_some] at h3
  rw [h3, h5]
  omega
theorem wov_weaves {W K S : Int} {C : List Int} {n : Nat} : weaveB W.toNat C K.toNat S.toNat (wov W C K S n) = true := by
  unfold weaveB
  refine decide_eq_true fun t ht => ?_
  unfold wov at ht
  rw [lst_len] at ht
  exact (wov_get ht).symm
theorem step_lt {W K S : Int} (hW : 1 ≤ W) (h : stepOk K S W = true) : 0 ≤ S ∧ S < W := by
  unfold stepOk at h
  split at h
  · have := of_decide_eq_true h; omega
  · have := of_decide_eq_true h; omega
/-- What a chain weaves needs at most as many cards as it has. -/
theorem few_chain {W K S : Int} {C : List Int} (hC : chkC W C K S = 0) {n : Nat} (hn : 1 ≤ n ∧ n ≤ 48) : (fewestS W.toNat (wov W C K S n)).2.1 ≤ C.length := by
  have hc := wov_ok hC hn
  obtain ⟨hw, hl, hk, hs, hst, hx⟩ := chkC_ok hC
  have hln : (wov W C K S n).length = n := by unfold wov; rw [lst_len]
  rcases Nat.lt_or_ge n C.length with h | h
  · have := (fewest_bd hc).2.2
    rw [hln] at this
    omega
  · have h2 := step_lt (by omega) hst
    have hwf := weave_first (w := W.toNat) (k := K.toNat) (n := C.length) (s := S.toNat) (l := wov W C K S n) ⟨hl.1, by omega⟩
    rw [wov_cards hC h, wov_weaves] at hwf
    refine few_le hc (k := K.toNat) (s := S.toNat) (by omega) (by omega) ?_ hl.1 (by simpa using hwf.symm)
    rw [show ((K.toNat : Nat) : Int) = K by omega, show ((S.toNat : Nat) : Int) = S by omega, show ((W.toNat : Nat) : Int) = W by omega]
    exact hst
/-- Two throws that exclude a plan. -/
theorem excl_pkg {W : Int} {l : List Int} (hc : chk W l = 0) {k n s : Nat} (hn : 1 ≤ n ∧ n ≤ l.length) (h : (firstS W.toNat l k n s).2.2 = true) :
    ∃ a b, firstS W.toNat l k n s = (a, b, true) ∧ a < n ∧ n ≤ b ∧ b < l.length ∧ cardN k n b = a ∧ cardN k n a = a ∧ moveN k n s W.toNat a = 0 ∧ moveN k n s W.toNat b < W.toNat ∧
      ((rotN (l.getD a 0).toNat (moveN k n s W.toNat b) W.toNat : Nat) : Int) ≠ l.getD b 0 ∧ exclsB W.toNat l k n s a b = true := by
  obtain ⟨hw, hp, hx⟩ := chk_ok hc
  unfold firstS at h ⊢
  cases hf : findI (offN W.toNat l k n s) l.length with
  | none => rw [hf] at h; cases h
  | some t =>
    obtain ⟨h1, h2, h3⟩ := findI_is hf
    have hnt : n ≤ t := by
      by_cases hh : t < n
      · rw [off_small hh (hx _ (getD_mem h1))] at h2
        cases h2
      · omega
    have hcl := cardN_lt (k := k) (n := n) (t := t) hn.1
    have hm := moveN_lt (k := k) (n := n) (s := s) (w := W.toNat) (t := t) (by omega)
    have h0 : moveN k n s W.toNat (cardN k n t) = 0 := moveN_small hcl
    have hc0 : cardN k n (cardN k n t) = cardN k n t := cardN_small hcl
    have h5 := of_decide_eq_true h2
    refine ⟨cardN k n t, t, rfl, hcl, hnt, h1, rfl, hc0, h0, hm, h5, ?_⟩
    unfold exclsB
    refine decide_eq_true ⟨by omega, hc0, ?_⟩
    rw [h0, Nat.sub_zero, Nat.add_mod_right, Nat.mod_eq_of_lt hm]
    exact h5
end Go.AM
