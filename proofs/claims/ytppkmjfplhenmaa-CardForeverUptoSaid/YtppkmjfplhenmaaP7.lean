/-
  Plain facts: ribbons that are woven again.
-/
import Derived.Test.YtppkmjfplhenmaaP1
import Derived.Test.YtppkmjfplhenmaaP5
set_option linter.unusedSimpArgs false
set_option linter.unusedVariables false
namespace Go.AM
open Go.Proofs.Try

theorem ver_ints {A : Heap} {l : List Int} {n k v : Nat} (hn : n = A.length) (hk : k = l.length) (hs : Small l) : Ints (A ++ [rowB l v]) (.slice (some ⟨n, v, 0⟩) k k) l := by
  subst hn hk
  refine ⟨⟨Nat.lt_of_lt_of_le hs.1 (by decide), hs.2⟩, .inr (.inr ⟨⟨A.length, v, 0⟩, l.length, ints l, 3, true, false, rfl, by simp [rowB], ?_, by simp [ints_length], Nat.le_refl _⟩)⟩
  simp only [List.drop_zero]
  rw [List.take_of_length_le (by rw [ints_length]; exact Nat.le_refl _)]
/-- A chain that is Round. -/
theorem lift_round {W : Int} {B : List Int} (hc : chkC W B 0 0 = 0) (t : Nat) : ((liftN W.toNat B 0 0 t : Nat) : Int) = B.getD (t % B.length) 0 := by
  obtain ⟨hw, hn, _, _, _, hx⟩ := chkC_ok hc
  have hm := Nat.mod_lt t (show B.length > 0 by omega)
  have h0 := hx _ (getD_mem hm)
  have h8 := pow_nat (w := W) (by omega)
  have e1 : cardN 0 B.length t = t % B.length := by simp [cardN]
  have e2 : moveN 0 B.length 0 W.toNat t = 0 := by simp [moveN]
  unfold liftN
  rw [e1, e2, rot0 (by omega)]
  omega
theorem round_ok {W : Int} {B : List Int} (h : chk W B = 0) : chkC W B 0 0 = 0 := by
  obtain ⟨h1, h2, h3⟩ := chk_ok h
  exact chkC_of h1 h2 (by omega) h3 (by rfl)
theorem set_ok {W x : Int} {B : List Int} {k : Nat} (h : chk W B = 0) (hx : 0 ≤ x ∧ x ≤ 2 ^ W.toNat - 1) : chk W (B.set k x) = 0 := by
  obtain ⟨h1, h2, h3⟩ := chk_ok h
  refine chk_iff h1 (by simpa using h2) fun y hy => ?_
  rcases List.mem_or_eq_of_mem_set hy with h | h
  · exact h3 y h
  · rw [h]; exact hx
theorem getD_set_ne {B : List Int} {k i : Nat} {x : Int} (h : i ≠ k) : (B.set k x).getD i 0 = B.getD i 0 := by
  simp only [List.getD_eq_getElem?_getD]
  rw [List.getElem?_set_ne (fun e => h e.symm)]
theorem getD_set_eq {B : List Int} {k : Nat} {x : Int} (h : k < B.length) : (B.set k x).getD k 0 = x := by
  rw [List.getD_eq_getElem?_getD, List.getElem?_set_self h]; rfl

/-- The ribbon woven again with one card another one: where it differs. -/
theorem again_dif {W K S x : Int} {C : List Int} {n k : Nat} (hC : chkC W C K S = 0) (hn : 1 ≤ n ∧ n ≤ 48) (hp : Per (liftN W.toNat C K.toNat S.toNat) n) (hk : k < n) (hx : 0 ≤ x ∧ x ≤ 2 ^ W.toNat - 1) :
    chkC W ((wov W C K S n).set k x) 0 0 = 0 ∧
    difN W.toNat C ((wov W C K S n).set k x) K.toNat S.toNat 0 0 = (if x = ((liftN W.toNat C K.toNat S.toNat k : Nat) : Int) then none else some k) ∧
    difN W.toNat ((wov W C K S n).set k x) C 0 0 K.toNat S.toNat = (if x = ((liftN W.toNat C K.toNat S.toNat k : Nat) : Int) then none else some k) ∧
    (∀ m, m ≤ k → wov W ((wov W C K S n).set k x) 0 0 m = wov W C K S m) := by
  have hB := wov_ok hC hn
  have hl : (wov W C K S n).length = n := by unfold wov; rw [lst_len]
  have hS := round_ok (set_ok (k := k) hB hx)
  have hls : ((wov W C K S n).set k x).length = n := by rw [List.length_set, hl]
  have hat : ∀ t, ((liftN W.toNat ((wov W C K S n).set k x) 0 0 t : Nat) : Int) = if t % n = k then x else ((liftN W.toNat C K.toNat S.toNat t : Nat) : Int) := fun t => by
    rw [lift_round hS, hls]
    have hm := Nat.mod_lt t (show n > 0 by omega)
    by_cases e : t % n = k
    · rw [if_pos e, e, getD_set_eq (by omega)]
    · rw [if_neg e, getD_set_ne e, wov_get hm, ← hp.at_mod t]
  have hkm : k % n = k := Nat.mod_eq_of_lt hk
  obtain ⟨_, hcn, _, _, _, _⟩ := chkC_ok hC
  have r0 : rndN 0 ((wov W C K S n).set k x).length W.toNat = n := by unfold rndN; simp [hl]
  refine ⟨hS, ?_, ?_, fun m hm => lst_congr fun t ht => ?_⟩
  · unfold difN
    by_cases hh : x = ((liftN W.toNat C K.toNat S.toNat k : Nat) : Int)
    · rw [if_pos hh]
      refine findI_none fun t ht => decide_eq_false fun hne => hne ?_
      have h1 := hat t
      by_cases e : t % n = k
      · have h2 := hp.at_mod t
        rw [e] at h2
        rw [if_pos e] at h1
        omega
      · rw [if_neg e] at h1; omega
    · rw [if_neg hh]
      refine findI_some (by rw [r0]; omega) (decide_eq_true fun he => ?_) fun j hj => decide_eq_false fun hne => hne ?_
      · have h1 := hat k
        rw [if_pos hkm] at h1
        omega
      · have h1 := hat j
        rw [if_neg (by rw [Nat.mod_eq_of_lt (by omega)]; omega)] at h1
        omega
  · unfold difN
    by_cases hh : x = ((liftN W.toNat C K.toNat S.toNat k : Nat) : Int)
    · rw [if_pos hh]
      refine findI_none fun t ht => decide_eq_false fun hne => hne ?_
      have h1 := hat t
      by_cases e : t % n = k
      · have h2 := hp.at_mod t
        rw [e] at h2
        rw [if_pos e] at h1
        omega
      · rw [if_neg e] at h1; omega
    · rw [if_neg hh]
      refine findI_some (by rw [r0]; omega) (decide_eq_true fun he => ?_) fun j hj => decide_eq_false fun hne => hne ?_
      · have h1 := hat k
        rw [if_pos hkm] at h1
        omega
      · have h1 := hat j
        rw [if_neg (by rw [Nat.mod_eq_of_lt (by omega)]; omega)] at h1
        omega
  · have h1 := hat t
    rw [if_neg (by rw [Nat.mod_eq_of_lt (by omega)]; omega)] at h1
    exact h1
end Go.AM
