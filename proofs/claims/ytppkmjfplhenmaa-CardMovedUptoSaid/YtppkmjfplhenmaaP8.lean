/-
  Plain facts: a pattern with all its throws moved, and a pattern with every lift's other shafts.
-/
import Derived.Test.YtppkmjfplhenmaaL8
import Derived.Test.YtppkmjfplhenmaaP5
set_option linter.unusedSimpArgs false
set_option linter.unusedVariables false
namespace Go.AM
open Go.Proofs.Try

def comChk : Bool := (List.range 9).all fun w => (List.range (2 ^ w)).all fun x => (List.range w).all fun i => (List.range w).all fun j => rotN (rotN x i w) j w == rotN (rotN x j w) i w
theorem comChk_ok : comChk = true := by kernel_rfl
theorem rot_com {w x i j : Nat} (hw : w ≤ 8) (hx : x < 2 ^ w) (hi : i < w) (hj : j < w) : rotN (rotN x i w) j w = rotN (rotN x j w) i w := by
  have h := comChk_ok
  unfold comChk at h
  have h1 := List.all_eq_true.1 h w (List.mem_range.2 (by omega))
  have h2 := List.all_eq_true.1 h1 x (List.mem_range.2 hx)
  have h3 := List.all_eq_true.1 h2 i (List.mem_range.2 hi)
  have h4 := List.all_eq_true.1 h3 j (List.mem_range.2 hj)
  exact eq_of_beq h4
def cplChk : Bool := (List.range 9).all fun w => (List.range (2 ^ w)).all fun x => (List.range w).all fun i => rotN (2 ^ w - 1 - x) i w == 2 ^ w - 1 - rotN x i w && decide (rotN x i w < 2 ^ w)
theorem cplChk_ok : cplChk = true := by kernel_rfl
theorem rot_cpl {w x i : Nat} (hw : w ≤ 8) (hx : x < 2 ^ w) (hi : i < w) : rotN (2 ^ w - 1 - x) i w = 2 ^ w - 1 - rotN x i w ∧ rotN x i w < 2 ^ w := by
  have h := cplChk_ok
  unfold cplChk at h
  have h1 := List.all_eq_true.1 h w (List.mem_range.2 (by omega))
  have h2 := List.all_eq_true.1 h1 x (List.mem_range.2 hx)
  have h3 := List.all_eq_true.1 h2 i (List.mem_range.2 hi)
  rw [Bool.and_eq_true] at h3
  exact ⟨eq_of_beq h3.1, of_decide_eq_true h3.2⟩
theorem rot_inj {w x y i : Nat} (hw : w ≤ 8) (hx : x < 2 ^ w) (hy : y < 2 ^ w) (hi : i < w) (h : rotN x i w = rotN y i w) : x = y := by
  have h1 := rot_rot hw hx hi (show 0 < w by omega)
  have h2 := rot_rot hw hy hi (show 0 < w by omega)
  rw [rot0 hx] at h1
  rw [rot0 hy] at h2
  rw [h] at h1
  exact h1.symm.trans h2

theorem findI_congr {p q : Nat → Bool} {n : Nat} (h : ∀ t, t < n → p t = q t) : findI p n = findI q n := by
  cases hq : findI q n with
  | none =>
    have := findI_not hq
    exact findI_none fun j hj => by rw [h j hj]; exact this j hj
  | some t =>
    obtain ⟨h1, h2, h3⟩ := findI_is hq
    exact findI_some h1 (by rw [h t h1]; exact h2) fun j hj => by rw [h j (by omega)]; exact h3 j hj
/-- The least plan sees a pattern only by which throws a plan is off at. -/
theorem few_same {W : Int} {l m : List Int} (hl : m.length = l.length) (h : ∀ k n s t, 1 ≤ n → t < l.length → offN W.toNat m k n s t = offN W.toNat l k n s t) :
    fewestS W.toNat m = fewestS W.toNat l := by
  have e1 : ∀ k n s, 1 ≤ n → firstS W.toNat m k n s = firstS W.toNat l k n s := fun k n s hn => by
    unfold firstS
    rw [hl, findI_congr fun t ht => h k n s t hn ht]
  have e2 : ∀ n j, 1 ≤ n → okP W.toNat m n j = okP W.toNat l n j := fun n j hn => by
    unfold okP; rw [e1 _ _ _ hn]
  have e3 : ∀ n, 1 ≤ n → fewJ W.toNat m n = fewJ W.toNat l n := fun n hn => findI_congr fun j _ => e2 n j hn
  have e4 : fewN W.toNat m = fewN W.toNat l := by
    unfold fewN
    rw [hl]
    exact findI_congr fun t _ => by rw [e3 _ (by omega)]
  unfold fewestS
  rw [e4, hl]
  cases fewN W.toNat l with
  | none => rfl
  | some t => simp only [e3 _ (show 1 ≤ t + 1 by omega)]

/-- A pattern whose lifts are all moved by b. -/
def movL (w : Nat) (l : List Int) (b : Nat) : List Int := lst (fun t => ((rotN (l.getD t 0).toNat b w : Nat) : Int)) l.length
/-- A pattern of the other shafts. -/
def cplL (w : Nat) (l : List Int) : List Int := lst (fun t => ((2 ^ w : Nat) : Int) - 1 - l.getD t 0) l.length
theorem lift_nat {W : Int} {l : List Int} (hc : chk W l = 0) {t : Nat} (ht : t < l.length) : (l.getD t 0).toNat < 2 ^ W.toNat ∧ (((l.getD t 0).toNat : Nat) : Int) = l.getD t 0 := by
  have := (chk_ok hc).2.2 _ (getD_mem ht)
  have e : ((2 ^ W.toNat : Nat) : Int) = (2 : Int) ^ W.toNat := by simp
  omega
theorem mov_len {w : Nat} {l : List Int} {b : Nat} : (movL w l b).length = l.length := lst_len
theorem cpl_len {w : Nat} {l : List Int} : (cplL w l).length = l.length := lst_len
theorem mov_get {w : Nat} {l : List Int} {b t : Nat} (h : t < l.length) : (movL w l b).getD t 0 = ((rotN (l.getD t 0).toNat b w : Nat) : Int) := lst_get h
theorem cpl_get {w : Nat} {l : List Int} {t : Nat} (h : t < l.length) : (cplL w l).getD t 0 = ((2 ^ w : Nat) : Int) - 1 - l.getD t 0 := lst_get h
theorem mov_ok {W : Int} {l : List Int} {b : Nat} (hc : chk W l = 0) (hb : b < W.toNat) : chk W (movL W.toNat l b) = 0 := by
  obtain ⟨hw, hp, hx⟩ := chk_ok hc
  have e : ((2 ^ W.toNat : Nat) : Int) = (2 : Int) ^ W.toNat := by simp
  refine chk_iff hw (by rw [mov_len]; exact hp) fun y hy => ?_
  obtain ⟨t, ht, rfl⟩ := List.mem_map.1 hy
  have := (rot_cpl (by omega) (lift_nat hc (List.mem_range.1 ht)).1 hb).2
  omega
theorem cpl_ok {W : Int} {l : List Int} (hc : chk W l = 0) : chk W (cplL W.toNat l) = 0 := by
  obtain ⟨hw, hp, hx⟩ := chk_ok hc
  have e : ((2 ^ W.toNat : Nat) : Int) = (2 : Int) ^ W.toNat := by simp
  refine chk_iff hw (by rw [cpl_len]; exact hp) fun y hy => ?_
  obtain ⟨t, ht, rfl⟩ := List.mem_map.1 hy
  have := lift_nat hc (List.mem_range.1 ht)
  omega
theorem cardN_le {k n t : Nat} : cardN k n t ≤ t := by
  have h1 := Nat.mod_le t n
  have h2 := Nat.mod_le t (2 * n - 2)
  unfold cardN
  split
  · exact h1
  · split
    · omega
    · exact h1
theorem mov_few {W : Int} {l : List Int} {b : Nat} (hc : chk W l = 0) (hb : b < W.toNat) : fewestS W.toNat (movL W.toNat l b) = fewestS W.toNat l := by
  obtain ⟨hw, hp, hx⟩ := chk_ok hc
  refine few_same mov_len fun k n s t hn ht => ?_
  have hcl : cardN k n t < l.length := Nat.lt_of_le_of_lt cardN_le ht
  have hm := moveN_lt (k := k) (n := n) (s := s) (w := W.toNat) (t := t) (by omega)
  unfold offN
  have h1 := lift_nat hc ht
  have h2 := lift_nat hc hcl
  have h3 := (rot_cpl (by omega) h2.1 hm).2
  rw [mov_get ht]
  refine decide_eq_decide.2 (not_congr ?_)
  rw [mov_get hcl, Int.toNat_natCast, rot_com (by omega) h2.1 hb hm]
  constructor
  · intro hh
    have := rot_inj (by omega) h3 h1.1 hb (Int.ofNat.inj hh)
    omega
  · intro hh
    rw [← h1.2] at hh
    rw [Int.ofNat.inj hh]
theorem cpl_few {W : Int} {l : List Int} (hc : chk W l = 0) : fewestS W.toNat (cplL W.toNat l) = fewestS W.toNat l := by
  obtain ⟨hw, hp, hx⟩ := chk_ok hc
  refine few_same cpl_len fun k n s t hn ht => ?_
  have hcl : cardN k n t < l.length := Nat.lt_of_le_of_lt cardN_le ht
  have hm := moveN_lt (k := k) (n := n) (s := s) (w := W.toNat) (t := t) (by omega)
  unfold offN
  have h1 := lift_nat hc ht
  have h2 := lift_nat hc hcl
  have h3 := rot_cpl (by omega) h2.1 hm
  rw [cpl_get ht]
  refine decide_eq_decide.2 (not_congr ?_)
  have h4 : ((2 ^ W.toNat : Nat) : Int) - 1 - l.getD (cardN k n t) 0 = ((2 ^ W.toNat - 1 - (l.getD (cardN k n t) 0).toNat : Nat) : Int) := by omega
  rw [cpl_get hcl, h4, Int.toNat_natCast, h3.1]
  omega
end Go.AM
