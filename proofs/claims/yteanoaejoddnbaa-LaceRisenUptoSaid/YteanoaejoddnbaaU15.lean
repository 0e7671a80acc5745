/-
  Plain: moves.
-/
import Derived.Test.YteanoaejoddnbaaU14
import Derived.Test.YteanoaejoddnbaaU11
import Derived.Test.YteanoaejoddnbaaU13
import Derived.Test.YteanoaejoddnbaaU12
set_option linter.unusedSimpArgs false
set_option linter.unusedVariables false
namespace Go.AM
def mvL (o : List Int) (f t : Nat) : List Int := (o.eraseIdx f).insertIdx t (o.getD f 0)
theorem ins_eq {α : Type} {x : α} : ∀ {l : List α} {t : Nat}, t ≤ l.length → l.insertIdx t x = l.take t ++ x :: l.drop t
  | l, 0, _ => by simp
  | [], t + 1, h => by simp at h
  | y :: l, t + 1, h => by
    rw [List.insertIdx_succ_cons, ins_eq (by simpa using h)]; rfl
theorem mvL_eq {o : List Int} {f t : Nat} (hf : f < o.length) (ht : t < o.length) : mvL o f t = (o.eraseIdx f).take t ++ o.getD f 0 :: (o.eraseIdx f).drop t :=
  ins_eq (by rw [List.length_eraseIdx_of_lt hf]; omega)
theorem er_eq {o : List Int} {f : Nat} (hf : f < o.length) : o = (o.eraseIdx f).take f ++ o.getD f 0 :: (o.eraseIdx f).drop f := by
  rw [List.eraseIdx_eq_take_drop_succ]
  have hl : (o.take f).length = f := by rw [List.length_take]; omega
  rw [List.take_append_of_le_length (by omega), List.take_of_length_le (by omega), List.drop_append_of_le_length (by omega), List.drop_of_length_le (by omega), List.nil_append]
  conv => lhs; rw [← List.take_append_drop f o]
  rw [List.drop_eq_getElem_cons hf, getD_at hf]
theorem mvL_len {o : List Int} {f t : Nat} (hf : f < o.length) (ht : t < o.length) : (mvL o f t).length = o.length := by
  have h1 := List.length_eraseIdx_of_lt hf
  rw [mvL_eq hf ht, List.length_append, List.length_cons, List.length_take, List.length_drop, h1]
  omega
theorem mvL_perm {o : List Int} {f t : Nat} (hf : f < o.length) (ht : t < o.length) : (mvL o f t).Perm o := by
  rw [mvL_eq hf ht]
  conv => rhs; rw [er_eq hf]
  refine (List.perm_middle).trans (List.Perm.trans ?_ (List.perm_middle).symm)
  rw [List.take_append_drop, List.take_append_drop]
theorem mvL_same {o : List Int} {f : Nat} (hf : f < o.length) : mvL o f f = o := by
  rw [mvL_eq hf hf]
  exact (er_eq hf).symm
theorem ord_perm {n : Nat} {o o' : List Int} (h : Ord n o) (p : o'.Perm o) : Ord n o' := ⟨by rw [p.length_eq]; exact h.1, fun x hx => h.2.1 x (p.mem_iff.1 hx), (p.nodup_iff).2 h.2.2⟩
/-- What moves make of an order, or the error. -/
def makF (n : Nat) : List (Int × Int) → List Int → List Int × Int
  | [], o => (o, 0)
  | m :: ms, o => if (0 ≤ m.1 ∧ m.1 < (n : Int)) ∧ (0 ≤ m.2 ∧ m.2 < (n : Int)) then makF n ms (mvL o m.1.toNat m.2.toNat) else ([], 1)
theorem makF_app {n : Nat} : ∀ {a b : List (Int × Int)} {o : List Int}, makF n (a ++ b) o = if (makF n a o).2 = 0 then makF n b (makF n a o).1 else ([], 1)
  | [], b, o => by simp [makF]
  | m :: a, b, o => by
    rw [List.cons_append, makF, makF]
    split
    · exact makF_app
    · rfl
theorem makF_ord {n : Nat} : ∀ {ms : List (Int × Int)} {o : List Int}, Ord n o → (∀ m ∈ ms, (0 ≤ m.1 ∧ m.1 < (n : Int)) ∧ (0 ≤ m.2 ∧ m.2 < (n : Int))) → (makF n ms o).2 = 0 ∧ (makF n ms o).1.Perm o
  | [], o, _, _ => ⟨rfl, .refl _⟩
  | m :: ms, o, ho, h => by
    have hm := h m (by simp)
    rw [makF, if_pos hm]
    have hp := mvL_perm (o := o) (f := m.1.toNat) (t := m.2.toNat) (by rw [ho.1]; omega) (by rw [ho.1]; omega)
    have := makF_ord (ms := ms) (ord_perm ho hp) (fun x hx => h x (by simp [hx]))
    exact ⟨this.1, this.2.trans hp⟩
/-! ### Rising lists of cards -/
def SubR (o s : List Int) : Prop := s.Sublist o ∧ s.Pairwise (· < ·)
theorem upto_map {o : List Int} : (upto o.length).map (fun p => o.getD p.toNat 0) = o := by
  unfold upto
  have := lst_self o
  conv => rhs; rw [this]
  unfold lst
  rw [List.map_map]
  refine List.map_congr_left fun i _ => ?_
  simp
theorem rise_sub {o l : List Int} (h : RiseP o l) : SubR o (l.map fun p => o.getD p.toNat 0) := by
  refine ⟨?_, List.pairwise_map.2 (h.1.imp fun q => q.2)⟩
  have e : l = (upto o.length).filter fun x => decide (x ∈ l) := by
    refine pair_ext (h.1.imp fun q => q.1) ((upto_sorted _).filter _) fun x => ?_
    rw [List.mem_filter, upto_mem, decide_eq_true_eq]
    exact ⟨fun q => ⟨h.2 x q, q⟩, fun q => q.2⟩
  have h1 : l.Sublist (upto o.length) := by rw [e]; exact List.filter_sublist
  have := h1.map (fun p => o.getD p.toNat 0)
  rwa [upto_map] at this
theorem sub_rise : ∀ {s o : List Int}, s.Sublist o → ∃ l : List Nat, l.Pairwise (· < ·) ∧ (∀ p ∈ l, p < o.length) ∧ s = l.map fun p => o.getD p 0 := by
  intro s o h
  induction h with
  | slnil => exact ⟨[], .nil, by simp, rfl⟩
  | @cons l₁ l₂ a h ih =>
    obtain ⟨l, h1, h2, h3⟩ := ih
    refine ⟨l.map (· + 1), List.pairwise_map.2 (h1.imp fun h => by omega), fun p hp => ?_, ?_⟩
    · obtain ⟨q, hq, rfl⟩ := List.mem_map.1 hp
      have := h2 q hq
      simp; omega
    · rw [List.map_map, h3]
      exact List.map_congr_left fun p _ => by simp
  | @cons_cons l₁ l₂ a h ih =>
    obtain ⟨l, h1, h2, h3⟩ := ih
    refine ⟨0 :: l.map (· + 1), List.pairwise_cons.2 ⟨fun q hq => ?_, List.pairwise_map.2 (h1.imp fun h => by omega)⟩, fun p hp => ?_, ?_⟩
    · obtain ⟨x, _, rfl⟩ := List.mem_map.1 hq
      omega
    · rcases List.mem_cons.1 hp with e | e
      · rw [e]; simp
      · obtain ⟨q, hq, rfl⟩ := List.mem_map.1 e
        have := h2 q hq
        simp; omega
    · rw [List.map_cons, List.map_map, h3]
      exact congrArg _ (List.map_congr_left fun p _ => by simp)
def lisN (o : List Int) : Nat := (riseL o).length
theorem lis_ge {o s : List Int} (h : SubR o s) : s.length ≤ lisN o := by
  obtain ⟨l, h1, h2, h3⟩ := sub_rise h.1
  have hr : RiseP o (l.map fun p : Nat => (p : Int)) := by
    refine ⟨?_, fun p hp => ?_⟩
    · have hv := h.2
      rw [h3, List.pairwise_map] at hv
      rw [List.pairwise_map]
      exact (h1.and hv).imp fun ⟨a, b⟩ => ⟨by omega, by simpa using b⟩
    · obtain ⟨q, hq, rfl⟩ := List.mem_map.1 hp
      have := h2 q hq
      omega
  have := (riseL_is o).2 _ hr
  rw [List.length_map] at this
  rw [h3, List.length_map]
  unfold lisN
  omega
theorem lis_is (o : List Int) : ∃ s, SubR o s ∧ s.length = lisN o := ⟨_, rise_sub (riseL_is o).1, by rw [List.length_map]; rfl⟩
/-- A move makes a rising list longer by one at most. -/
theorem lis_move {o : List Int} {f t : Nat} (hf : f < o.length) (ht : t < o.length) : lisN (mvL o f t) ≤ lisN o + 1 := by
  obtain ⟨s, ⟨h1, h2⟩, h3⟩ := lis_is (mvL o f t)
  obtain ⟨x, ex⟩ : ∃ x, x = o.getD f 0 := ⟨_, rfl⟩
  have e : (mvL o f t).filter (fun y => decide (y ≠ x)) = (o.eraseIdx f).filter fun y => decide (y ≠ x) := by
    rw [mvL_eq hf ht, List.filter_append, List.filter_cons, if_neg (by simp [ex]), ← List.filter_append, List.take_append_drop]
  have h4 : SubR o (s.filter fun y => decide (y ≠ x)) := by
    refine ⟨?_, h2.filter _⟩
    have := h1.filter (fun y => decide (y ≠ x))
    rw [e] at this
    exact (this.trans List.filter_sublist).trans (List.eraseIdx_sublist o f)
  have h5 := lis_ge h4
  have h6 : s.length ≤ (s.filter fun y => decide (y ≠ x)).length + 1 := by
    have hn : s.Nodup := h2.imp fun h => by omega
    have aux : ∀ {l : List Int}, l.Nodup → l.length ≤ (l.filter fun y => decide (y ≠ x)).length + 1 := by
      intro l
      induction l with
      | nil => simp
      | cons y l ih =>
        intro h
        rw [List.nodup_cons] at h
        by_cases c : y = x
        · subst c
          have : l.filter (fun z => decide (z ≠ y)) = l := List.filter_eq_self.2 fun z hz => decide_eq_true fun q => h.1 (q ▸ hz)
          rw [List.filter_cons, if_neg (by simp), this, List.length_cons]
          omega
        · have := ih h.2
          rw [List.filter_cons, if_pos (by simp [c]), List.length_cons, List.length_cons]
          omega
    exact aux hn
  omega
theorem lis_moves {n : Nat} : ∀ {ms : List (Int × Int)} {o : List Int}, Ord n o → (∀ m ∈ ms, (0 ≤ m.1 ∧ m.1 < (n : Int)) ∧ (0 ≤ m.2 ∧ m.2 < (n : Int))) → lisN (makF n ms o).1 ≤ lisN o + ms.length
  | [], o, _, _ => by simp [makF]
  | m :: ms, o, ho, h => by
    have hm := h m (by simp)
    rw [makF, if_pos hm]
    have hf : m.1.toNat < o.length := by rw [ho.1]; omega
    have ht : m.2.toNat < o.length := by rw [ho.1]; omega
    have h1 := lis_move hf ht
    have h2 := lis_moves (ms := ms) (ord_perm ho (mvL_perm hf ht)) (fun x hx => h x (by simp [hx]))
    rw [List.length_cons]
    omega
theorem ord_sorted {n : Nat} {o : List Int} (h : Ord n o) (hs : o.Pairwise (· ≤ ·)) : o = upto n := by
  have hs2 : o.Pairwise (· < ·) := (hs.and h.2.2).imp fun ⟨a, b⟩ => by omega
  refine pair_ext hs2 (upto_sorted n) fun x => ?_
  rw [upto_mem]
  exact ⟨fun q => h.2.1 x q, fun q => ord_all h q⟩
theorem lis_upto {n : Nat} : n ≤ lisN (upto n) := by
  have := lis_ge (o := upto n) (s := upto n) ⟨List.Sublist.refl _, upto_sorted n⟩
  rwa [upto_len] at this
/-! ### Both ways -/
/-! ### Moves that make an order right -/
theorem sub_two : ∀ {l : List Int} {i j : Nat} (h : i < j) (hj : j < l.length), [l[i]'(by omega), l[j]].Sublist l
  | [], i, j, _, hj => by simp at hj
  | x :: l, 0, 0, h, _ => by omega
  | x :: l, 0, j + 1, _, hj => by
    simp only [List.getElem_cons_zero, List.getElem_cons_succ]
    exact (List.singleton_sublist.2 (List.getElem_mem _)).cons_cons x
  | x :: l, i + 1, 0, h, _ => by omega
  | x :: l, i + 1, j + 1, h, hj => by
    simp only [List.getElem_cons_succ]
    exact (sub_two (l := l) (by omega) (by simpa using hj)).cons x
/-- Behind all cards that are kept and less. -/
def mndT (rest kept : List Int) (k : Int) : Nat → Nat
  | 0 => 0
  | i + 1 => if rest.getD i 0 < k ∧ rest.getD i 0 ∈ kept then i + 1 else mndT rest kept k i
structure MndS where
  o : List Int
  kept : List Int
  out : List (Int × Int)
def mndS (s : MndS) (k : Int) : MndS :=
  if k ∈ s.kept then s else
  let f := s.o.idxOf k
  let t := mndT (s.o.eraseIdx f) s.kept k (s.o.eraseIdx f).length
  ⟨mvL s.o f t, s.kept ++ [k], if f = t then s.out else s.out ++ [((f : Int), (t : Int))]⟩
def mndN (s : MndS) : Nat → MndS
  | 0 => s
  | k + 1 => mndS (mndN s k) (k : Int)
def mndL (o : List Int) : List (Int × Int) := (mndN ⟨o, (riseL o).map fun p => o.getD p.toNat 0, []⟩ o.length).out
theorem mndT_le {rest kept : List Int} {k : Int} : ∀ i, mndT rest kept k i ≤ i
  | 0 => Nat.le_refl _
  | i + 1 => by
    have := mndT_le (rest := rest) (kept := kept) (k := k) i
    rw [mndT]; split <;> omega
theorem mndT_is {rest kept : List Int} {k : Int} : ∀ i, (mndT rest kept k i = 0 ∨ (0 < mndT rest kept k i ∧ rest.getD (mndT rest kept k i - 1) 0 < k ∧ rest.getD (mndT rest kept k i - 1) 0 ∈ kept)) ∧ ∀ j, mndT rest kept k i ≤ j → j < i → ¬ (rest.getD j 0 < k ∧ rest.getD j 0 ∈ kept)
  | 0 => ⟨.inl rfl, fun j _ hj => by omega⟩
  | i + 1 => by
    have ih := mndT_is (rest := rest) (kept := kept) (k := k) i
    rw [mndT]
    split
    · rename_i c
      exact ⟨.inr ⟨by omega, by simpa using c⟩, fun j h1 h2 => by omega⟩
    · rename_i c
      refine ⟨ih.1, fun j h1 h2 => ?_⟩
      by_cases e : j = i
      · rw [e]; exact c
      · exact ih.2 j h1 (by omega)
/-- The cards that are kept lie in order. -/
structure MndI (n : Nat) (o0 : List Int) (kept0 : List Int) (k : Nat) (s : MndS) : Prop where
  ord : Ord n s.o
  up : (s.o.filter fun x => decide (x ∈ s.kept)).Pairwise (· < ·)
  kept : ∀ x, x ∈ s.kept ↔ x ∈ kept0 ∨ (0 ≤ x ∧ x < (k : Int))
  rng : ∀ m ∈ s.out, (0 ≤ m.1 ∧ m.1 < (n : Int)) ∧ (0 ≤ m.2 ∧ m.2 < (n : Int))
  mak : makF n s.out o0 = (s.o, 0)
  few : s.out.length ≤ (upto k).countP fun x => decide (x ∉ kept0)
theorem mndS_ok {n : Nat} {o0 kept0 : List Int} {k : Nat} {s : MndS} (hk : k < n) (hk0 : ∀ x ∈ kept0, 0 ≤ x ∧ x < (n : Int)) (h : MndI n o0 kept0 k s) : MndI n o0 kept0 (k + 1) (mndS s (k : Int)) := by
  have cnt : (upto (k + 1)).countP (fun x => decide (x ∉ kept0)) = (upto k).countP (fun x => decide (x ∉ kept0)) + if (k : Int) ∈ kept0 then 0 else 1 := by
    rw [upto_succ, List.countP_append, List.countP_cons, List.countP_nil]
    by_cases c : (k : Int) ∈ kept0 <;> simp [c]
  unfold mndS
  by_cases c : (k : Int) ∈ s.kept
  · rw [if_pos c]
    refine ⟨h.ord, h.up, fun x => ?_, h.rng, h.mak, by have := h.few; rw [cnt]; omega⟩
    rw [h.kept x]
    have c' := (h.kept _).1 c
    constructor
    · rintro (q | q)
      · exact .inl q
      · exact .inr (by omega)
    · rintro (q | q)
      · exact .inl q
      · by_cases e : x = (k : Int)
        · rcases c' with r | r
          · exact .inl (e ▸ r)
          · omega
        · exact .inr (by omega)
  · rw [if_neg c]
    have hm := ord_all h.ord (x := (k : Int)) (by omega)
    obtain ⟨f, ef⟩ : ∃ f, f = s.o.idxOf (k : Int) := ⟨_, rfl⟩
    have hf : f < s.o.length := by rw [ef]; exact List.idxOf_lt_length_iff.2 hm
    have hfk : s.o.getD f 0 = (k : Int) := by rw [getD_at hf]; subst ef; exact List.getElem_idxOf hf
    have hrl : (s.o.eraseIdx f).length = n - 1 := by rw [List.length_eraseIdx_of_lt hf, h.ord.1]
    obtain ⟨t, et⟩ : ∃ t, t = mndT (s.o.eraseIdx f) s.kept (k : Int) (s.o.eraseIdx f).length := ⟨_, rfl⟩
    have ht : t ≤ n - 1 := by rw [et, ← hrl]; exact mndT_le _
    have hol := h.ord.1
    show MndI n o0 kept0 (k + 1) ⟨mvL s.o (s.o.idxOf (k : Int)) (mndT (s.o.eraseIdx (s.o.idxOf (k : Int))) s.kept (k : Int) (s.o.eraseIdx (s.o.idxOf (k : Int))).length), s.kept ++ [(k : Int)], if s.o.idxOf (k : Int) = mndT (s.o.eraseIdx (s.o.idxOf (k : Int))) s.kept (k : Int) (s.o.eraseIdx (s.o.idxOf (k : Int))).length then s.out else s.out ++ [(((s.o.idxOf (k : Int) : Nat) : Int), ((mndT (s.o.eraseIdx (s.o.idxOf (k : Int))) s.kept (k : Int) (s.o.eraseIdx (s.o.idxOf (k : Int))).length : Nat) : Int))]⟩
    rw [← ef, ← et]
    have hknew : ¬ (k : Int) ∈ kept0 := fun q => c ((h.kept _).2 (.inl q))
    have hp := mvL_perm (o := s.o) (f := f) (t := t) hf (by omega)
    have hrest : (s.o.eraseIdx f).filter (fun x => decide (x ∈ s.kept)) = s.o.filter fun x => decide (x ∈ s.kept) := by
      conv => rhs; rw [er_eq hf]
      rw [List.filter_append, List.filter_cons, if_neg (by rw [hfk]; simp [c]), ← List.filter_append, List.take_append_drop]
    have hmt := mndT_is (rest := s.o.eraseIdx f) (kept := s.kept) (k := (k : Int)) (s.o.eraseIdx f).length
    rw [← et] at hmt
    have hkr : (k : Int) ∉ s.o.eraseIdx f := fun q => by
      have := h.ord.2.2
      rw [er_eq hf, hfk] at this
      have q' : (k : Int) ∈ (s.o.eraseIdx f).take f ++ (s.o.eraseIdx f).drop f := by rw [List.take_append_drop]; exact q
      have := (List.perm_middle (a := (k : Int)) (l₁ := (s.o.eraseIdx f).take f) (l₂ := (s.o.eraseIdx f).drop f)).nodup_iff.1 this
      exact (List.nodup_cons.1 this).1 q'
    refine ⟨ord_perm h.ord hp, ?_, fun x => ?_, ?_, ?_, ?_⟩
    · -- in order
      show ((mvL s.o f t).filter fun x => decide (x ∈ s.kept ++ [(k : Int)])).Pairwise (· < ·)
      have up := h.up
      rw [← hrest] at up
      rw [mvL_eq hf (by omega), hfk, List.filter_append, List.filter_cons, if_pos (by simp)]
      have flt : ∀ {l : List Int}, (∀ x ∈ l, x ≠ (k : Int)) → l.filter (fun x => decide (x ∈ s.kept ++ [(k : Int)])) = l.filter fun x => decide (x ∈ s.kept) := fun {l} hl => List.filter_congr fun x hx => by
        have := hl x hx
        simp [this]
      have n1 : ∀ x ∈ (s.o.eraseIdx f).take t, x ≠ (k : Int) := fun x hx e => hkr (e ▸ List.mem_of_mem_take hx)
      have n2 : ∀ x ∈ (s.o.eraseIdx f).drop t, x ≠ (k : Int) := fun x hx e => hkr (e ▸ List.mem_of_mem_drop hx)
      rw [flt n1, flt n2]
      have up2 := up
      conv at up2 => rw [← List.take_append_drop t (s.o.eraseIdx f)]
      rw [List.filter_append, List.pairwise_append] at up2
      obtain ⟨u1, u2, u3⟩ := up2
      have lo : ∀ x ∈ (s.o.eraseIdx f).take t, x ∈ s.kept → x < (k : Int) := fun x hx hxk => by
        rcases hmt.1 with e | ⟨e1, e2, e3⟩
        · rw [e] at hx; simp at hx
        · have htl : t - 1 < ((s.o.eraseIdx f).take t).length := by rw [List.length_take]; omega
          obtain ⟨i, hi, rfl⟩ := List.getElem_of_mem hx
          have hil : i < t := by rw [List.length_take] at hi; omega
          by_cases c1 : i = t - 1
          · subst c1
            rw [List.getElem_take]
            rwa [getD_at (by omega)] at e2
          · -- an earlier one that is kept is less
            have hsub : [((s.o.eraseIdx f).take t)[i], ((s.o.eraseIdx f).take t)[t - 1]].Sublist ((s.o.eraseIdx f).take t) := by
              have := sub_two (l := (s.o.eraseIdx f).take t) (i := i) (j := t - 1) (by omega) htl
              exact this
            have hs2 := hsub.filter fun x => decide (x ∈ s.kept)
            have e4 : ((s.o.eraseIdx f).take t)[t - 1] = (s.o.eraseIdx f)[t - 1]'(by omega) := List.getElem_take
            have htr : t - 1 < (s.o.eraseIdx f).length := by omega
            rw [getD_at htr] at e2 e3
            have ek : ((s.o.eraseIdx f).take t)[t - 1] ∈ s.kept := by rw [e4]; exact e3
            rw [List.filter_cons, if_pos (by simpa using hxk), List.filter_cons, if_pos (by simpa using ek), List.filter_nil] at hs2
            have := List.rel_of_pairwise_cons (u1.sublist hs2) (List.mem_singleton.2 rfl)
            rw [e4] at this
            omega
      have hi : ∀ x ∈ (s.o.eraseIdx f).drop t, x ∈ s.kept → (k : Int) < x := fun x hx hxk => by
        obtain ⟨i, hi, rfl⟩ := List.getElem_of_mem hx
        rw [List.length_drop] at hi
        have := hmt.2 (t + i) (by omega) (by omega)
        rw [List.getElem_drop] at hxk ⊢
        rw [getD_at (by omega)] at this
        have hne := n2 _ hx
        rw [List.getElem_drop] at hne
        rcases Int.lt_trichotomy (s.o.eraseIdx f)[t + i] (k : Int) with q | q | q
        · exact absurd ⟨q, hxk⟩ this
        · exact absurd q hne
        · exact q
      rw [List.pairwise_append]
      refine ⟨u1, List.pairwise_cons.2 ⟨fun x hx => ?_, u2⟩, fun a ha b hb => ?_⟩
      · obtain ⟨h1, h2⟩ := List.mem_filter.1 hx
        exact hi x h1 (of_decide_eq_true h2)
      · obtain ⟨h1, h2⟩ := List.mem_filter.1 ha
        rcases List.mem_cons.1 hb with e | e
        · rw [e]; exact lo a h1 (of_decide_eq_true h2)
        · exact u3 a ha b e
    · show x ∈ s.kept ++ [(k : Int)] ↔ _
      rw [List.mem_append, List.mem_singleton, h.kept x]
      constructor
      · rintro ((q | q) | q)
        · exact .inl q
        · exact .inr (by omega)
        · exact .inr (by omega)
      · rintro (q | q)
        · exact .inl (.inl q)
        · by_cases e : x = (k : Int)
          · exact .inr e
          · exact .inl (.inr (by omega))
    · dsimp only
      split
      · exact h.rng
      · intro m hm'
        rcases List.mem_append.1 hm' with q | q
        · exact h.rng m q
        · rw [List.mem_singleton] at q
          subst q
          exact ⟨by simp only; omega, by simp only; omega⟩
    · dsimp only
      split
      · rename_i e
        rw [h.mak, ← e, mvL_same hf]
      · rw [makF_app, h.mak, if_pos rfl, makF, if_pos ⟨by simp only; omega, by simp only; omega⟩]
        simp only [Int.toNat_natCast, makF]
    · have := h.few
      rw [cnt, if_neg hknew]
      dsimp only
      split
      · omega
      · rw [List.length_append, List.length_cons, List.length_nil]; omega
/-- The elements of a sublist, picked out. -/
theorem sub_filter : ∀ {l s : List Int}, l.Nodup → s.Sublist l → l.filter (fun x => decide (x ∈ s)) = s := by
  intro l s hn h
  induction h with
  | slnil => rfl
  | @cons s l a h ih =>
    rw [List.nodup_cons] at hn
    rw [List.filter_cons, if_neg (by simp; exact fun q => hn.1 (h.subset q))]
    exact ih hn.2
  | @cons_cons s l a h ih =>
    rw [List.nodup_cons] at hn
    rw [List.filter_cons, if_pos (by simp)]
    congr 1
    have := ih hn.2
    conv => rhs; rw [← this]
    refine List.filter_congr fun x hx => ?_
    have : x ≠ a := fun e => hn.1 (e ▸ hx)
    simp [this]
theorem mndN_ok {n : Nat} {o0 : List Int} (ho : Ord n o0) : ∀ {k}, k ≤ n → MndI n o0 ((riseL o0).map fun p => o0.getD p.toNat 0) k (mndN ⟨o0, (riseL o0).map fun p => o0.getD p.toNat 0, []⟩ k)
  | 0, _ => by
    have hs := rise_sub (riseL_is o0).1
    refine ⟨ho, ?_, fun x => ?_, by simp [mndN], rfl, by simp [mndN]⟩
    · show (o0.filter fun x => decide (x ∈ (riseL o0).map fun p => o0.getD p.toNat 0)).Pairwise (· < ·)
      obtain ⟨S, eS⟩ : ∃ S, S = (riseL o0).map fun p => o0.getD p.toNat 0 := ⟨_, rfl⟩
      rw [← eS] at hs ⊢
      have e : o0.filter (fun x => decide (x ∈ S)) = S := sub_filter ho.2.2 hs.1
      rw [e]
      exact hs.2
    · show x ∈ _ ↔ x ∈ _ ∨ _
      exact ⟨.inl, fun h => h.elim id fun h => by omega⟩
  | k + 1, hk => mndS_ok (by omega) (fun x hx => by
      have := (rise_sub (riseL_is o0).1).1.subset hx
      exact ho.2.1 x this) (mndN_ok ho (k := k) (by omega))
/-- The moves make the order right, and are as few as can be. -/
theorem mndL_ok {n : Nat} {o : List Int} (ho : Ord n o) : makF n (mndL o) o = (upto n, 0) ∧ (∀ m ∈ mndL o, (0 ≤ m.1 ∧ m.1 < (n : Int)) ∧ (0 ≤ m.2 ∧ m.2 < (n : Int))) ∧ (mndL o).length + lisN o = n := by
  have h := mndN_ok ho (Nat.le_refl n)
  obtain ⟨S, eS⟩ : ∃ S, S = (riseL o).map fun p => o.getD p.toNat 0 := ⟨_, rfl⟩
  have hs := rise_sub (riseL_is o).1
  rw [← eS] at h hs
  have hl : mndL o = (mndN ⟨o, S, []⟩ n).out := by unfold mndL; rw [ho.1, eS]
  rw [hl]
  have hall : (mndN ⟨o, S, []⟩ n).o.filter (fun x => decide (x ∈ (mndN ⟨o, S, []⟩ n).kept)) = (mndN ⟨o, S, []⟩ n).o := List.filter_eq_self.2 fun x hx => decide_eq_true ((h.kept x).2 (.inr (h.ord.2.1 x hx)))
  have hup := h.up
  rw [hall] at hup
  have hfin := ord_sorted h.ord (hup.imp fun q => by omega)
  have hmk := h.mak
  rw [hfin] at hmk
  refine ⟨hmk, h.rng, ?_⟩
  have h1 := lis_moves ho h.rng
  rw [hmk] at h1
  dsimp only at h1
  have h2 := lis_upto (n := n)
  have h3 := h.few
  -- the cards that are not kept
  have h4 : S.length = lisN o := by rw [eS, List.length_map]; rfl
  have h5 : (upto n).countP (fun x => decide (x ∉ S)) + S.length = n := by
    have e1 := List.length_eq_countP_add_countP (l := upto n) (fun x => decide (x ∈ S))
    rw [upto_len] at e1
    have e2 : (upto n).countP (fun x => decide (x ∈ S)) = S.length := by
      have hSn : S.Pairwise (· < ·) := hs.2
      rw [List.countP_eq_length_filter]
      have : (upto n).filter (fun x => decide (x ∈ S)) = S := by
        refine pair_ext ((upto_sorted n).filter _) hSn fun x => ?_
        rw [List.mem_filter, upto_mem, decide_eq_true_eq]
        exact ⟨fun q => q.2, fun q => ⟨ho.2.1 x (hs.1.subset q), q⟩⟩
      rw [this]
    have e3 : (upto n).countP (fun x => decide (x ∉ S)) = (upto n).countP (fun a => decide ¬ decide (a ∈ S) = true) := List.countP_congr fun a _ => by simp
    omega
  omega
end Go.AM
/-
  Plain: sets of numbers by bits, the best of some lists.
-/
namespace Go.AM
def pickO {α : Type} (better : α → α → Bool) (p : α → Bool) (b : Option α) (x : α) : Option α := if (p x && b.all fun y => better x y) = true then some x else b
def memS (n s : Nat) : List Int := (upto n).filter fun i => s.testBit i.toNat
def btG (x y : List Int) : Bool := decide (y.length < x.length) || (decide (x.length = y.length) && lexB x y)
def btL (x y : List Int) : Bool := decide (x.length < y.length) || (decide (x.length = y.length) && lexB x y)
/-- The sets from 1 up to a number. -/
def setsR (n : Nat) : Nat → List (List Int)
  | 0 => []
  | k + 1 => setsR n k ++ [memS n (k + 1)]
end Go.AM
/-
  Plain: lists of so many of some numbers, in lexicographic order; the first one of which something holds.
-/
namespace Go.AM
/-- The lists of d numbers more, of those from a place on, behind l: in their order. -/
def lexC (of : List Int) : Nat → List Int → Nat → List (List Int)
  | 0, l, _ => [l]
  | d + 1, l, a => (List.range (of.length - a)).flatMap fun q => lexC of d (l ++ [of.getD (a + q) 0]) (a + q + 1)
def lexP (of : List Int) (d : Nat) (l : List Int) (a j : Nat) : List (List Int) := (List.range j).flatMap fun q => lexC of d (l ++ [of.getD (a + q) 0]) (a + q + 1)
/-- Lists are visited until one is the right one; the last one that was visited. -/
def visF (p : List Int → Bool) : List (List Int) → Option (List Int) → Bool × Option (List Int)
  | [], o => (false, o)
  | x :: xs, _ => if p x = true then (true, some x) else visF p xs (some x)
end Go.AM
/-
  Plain: what the reference says of rising lists; gaps; positions that decide; cards that are sure; looks.
-/
namespace Go.AM
/-! ### Lists of positions, the shortest first -/
def allS (n : Nat) : List (List Int) := (List.range (n + 1)).flatMap fun m => lexC (upto n) m [] 0
/-! ### Rising lists, as the reference has them -/
def risB (o l : List Int) : Bool := decide (l.Pairwise fun p q => o.getD p.toNat 0 < o.getD q.toNat 0)
theorem sub_upto {n : Nat} {l : List Int} : l.Sublist (upto n) ↔ l.Pairwise (· < ·) ∧ ∀ x ∈ l, 0 ≤ x ∧ x < (n : Int) := by
  constructor
  · intro h; exact ⟨(upto_sorted n).sublist h, fun x hx => upto_mem.1 (h.subset hx)⟩
  · rintro ⟨h1, h2⟩
    have e : l = (upto n).filter fun x => decide (x ∈ l) := by
      refine pair_ext h1 ((upto_sorted _).filter _) fun x => ?_
      rw [List.mem_filter, upto_mem, decide_eq_true_eq]
      exact ⟨fun q => ⟨h2 x q, q⟩, fun q => q.2⟩
    rw [e]; exact List.filter_sublist
theorem riseP_iff {o l : List Int} : RiseP o l ↔ l.Sublist (upto o.length) ∧ risB o l = true := by
  unfold RiseP rsR risB
  rw [sub_upto, decide_eq_true_eq]
  constructor
  · rintro ⟨h1, h2⟩; exact ⟨⟨h1.imp fun q => q.1, h2⟩, h1.imp fun q => q.2⟩
  · rintro ⟨⟨h1, h2⟩, h3⟩; exact ⟨h1.and h3, h2⟩
def rseR (o : List Int) : Nat → List Int
  | 0 => []
  | s + 1 => if (risB o (memS o.length s) && btG (memS o.length s) (rseR o s)) = true then memS o.length s else rseR o s
/-! ### Gaps -/
def fittN (L : Lac) (l : List Int) : Nat := ((upto L.C.length).filter fun k => l.any fun p => fitB L p.toNat k.toNat).length
def gapP (L : Lac) (l : List Int) : Bool := decide (fittN L l < l.length)
def gapO (L : Lac) : Option (List Int) := if (visF (gapP L) (allS L.C.length) none).1 = true then (visF (gapP L) (allS L.C.length) none).2 else none
/-! ### Cards that are sure -/
def knwL (n : Nat) (os : List (List Int)) : List Int := lst (fun p => if (os.all fun x => decide (x.getD p 0 = (os.headD []).getD p 0)) = true then (os.headD []).getD p 0 else -1) n
/-! ### Looks -/
def lvsN (n : Nat) (os : List (List Int)) (p : Nat) : Int := grt (lst (fun k => (os.countP fun o => decide (o.getD p 0 = (k : Int)) : Nat)) n)
/-- The first position with the fewest orders, at most. -/
def askN (n : Nat) (os : List (List Int)) : Nat → Int × Int
  | 0 => (0, 0)
  | p + 1 => if p = 0 ∨ lvsN n os p < (askN n os p).2 then ((p : Int), lvsN n os p) else askN n os p
/-! ### Positions that decide -/
def keyL (l o : List Int) : List Int := l.map fun p => o.getD p.toNat 0
def dcdP (os : List (List Int)) (l : List Int) : Bool := decide ((os.map (keyL l)).Nodup)
def dcdL (n : Nat) (os : List (List Int)) : List Int := ((visF (dcdP os) (allS n) none).2).getD []
def IsDec (n : Nat) (os : List (List Int)) (x : List Int) : Prop := x.Sublist (upto n) ∧ dcdP os x = true ∧ ∀ y, y.Sublist (upto n) → dcdP os y = true → y = x ∨ btL x y = true
/-- As the reference has it: the best of all sets. -/
def dcdR (n : Nat) (os : List (List Int)) : Nat → Option (List Int)
  | 0 => none
  | s + 1 => if ((dcdR n os s).all (fun b => btL (memS n s) b) && dcdP os (memS n s)) = true then some (memS n s) else dcdR n os s
end Go.AM
/-
  Contracts: the first order, their number, the cards that are sure.
-/
namespace Go.AM
open Go.Proofs.Try
theorem dschL17 {p : Prop} (h : p := by first | exact Nat.ne_of_beq_eq_false rfl | assumption | (apply asOne; (first | exact One.int | exact One.bool | assumption | exact Ints.one (by assumption) | exact Rows.one (by assumption) | exact Own.one (by assumption) | exact One.lit ⟨rfl, rfl, rfl⟩)) | (apply asInts; (repeat first | assumption | exact ints_nil | apply Ints.app); done) | (apply asRows; (repeat first | assumption | exact Rows.nil | apply Rows.app); done) | (apply asScal; (first | apply allS1 | apply allS2 | apply allS3 | apply allS4) <;> (first | exact One.int | exact One.bool | assumption | exact Ints.one (by assumption) | exact Rows.one (by assumption) | exact Own.one (by assumption) | exact One.lit ⟨rfl, rfl, rfl⟩)) | exact litT rfl | exact litF rfl | omega | (simp only [List.length_append, List.length_cons, List.length_nil, List.length_set, List.length_reverse]; first | done | omega) | fail) : p := h
attribute [-go_sem] put_ne put_same
attribute [local go_sem ↓] put_if
abbrev evZ (g : AVal) : ABlk := ⟨.cells [g] 74 false false, 0⟩
theorem every_Z {base b : Nat} {h : Heap} {v g : AVal} {ts : List (List Int)} (p : List Int → Bool) (hb : base ≤ h.length) (h1 : One g) (hA : AllI b h v ts) (hl : ts.length < 2 ^ 60)
    (hg : ∀ x t, t ∈ ts → OwnE encI 3 0 h x t → callL prog raw base g [x] (h ++ [evZ g]) = some (.bool (p t), h ++ [evZ g])) :
    callL prog raw base (.fn 106 [] []) [v, g] h = some (.bool (ts.all p), h ++ [evZ g]) := by
  obtain ⟨vs, hO, hvl, hel⟩ := hA
  have hR := hO.rows (by omega)
  obtain ⟨w, H, e, k, b, rfl, c1, c2⟩ := everyS_Z (base := base) (A := 0) (pr := fun _ => True) (J := fun n H => H = h ++ [evZ g] ∧ (ts.take n).all p = true) (S := fun n H => H = h ++ [evZ g] ∧ ts.all p = false) hb h1 (by omega) trivial (fun n H q => q.1 ▸ hR.app)
    (fun n x H hx hH hJ => by
      obtain ⟨rfl, hJ⟩ := hJ
      have hn := (List.getElem?_eq_some_iff.1 hx).1
      have ht : ts[n]? = some ts[n] := List.getElem?_eq_getElem (by omega)
      have ho := hel n x _ hx ht
      rw [norm_one ho.one]
      exact ⟨_, _, hg x _ (List.getElem_mem _) ho, KeepP.refl, fun q => ⟨rfl, all_take ht hJ q⟩, fun q => ⟨rfl, all_no ht q⟩⟩)
    ⟨rfl, by simp⟩
  rw [e]
  cases b with
  | false => obtain ⟨n, hn, rfl, q⟩ := c2 rfl; rw [q]
  | true =>
    obtain ⟨rfl, q⟩ := c1 rfl
    rw [hvl, List.take_length] at q
    rw [q]
theorem fnd_ord {L : Lac} {o : List Int} (h : o ∈ fnd L) : Ord L.C.length o := (fnd_mem.1 h).1
theorem ord_small {n : Nat} {o : List Int} (h : Ord n o) (hn : n ≤ 1000) : Small o := ⟨by have := h.1; omega, fun x hx => by have := h.2.1 x hx; omega⟩
theorem fndE_ok {L : Lac} (h : (fndE L).2 = 0) : chkL L = 0 ∧ fnd L ≠ [] ∧ fndE L = (fnd L, 0) := by
  unfold fndE at h ⊢
  by_cases c : chkL L = 0
  · rw [if_neg (by simp [c])] at h ⊢
    by_cases d : fnd L = []
    · rw [if_pos d] at h; cases h
    · rw [if_neg d]; exact ⟨c, d, rfl⟩
  · rw [if_pos c] at h; exact absurd h c
theorem fndE_no {L : Lac} (h : (fndE L).2 ≠ 0) : (fndE L).1 = [] := by
  unfold fndE at h ⊢
  by_cases c : chkL L = 0
  · rw [if_neg (by simp [c])] at h ⊢
    by_cases d : fnd L = []
    · rw [if_pos d]
    · rw [if_neg d] at h; exact absurd rfl h
  · rw [if_pos c]
def frsE (L : Lac) : List Int × Int := if (fndE L).2 = 0 then ((fnd L).headD [], 0) else ([], (fndE L).2)
def cntE (L : Lac) : Int × Int := ((fndE L).1.length, if (fndE L).2 = 7 then 0 else (fndE L).2)
def kwnE (L : Lac) : List Int × Int := if (fndE L).2 = 0 then (knwL L.C.length (fnd L), 0) else ([], (fndE L).2)
theorem head_at {α : Type} {l : List (List α)} (h : l ≠ []) : l[0]? = some (l.headD []) := by
  cases l with
  | nil => exact absurd rfl h
  | cons a l => rfl
theorem run_Count {base : Nat} {h : Heap} {v : AVal} {L : Lac} (hL : LacAt h v L) :
    callL prog raw base (.fn 40 [] []) [v] h = some (.tuple [.int .i64 (cntE L).1, .int .i64 (cntE L).2], h) := by
  have hL0 := hL
  obtain ⟨cv, rv, rfl, hC, hR⟩ := hL
  have o1 := hC.one
  have o2 := hR.one
  obtain ⟨G0, eG0⟩ : ∃ G0, G0 = h ++ [lacB L.T cv rv] := ⟨_, rfl⟩
  have x0 : Ext h G0 := by rw [eG0]; exact .app .refl
  have g0 : G0[h.length]? = some (lacB L.T cv rv) := by rw [eG0]; exact get_eq rfl
  have l0 : G0.length = h.length + 1 := by rw [eG0]; simp
  obtain ⟨w1, H1, e1, x1, a, x, rfl, oa, hA, hD⟩ := run_found (base := h.length) (h := G0) (by omega) (hL0.ext x0)
  have ox := hA.one
  have l1 := x1.len
  have hfew : (fndE L).1.length ≤ 823543 := by
    by_cases c : (fndE L).2 = 0
    · obtain ⟨c1, c2, c3⟩ := fndE_ok c
      rw [c3]; exact fnd_few (chkL_iff.1 c1).n.2
    · rw [fndE_no c]; simp
  have hln := hA.all.len (by omega)
  unfold lacB at eG0 g0
  refine callL_run func40 rfl rfl ?_
  by_cases c : (fndE L).2 = 7
  · have t0 : ((fndE L).2 = 7) = True := eq_true c
    have hsp := @Nat.succ_ne_zero; repeat' (first | simp (disch := first | exact dschL17 | fail) only [go_sem, ↓reduceIte, hsp, ← eG0, g0, e1, t0, hln] | refine WP_drw ?_ | refine cnd_intro (fun hsp => ?_) fun hsp => ?_)
    refine fII rfl ?_ (x0.trans x1)
    unfold cntE
    rw [if_pos c]
  · have t0 : ((fndE L).2 = 7) = False := eq_false c
    have hsp := @Nat.succ_ne_zero; repeat' (first | simp (disch := first | exact dschL17 | fail) only [go_sem, ↓reduceIte, hsp, ← eG0, g0, e1, t0, hln] | refine WP_drw ?_ | refine cnd_intro (fun hsp => ?_) fun hsp => ?_)
    refine fII rfl ?_ (x0.trans x1)
    unfold cntE
    rw [if_neg c]
end Go.AM
/-
  Contracts: where the first list lies of which something holds; the pile that a card goes on.
-/
namespace Go.AM
open Go.Proofs.Try
theorem dschL27 {p : Prop} (h : p := by first | exact Nat.ne_of_beq_eq_false rfl | assumption | (apply asOne; (first | exact One.int | exact One.bool | assumption | exact Ints.one (by assumption) | exact Rows.one (by assumption) | exact Own.one (by assumption) | exact One.lit ⟨rfl, rfl, rfl⟩)) | (apply asInts; (repeat first | assumption | exact ints_nil | apply Ints.app); done) | (apply asRows; (repeat first | assumption | exact Rows.nil | apply Rows.app); done) | (apply asScal; (first | apply allS1 | apply allS2 | apply allS3 | apply allS4) <;> (first | exact One.int | exact One.bool | assumption | exact Ints.one (by assumption) | exact Rows.one (by assumption) | exact Own.one (by assumption) | exact One.lit ⟨rfl, rfl, rfl⟩)) | exact litT rfl | exact litF rfl | omega | (simp only [List.length_append, List.length_cons, List.length_nil, List.length_set, List.length_reverse]; first | done | omega) | fail) : p := h
attribute [-go_sem] put_ne put_same
attribute [local go_sem ↓] put_if
theorem idx_Z {base b : Nat} {h : Heap} {v g : AVal} {ts : List (List Int)} (p : List Int → Bool) (hb : base ≤ h.length) (h1 : One g) (hA : AllI b h v ts) (hl : ts.length < 2 ^ 60)
    (hg : ∀ x t, t ∈ ts → OwnE encI 3 0 h x t → callL prog raw base g [x] h = some (.bool (p t), h)) :
    callL prog raw base (.fn 134 [] []) [v, g] h = some (.int .i64 (idx p ts), h) := by
  obtain ⟨vs, hO, hvl, hel⟩ := hA
  have hR := hO.rows (by omega)
  obtain ⟨w, H, e, k, z, rfl, hz⟩ := idxS_Z (base := base) (A := 0) (pr := fun _ => True) (J := fun n H => H = h ∧ ∀ x ∈ ts.take n, p x = false) (S := fun n H => H = h ∧ ∃ hn : n < ts.length, (∀ x ∈ ts.take n, p x = false) ∧ p ts[n] = true) hb h1 (fun n H q => q.1 ▸ hR)
    (fun n x H hx hH hJ => by
      obtain ⟨rfl, hJ⟩ := hJ
      have hn : n < ts.length := by have := (List.getElem?_eq_some_iff.1 hx).1; omega
      have ho := hel n x _ hx (List.getElem?_eq_getElem hn)
      rw [norm_one ho.one]
      exact ⟨_, _, hg x _ (List.getElem_mem _) ho, KeepP.refl, fun q => ⟨rfl, take_next p hn hJ q⟩, fun q => ⟨rfl, hn, hJ, q⟩⟩)
    ⟨rfl, fun x hx => by simp at hx⟩
  rw [e]
  rcases hz with ⟨rfl, rfl, q⟩ | ⟨n, rfl, hn, rfl, hn2, q1, q2⟩
  · rw [hvl] at q
    rw [idx_miss p q]
  · rw [idx_hit p hn2 q1 q2]
theorem run_pil1 {base a b : Nat} {h : Heap} {y ov : AVal} {o pile : List Int} {k : Int} (ga : h[a]? = some ⟨.cells [ov] 25 false false, 0⟩) (gb : h[b]? = some (nB k)) (hO : Ints h ov o) (hY : Ints h y pile) (h0 : pile ≠ []) (hin : ∀ x ∈ pile, 0 ≤ x ∧ x < (o.length : Int)) :
    callL prog raw base (.fn 135 [] [.ptr (some ⟨a, 0, 0⟩), .ptr (some ⟨b, 0, 0⟩)]) [y] h = some (.bool (decide (topV o pile > k)), h) := by
  have la := lt_of_get ga
  have lb := lt_of_get gb
  have oy := hY.one
  have oo := hO.one
  have hyl := hY.1.1
  have hpos : 0 < pile.length := by cases z : pile with | nil => exact absurd z h0 | cons a b => simp
  have hl := lenI hY
  have t3 : ((pile.length : Int) - 1) = ((pile.length - 1 : Nat) : Int) := by omega
  have a1 := adrI (i := ((pile.length - 1 : Nat) : Int)) (by omega) hY (by omega)
  rw [Int.toNat_natCast] at a1
  have l1 := loadI hY (i := pile.length - 1) (by omega)
  obtain ⟨p, ep⟩ : ∃ p, p = pile.getD (pile.length - 1) 0 := ⟨_, rfl⟩
  rw [← ep] at l1
  have hp := hin p (by rw [ep]; exact getD_mem (by omega))
  have a2 := adrI (i := p) (by omega) hO (by omega)
  have l2 := loadI hO (i := p.toNat) (by omega)
  have elast : pile.getLastD 0 = p := by
    rw [ep, List.getLastD_eq_getLast?, List.getLast?_eq_getElem?, List.getD_eq_getElem?_getD]
  have htop : topV o pile = o.getD p.toNat 0 := by
    unfold topV
    rw [elast]
  unfold nB at gb
  rw [htop]
  refine callL_run func135 rfl rfl ?_
  have hsp := @Nat.succ_ne_zero; repeat' (first | simp (disch := first | exact dschL27 | fail) only [go_sem, ↓reduceIte, hsp, ga, gb, hl, t3, a1, l1, a2, l2] | refine WP_drw ?_ | refine cnd_intro (fun hsp => ?_) fun hsp => ?_)
  exact fB rfl
end Go.AM
/-
  (The heap behind a spool that was turned, own rows: G1.)
-/
/-
  Contracts: short lists of integers are sorted in place (slices.Sort, at most 12 elements).
-/
namespace Go.AM
open Go.Proofs.Try
attribute [-go_sem] put_ne put_same
attribute [local go_sem ↓] put_if
theorem ev_str {fr : AFrame} {s : ByteArray} : ev fr (.const (.string s)) = .str s := rfl
/-! ### The length in bits -/
def lenT (n : Nat) : Nat := [0, 1, 2, 2, 3, 3, 3, 3, 4, 4, 4, 4, 4].getD n 0
/-! ### Insertion -/
/-- Sorted up to i, but for what comes before j. -/
def Srt (m : List Int) (i j : Nat) : Prop := ∀ a b, a < b → b ≤ i → b ≠ j → m.getD a 0 ≤ m.getD b 0
def swp (m : List Int) (j : Nat) : List Int := (m.set (j + 1) (m.getD j 0)).set j (m.getD (j + 1) 0)
theorem getD_setI {l : List Int} {i j : Nat} {b : Int} (hi : i < l.length) : (l.set i b).getD j 0 = if i = j then b else l.getD j 0 := by
  rw [List.getD_eq_getElem?_getD, List.getElem?_set, List.getD_eq_getElem?_getD]
  by_cases e : i = j
  · subst e; simp [hi]
  · simp [e]
abbrev srB (m : List Int) (e : TypeId) (ver : Nat) : ABlk := ⟨.cells (ints m) e true false, ver⟩
/-- A list of integers, sorted. -/
def srtL (l : List Int) : List Int := l.mergeSort fun a b => decide (a ≤ b)
end Go.AM
/-
  Contracts: numbers in some order.
-/
namespace Go.AM
open Go.Proofs.Try
theorem dschK9 {p : Prop} (h : p := by first | exact Nat.ne_of_beq_eq_false rfl | assumption | (apply asOne; (first | exact One.int | exact One.bool | assumption | exact Ints.one (by assumption) | exact Rows.one (by assumption) | exact Own.one (by assumption) | exact One.lit ⟨rfl, rfl, rfl⟩)) | (apply asSp; (repeat first | assumption | apply SpAt.set | (refine SpAt.new ?_ (by (first | rfl | (simp only [List.length_append, List.length_cons, List.length_nil, List.length_set]; done) | (simp only [List.length_append, List.length_cons, List.length_nil, List.length_set]; omega)))) | apply SpAt.app | apply Bytes.app); done) | (apply asBytes; (repeat first | assumption | apply Bytes.app); done) | (apply asInts; (repeat first | assumption | exact ints_nil | apply Ints.app); done) | (apply asRows; (repeat first | assumption | exact Rows.nil | apply Rows.app); done) | (apply asScal; (first | apply allS1 | apply allS2 | apply allS3 | apply allS4) <;> (first | exact One.int | exact One.bool | assumption | exact Ints.one (by assumption) | exact Rows.one (by assumption) | exact Own.one (by assumption) | exact One.lit ⟨rfl, rfl, rfl⟩)) | exact litT rfl | exact litF rfl | omega | (simp only [List.length_append, List.length_cons, List.length_nil, List.length_set, List.length_reverse]; first | done | omega) | fail) : p := h
attribute [-go_sem] put_ne put_same
attribute [local go_sem ↓] put_if
theorem set_perm {a : List Int} {j : Nat} {x : Int} (hj : j < a.length) : (a.set j x ++ [a.getD j 0]).Perm (a ++ [x]) := by
  have e1 : a = a.take j ++ a.getD j 0 :: a.drop (j + 1) := by
    conv => lhs; rw [← List.take_append_drop j a]
    rw [List.drop_eq_getElem_cons hj, List.getD_eq_getElem?_getD, List.getElem?_eq_getElem hj]; rfl
  have hl : (a.take j).length = j := by rw [List.length_take]; omega
  have e2 : a.set j x = a.take j ++ x :: a.drop (j + 1) := by
    generalize a.getD j 0 = y at e1
    conv => lhs; rw [e1]
    rw [List.set_append_right _ _ (by omega), hl, Nat.sub_self]
    rfl
  rw [e2]
  conv => rhs; rw [e1]
  generalize a.take j = p
  generalize a.drop (j + 1) = q
  generalize a.getD j 0 = y
  simp only [List.append_assoc, List.cons_append]
  refine List.Perm.append_left p ?_
  refine (List.perm_append_comm (l₁ := x :: q) (l₂ := [y])).trans ?_
  exact (List.Perm.cons y (List.perm_append_comm (l₁ := [x]) (l₂ := q)))
theorem rep_zero : ∀ n, repCells [AVal.int .i64 0] n = ints (List.replicate n 0)
  | 0 => rfl
  | n + 1 => by rw [repCells, rep_zero n]; rfl
theorem ord_step {a r : List Int} {j k n : Nat} (hk : a.length = k) (hj : j ≤ k) (hp : a.Perm (upto k)) : ∃ a', a'.length = k + 1 ∧ a'.Perm (upto (k + 1)) ∧ ((a ++ List.replicate (n + 1) 0).set k ((a ++ List.replicate (n + 1) 0).getD j 0)).set j (k : Int) = a' ++ List.replicate n 0 := by
  rw [List.replicate_succ, upto_succ]
  by_cases e : j = k
  · subst e
    refine ⟨a ++ [(j : Int)], by simp [hk], hp.append_right _, ?_⟩
    rw [List.set_set, List.set_append_right _ _ (by omega), show j - a.length = 0 by omega]
    simp
  · have hja : j < a.length := by omega
    refine ⟨a.set j k ++ [a.getD j 0], by simp [hk], (set_perm hja).trans (hp.append_right _), ?_⟩
    rw [List.set_append_right _ _ (by omega), show k - a.length = 0 by omega, List.set_cons_zero, List.set_append_left _ _ hja, List.append_assoc]
    rw [List.getD_eq_getElem?_getD, List.getElem?_append_left hja, ← List.getD_eq_getElem?_getD]
    rfl
set_option maxHeartbeats 1000000 in
theorem run_order {base id k0 n : Nat} {h : Heap} {v : AVal} {silk : List Int} (hb : base ≤ h.length) (hS : SpAt h id v silk k0) (hk : k0 + n ≤ 900000) (hn : n ≤ 1000) :
    Ret prog raw base (.fn 19 [] []) [.ptr (some ⟨id, 0, 0⟩), .int .i64 (n : Int)] h (fun w H => SpE h id v silk (k0 + n) H ∧ ∃ l, OwnE encI 3 h.length H w l ∧ l.Perm (upto n)) := by
  have hid := lt_of_get hS.1
  refine ret_raw func19 rfl (by kernel_rfl) ?_
  have hm : max 0 (n : Int) = (n : Int) := by omega
  cases n with
  | zero =>
    have hlt : ((0 : Int) < 0) = False := eq_false (by omega)
    have mk : makeSliceA prog h 25 (.int .i64 0) (.int .i64 0) = some (.emp, h) := by simp [makeSliceA, Fc.el25]
    have le : lenOpA prog h 25 .emp = some (.int .i64 0) := by simp [lenOpA, Fc.el25, lenA]
    have hsp := @Nat.succ_ne_zero; repeat' (first | simp (disch := first | exact dschK9 | fail) only [go_sem, ↓reduceIte, hsp, Int.natCast_zero, show max (0 : Int) 0 = 0 from rfl, mk, le] | refine WP_drw ?_ | refine cnd_intro (fun hsp => ?_) fun hsp => ?_)
    rw [WP_loop1]
    have hsp := @Nat.succ_ne_zero; repeat' (first | simp (disch := first | exact dschK9 | fail) only [go_sem, ↓reduceIte, hsp, hlt] | refine WP_drw ?_ | refine cnd_intro (fun hsp => ?_) fun hsp => ?_)
    exact ⟨SpE.refl hS, [], .inr ⟨rfl, rfl⟩, .refl _⟩
  | succ n =>
    have mk : makeSliceA prog h 25 (.int .i64 ((n + 1 : Nat) : Int)) (.int .i64 ((n + 1 : Nat) : Int)) = some (.slice (some ⟨h.length, 0, 0⟩) (n + 1) (n + 1), h ++ [srB (List.replicate (n + 1) 0) 3 0]) := by
      simp only [makeSliceA, Fc.el25]
      rw [if_pos ⟨by omega, by omega, by omega⟩, if_neg (by omega), Int.toNat_natCast, rep_zero]
    have le : ∀ {H : Heap}, lenOpA prog H 25 (.slice (some ⟨h.length, 0, 0⟩) (n + 1) (n + 1)) = some (.int .i64 ((n + 1 : Nat) : Int)) := fun {H} => by simp [lenOpA, Fc.el25, lenA]
    have hsp := @Nat.succ_ne_zero; repeat' (first | simp (disch := first | exact dschK9 | fail) only [go_sem, ↓reduceIte, hsp, hm, mk, le] | refine WP_drw ?_ | refine cnd_intro (fun hsp => ?_) fun hsp => ?_)
    refine WP_count [(6, 7), (13, 30)] 0 (n + 1) (Nat.zero_le _) (fun _ i fr h' => fr 13 = .int .i64 (i : Int) ∧ ∃ a : List Int, a.length = i ∧ a.Perm (upto i) ∧ h' = h.set id (spB v silk (k0 + i)) ++ [srB (a ++ List.replicate (n + 1 - i) 0) 3 0]) ?_ ?_ ?_
    · refine ⟨by (simp (disch := first | exact dschK9 | fail) only [go_sem, ↓reduceIte, Int.natCast_zero]; first | done | rfl), [], rfl, .refl _, ?_⟩
      have e := set_id hS.1
      show _ = h.set id (spB v silk k0) ++ _
      rw [e]; rfl
    · rintro i fr H hi0 hi hA ⟨p13, a, hl, hp, eH⟩
      have p0 := hA 0 rfl
      have p4 := hA 4 rfl
      have p5 := hA 5 rfl
      have p12 := hA 12 rfl
      try simp (disch := first | exact dschK9 | fail) only [go_sem, ↓reduceIte] at p0 p4 p5 p12
      
      have hlt : ((i : Int) < ((n + 1 : Nat) : Int)) = True := eq_true (by omega)
      have hSp : SpAt H id v silk (k0 + i) := by rw [eH]; exact hS.set.app
      have up1 := up_bd (silk := silk) (k := k0 + i) (n := (i : Int)) (by omega)
      obtain ⟨j, ej⟩ := Int.eq_ofNat_of_zero_le up1.1
      obtain ⟨q, eq⟩ : ∃ q, n + 1 - i = q + 1 := ⟨n - i, by omega⟩
      obtain ⟨m, em⟩ : ∃ m, m = a ++ List.replicate (q + 1) (0 : Int) := ⟨_, rfl⟩
      have hml : m.length = n + 1 := by rw [em]; simp; omega
      rw [eq, ← em] at eH
      obtain ⟨G, eG⟩ : ∃ G, G = H.set id (spB v silk (k0 + i + 1)) := ⟨_, rfl⟩
      have eG2 : G = h.set id (spB v silk (k0 + i + 1)) ++ [srB m 3 0] := by
        rw [eG, eH, List.set_append_left _ _ (by simpa using hid), List.set_set]
      have gG : G[h.length]? = some ⟨.cells (ints m) 3 true false, 0⟩ := by rw [eG2]; exact get_eq (by simp)
      have ru := fun base => run_upto (base := base) (n := (i : Int)) hSp (by omega) (by omega)
      rw [← eG, ej] at ru
      have adr : ∀ x : Nat, x < n + 1 → indexAddrA prog 25 (.slice (some ⟨h.length, 0, 0⟩) (n + 1) (n + 1)) (.int .i64 (x : Int)) = some (.ptr (some ⟨h.length, 0, x⟩)) := fun x hx => by
        rw [adr_sl Fc.el25 Fc.ar25 (by omega) (by omega), Int.toNat_natCast, Nat.mul_one, Nat.zero_add]
      have a1 := adr j (by omega)
      have a2 := adr i (by omega)
      have d1 : loadP prog G 3 (.ptr (some ⟨h.length, 0, j⟩)) = some (.int .i64 (m.getD j 0)) := by
        rw [load_eq, Fc.ty3, gG]; exact ldB_ints (by omega)
      have st1 : ∀ {K : ABlk → Heap}, stQ base h.length (some ⟨.cells (ints m) 3 true false, 0⟩) 0 i [.int .i64 (m.getD j 0)] K = some (K ⟨.cells (ints (m.set i (m.getD j 0))) 3 true false, 0⟩) := fun {K} => stQ_ints (by omega)
      have st2 : ∀ {K : ABlk → Heap}, stQ base h.length (some ⟨.cells (ints (m.set i (m.getD j 0))) 3 true false, 0⟩) 0 j [.int .i64 (i : Int)] K = some (K ⟨.cells (ints ((m.set i (m.getD j 0)).set j (i : Int))) 3 true false, 0⟩) := fun {K} => stQ_ints (by simp; omega)
      obtain ⟨G3, eG3⟩ : ∃ G3, G3 = G.set h.length ⟨.cells (ints (m.set i (m.getD j 0))) 3 true false, 0⟩ := ⟨_, rfl⟩
      have g3 : G3[h.length]? = some ⟨.cells (ints (m.set i (m.getD j 0))) 3 true false, 0⟩ := by rw [eG3, List.getElem?_set_self (lt_of_get gG)]
      obtain ⟨a', h1, h2, h3⟩ := ord_step (r := []) (n := q) hl (show j ≤ i by omega) hp
      rw [← em] at h3
      have hsp := @Nat.succ_ne_zero; repeat' (first | simp (disch := first | exact dschK9 | fail) only [go_sem, ↓reduceIte, hsp, p0, p4, p5, p12, p13, hlt, ru, a1, a2, d1, gG, st1, ← eG3, g3, st2] | refine WP_drw ?_ | refine cnd_intro (fun hsp => ?_) fun hsp => ?_)
      refine ⟨by (repeat first | exact Agree.refl | assumption | refine Agree.put rfl ?_ | refine Agree.put0 ?_ | refine Agree.sub rfl (by assumption) ?_), by omega, a', h1, h2, ?_⟩
      rw [h3, eG3, eG2, List.set_set, List.set_append_right _ _ (by simp), List.length_set, Nat.sub_self, show n + 1 - (i + 1) = q by omega]
      rfl
    · rintro fr H hA ⟨p13, a, hl, hp, eH⟩
      have p0 := hA 0 rfl
      have p4 := hA 4 rfl
      have p5 := hA 5 rfl
      have p12 := hA 12 rfl
      try simp (disch := first | exact dschK9 | fail) only [go_sem, ↓reduceIte] at p0 p4 p5 p12
      
      have hlt : (((n + 1 : Nat) : Int) < ((n + 1 : Nat) : Int)) = False := eq_false (by omega)
      have hsp := @Nat.succ_ne_zero; repeat' (first | simp (disch := first | exact dschK9 | fail) only [go_sem, ↓reduceIte, hsp, p0, p4, p5, p12, p13, hlt] | refine WP_drw ?_ | refine cnd_intro (fun hsp => ?_) fun hsp => ?_)
      rw [Nat.sub_self, List.replicate_zero, List.append_nil] at eH
      refine ⟨by rw [eH]; exact Ext.app .refl, a, .inl (.inr ⟨h.length, 0, by rw [hl], by rw [eH, show srB a 3 0 = rowE encI 3 a 0 by unfold rowE; rw [flat_encI]]; exact get_eq (by simp), Nat.le_refl _, by omega⟩), hp⟩
end Go.AM
/-
  Elements of one's own rows that are stored anew.
-/
namespace Go.AM
theorem splice_mid : ∀ (vs pre c d : List AVal), c.length = vs.length → splice (pre ++ c ++ d) pre.length vs = pre ++ vs ++ d
  | [], pre, c, d, h => by rw [List.eq_nil_of_length_eq_zero h]; rfl
  | v :: vs, pre, [], d, h => by simp at h
  | v :: vs, pre, x :: c, d, h => by
    have := splice_mid vs (pre ++ [v]) c d (by simpa using h)
    rw [splice]
    rw [show (pre ++ x :: c ++ d).set pre.length v = pre ++ [v] ++ c ++ d by simp]
    rw [show pre.length + 1 = (pre ++ [v]).length by simp, this]
    simp
theorem stQ_rowE {α : Type} {E : Enc α} {e : TypeId} {l : List α} {i base id ver : Nat} {x : α} {K : ABlk → Heap} (hi : i < l.length) (hs : (E.cells x).all AVal.scalar = true) (hb : base ≤ id) :
    stQ base id (some (rowE E e l ver)) ver (i * E.z) (E.cells x) K = some (K (rowE E e (l.set i x) ver)) := by
  have hle : i * E.z + E.z ≤ l.length * E.z := by rw [← Nat.succ_mul]; exact Nat.mul_le_mul_right _ hi
  have e1 : flat E l = (flat E l).take (i * E.z) ++ ((flat E l).drop (i * E.z)).take E.z ++ (flat E l).drop ((i + 1) * E.z) := by
    rw [List.append_assoc, Nat.succ_mul, ← List.drop_drop, List.take_append_drop, List.take_append_drop]
  have hl : ((flat E l).take (i * E.z)).length = i * E.z := by rw [List.length_take, flat_len]; omega
  have key : splice (flat E l) (i * E.z) (E.cells x) = flat E (l.set i x) := by
    rw [flat_set E hi]
    have := splice_mid (E.cells x) ((flat E l).take (i * E.z)) (((flat E l).drop (i * E.z)).take E.z) ((flat E l).drop ((i + 1) * E.z)) (by rw [E.len, List.length_take, List.length_drop, flat_len]; omega)
    rwa [hl, ← e1] at this
  unfold rowE
  rw [stQ_own hb (by rw [E.len, flat_len]; exact hle) hs, key]
/-- One row changes, slices of other kinds stay. -/
theorem Own.setRow {α β : Type} {E : Enc α} {E2 : Enc β} {e e2 : TypeId} {b a ver : Nat} {h : Heap} {v : AVal} {l : List α} {m : List β} {k : ABlk} (x : Own E2 e2 b h v m) (hg : h[a]? = some (rowE E e l ver)) (hne : e2 ≠ e) : Own E2 e2 b (h.set a k) v m := by
  rcases x with q | ⟨id, u, e1, g, e3, e4⟩
  · exact .inl q
  · have hia : id ≠ a := by
      rintro rfl
      rw [g] at hg
      simp only [rowE, Option.some.injEq, ABlk.mk.injEq, ABody.cells.injEq] at hg
      exact hne hg.1.2.1
    exact .inr ⟨id, u, e1, by rw [List.getElem?_set_ne (fun q => hia q.symm)]; exact g, e3, e4⟩
end Go.AM
/-
  Contracts: rising lists.
-/
namespace Go.AM
open Go.Proofs.Try
theorem dschL3 {p : Prop} (h : p := by first | exact Nat.ne_of_beq_eq_false rfl | assumption | (apply asOne; (first | exact One.int | exact One.bool | assumption | exact Ints.one (by assumption) | exact Rows.one (by assumption) | exact Own.one (by assumption) | exact One.lit ⟨rfl, rfl, rfl⟩)) | (apply asInts; (repeat first | assumption | exact ints_nil | apply Ints.app); done) | (apply asRows; (repeat first | assumption | exact Rows.nil | apply Rows.app); done) | (apply asScal; (first | apply allS1 | apply allS2 | apply allS3 | apply allS4) <;> (first | exact One.int | exact One.bool | assumption | exact Ints.one (by assumption) | exact Rows.one (by assumption) | exact Own.one (by assumption) | exact One.lit ⟨rfl, rfl, rfl⟩)) | exact litT rfl | exact litF rfl | omega | (simp only [List.length_append, List.length_cons, List.length_nil, List.length_set, List.length_reverse]; first | done | omega) | fail) : p := h
attribute [-go_sem] put_ne put_same
attribute [local go_sem ↓] put_if
/-! ### Plain -/
theorem bstI_le {o out : List Int} {p : Nat} {B : Int} (hB : 0 ≤ B) (h : ∀ q, out.getD q 0 ≤ B) : ∀ {j}, bstI o out p j ≤ B
  | 0 => by simpa [bstI] using hB
  | j + 1 => by
    have := bstI_le (o := o) (p := p) hB h (j := j)
    have h2 := h (p + 1 + j)
    rw [bstI]; split <;> omega
theorem getD_set' {l : List Int} {i j : Nat} {b : Int} (hi : i < l.length) : (l.set i b).getD j 0 = if i = j then b else l.getD j 0 := getD_setI hi
theorem rsN_bd {o : List Int} : ∀ {k}, k ≤ o.length → ∀ q, 0 ≤ (rsN o k).getD q 0 ∧ (rsN o k).getD q 0 ≤ (k : Int)
  | 0, _, q => by
    have : (rsN o 0).getD q 0 = 0 := by
      rw [rsN]
      by_cases h : q < o.length
      · rw [List.getD_eq_getElem?_getD, List.getElem?_replicate, if_pos h]; rfl
      · rw [List.getD_eq_getElem?_getD, List.getElem?_replicate, if_neg h]; rfl
    omega
  | k + 1, hk, q => by
    have ih := rsN_bd (o := o) (k := k) (by omega)
    rw [rsN, getD_set' (by rw [rsN_len]; omega)]
    split
    · have h1 := bstI_le (o := o) (out := rsN o k) (p := o.length - 1 - k) (B := (k : Int)) (by omega) (fun q => (ih q).2) (j := k)
      have h2 := bstI_nn (o := o) (out := rsN o k) (p := o.length - 1 - k) (j := k)
      omega
    · have := ih q
      omega
theorem rsN_zero {o : List Int} : ∀ {k p}, k ≤ o.length → p < o.length - k → (rsN o k).getD p 0 = 0
  | 0, p, _, hp => by rw [rsN, List.getD_eq_getElem?_getD, List.getElem?_replicate, if_pos (by omega)]; rfl
  | k + 1, p, hk, hp => by
    rw [rsN, getD_set' (by rw [rsN_len]; omega), if_neg (by omega)]
    exact rsN_zero (by omega) (by omega)
theorem set_same {l : List Int} {i : Nat} (hi : i < l.length) : l.set i (l.getD i 0) = l := by
  rw [getD_at hi]; exact List.set_getElem_self hi
theorem bs2 {lit : Bool} {H : Heap} {a b : Int} (hl : lit = false) : bsA prog lit H 25 2 [(0, .int .i64 a), (1, .int .i64 b)] = some (.slice (some ⟨H.length, 0, 0⟩) 2 2, H ++ [rowB [a, b] 0]) := by
  subst hl; simp [bsA, rowOf, Fc.el25, fillA, repCells, AVal.isN, AVal.cells, splice, rowB, ints]
/-! ### How long the rising lists are -/
set_option maxHeartbeats 2000000 in
theorem run_rises {base : Nat} {h : Heap} {v : AVal} {o : List Int} (hb : base ≤ h.length) (hI : Ints h v o) (h0 : 0 < o.length) (hl : o.length ≤ 1000) :
    Ret prog raw base (.fn 152 [] []) [v] h (fun w H => Ext h H ∧ Own encI 3 h.length H w (rsA o)) := by
  have hv1 := hI.one
  have hlen := lenI hI
  obtain ⟨n, en⟩ : ∃ n, n = o.length := ⟨_, rfl⟩
  have mk : makeSliceA prog h 25 (.int .i64 (o.length : Int)) (.int .i64 (o.length : Int)) = some (.slice (some ⟨h.length, 0, 0⟩) o.length o.length, h ++ [srB (List.replicate o.length 0) 3 0]) := by
    rw [make_full Fc.el25 h0 (by omega), rep_zero]
  have hno := lenI (hI.ext (.app (t := [srB (List.replicate o.length 0) 3 0]) .refl))
  refine ret_raw func152 rfl (by kernel_rfl) ?_
  have hsp := @Nat.succ_ne_zero; repeat' (first | simp (disch := first | exact dschL3 | fail) only [go_sem, ↓reduceIte, hsp, hlen, mk, hno] | refine WP_drw ?_ | refine cnd_intro (fun hsp => ?_) fun hsp => ?_)
  refine WP_count [(4, 51)] 0 o.length (Nat.zero_le _) (fun _ i fr H => fr 4 = .int .i64 ((o.length : Int) - 1 - (i : Int)) ∧ Ext h H ∧ H[h.length]? = some (srB (rsN o i) 3 0)) ?_ ?_ ?_
  · refine ⟨by rw [show (o.length : Int) - 1 - ((0 : Nat) : Int) = (o.length : Int) - 1 by omega]; (simp (disch := first | exact dschL3 | fail) only [go_sem, ↓reduceIte, Int.natCast_zero]; first | done | rfl), .app .refl, get_eq rfl⟩
  · rintro i fr H hi0 hi hA ⟨r4, xH, gH⟩
    have p0 := hA 0 rfl
    have p2 := hA 2 rfl
    have p3 := hA 3 rfl
    try simp (disch := first | exact dschL3 | fail) only [go_sem, ↓reduceIte] at p0 p2 p3
    obtain ⟨p, ep⟩ : ∃ p, p = o.length - 1 - i := ⟨_, rfl⟩
    rw [show (o.length : Int) - 1 - (i : Int) = (p : Int) by omega] at r4
    have hge : ((p : Int) ≥ 0) = True := eq_true (by omega)
    have hsp := @Nat.succ_ne_zero; repeat' (first | simp (disch := first | exact dschL3 | fail) only [go_sem, ↓reduceIte, hsp, r4, p0, p2, p3, hge] | refine WP_drw ?_ | refine cnd_intro (fun hsp => ?_) fun hsp => ?_)
    refine WP_count [(5, 45)] 0 i (Nat.zero_le _) (fun _ j fr K => fr 5 = .int .i64 ((p + 1 + j : Nat) : Int) ∧ Ext h K ∧ K[h.length]? = some (srB ((rsN o i).set p (bstI o (rsN o i) p j)) 3 0)) ?_ ?_ ?_
    · refine ⟨by (simp (disch := first | exact dschL3 | fail) only [go_sem, ↓reduceIte, Int.natCast_zero]; first | done | rfl), xH, ?_⟩
      have := set_same (l := rsN o i) (i := p) (by rw [rsN_len]; omega)
      rw [rsN_zero (by omega) (by omega)] at this
      rw [bstI, this]; exact gH
    · rintro j fr2 K hj0 hj hA2 ⟨r5, xK, gK⟩
      have d0 := hA2 0 rfl
      have d2 := hA2 2 rfl
      have d3 := hA2 3 rfl
      have d4 := hA2 4 rfl
      try simp (disch := first | exact dschL3 | fail) only [go_sem, ↓reduceIte, p0, p2, p3] at d0 d2 d3 d4
      have d4 := hA2 4 rfl
      simp (disch := first | exact dschL3 | fail) only [go_sem, ↓reduceIte, r4] at d4
      obtain ⟨q, eq⟩ : ∃ q, q = p + 1 + j := ⟨_, rfl⟩
      rw [← eq] at r5
      have hqn : q < o.length := by omega
      have hIK := hI.ext xK
      have hlK := lenI hIK
      have hKl := xK.len
      have hgK := lt_of_get gK
      have hlt : ((q : Int) < (o.length : Int)) = True := eq_true (by omega)
      have lq := loadI hIK hqn
      have aq := adrI (i := (q : Int)) (by omega) hIK (by omega)
      have lp := loadI hIK (show p < o.length by omega)
      have ap := adrI (i := (p : Int)) (by omega) hIK (by omega)
      rw [Int.toNat_natCast] at aq ap
      obtain ⟨b, eb⟩ : ∃ b, b = bstI o (rsN o i) p j := ⟨_, rfl⟩
      rw [← eb] at gK
      obtain ⟨m, em⟩ : ∃ m, m = (rsN o i).set p b := ⟨_, rfl⟩
      rw [← em] at gK
      have hml : m.length = o.length := by rw [em, List.length_set, rsN_len]
      have mp : m.getD p 0 = b := by rw [em, getD_set' (by rw [rsN_len]; omega), if_pos rfl]
      obtain ⟨x, ex⟩ : ∃ x, x = (rsN o i).getD q 0 := ⟨_, rfl⟩
      have mq : m.getD q 0 = x := by rw [em, getD_set' (by rw [rsN_len]; omega), if_neg (by omega), ex]
      have hbb : 0 ≤ b ∧ b ≤ 1000 := by
        have h1 := bstI_le (o := o) (out := rsN o i) (p := p) (B := (i : Int)) (by omega) (fun q => (rsN_bd (by omega) q).2) (j := j)
        have h2 := bstI_nn (o := o) (out := rsN o i) (p := p) (j := j)
        omega
      have hxb := rsN_bd (o := o) (k := i) (by omega) q
      have nxt : bstI o (rsN o i) p (j + 1) = if o.getD q 0 > o.getD p 0 then max b x else b := by rw [bstI, ← eq, ← eb, ← ex]
      have hii : ((q : Int) + 1) = ((p + 1 + (j + 1) : Nat) : Int) := by omega
      have adr : ∀ y : Nat, y < o.length → indexAddrA prog 25 (.slice (some ⟨h.length, 0, 0⟩) o.length o.length) (.int .i64 (y : Int)) = some (.ptr (some ⟨h.length, 0, y⟩)) := fun y hy => by
        rw [adr_sl Fc.el25 Fc.ar25 (by omega) (by omega), Int.toNat_natCast, Nat.mul_one, Nat.zero_add]
      by_cases c : o.getD q 0 > o.getD p 0
      · have t1 : (o.getD q 0 > o.getD p 0) = True := eq_true c
        rw [if_pos c] at nxt
        have a1 := adr p (by omega)
        have a2 := adr q hqn
        have d1 : loadP prog K 3 (.ptr (some ⟨h.length, 0, p⟩)) = some (.int .i64 b) := by
          rw [load_eq, Fc.ty3, gK, ← mp]; exact ldB_ints (by omega)
        have d2 : loadP prog K 3 (.ptr (some ⟨h.length, 0, q⟩)) = some (.int .i64 x) := by
          rw [load_eq, Fc.ty3, gK, ← mq]; exact ldB_ints (by omega)
        obtain ⟨G, eG⟩ : ∃ G, G = K ++ [rowB [b, x] 0] := ⟨_, rfl⟩
        have xG : Ext K G := by rw [eG]; exact .app .refl
        have gG := xG.get gK
        have hG := xG.len
        have hgr := fun base => run_greatest (base := base) (h := G) (v := .slice (some ⟨K.length, 0, 0⟩) 2 2) (l := [b, x]) (by rw [eG]; exact slice_row rfl rfl ⟨by simp, fun y hy => by simp at hy; omega⟩)
        rw [show grt [b, x] = max b x by unfold grt; simp only [List.foldl_cons, List.foldl_nil]; omega] at hgr
        have st1 : ∀ {F : ABlk → Heap}, stQ base h.length (some (srB m 3 0)) 0 p [.int .i64 (max b x)] F = some (F (srB (m.set p (max b x)) 3 0)) := fun {F} => stQ_ints (by omega)
        have hsp := @Nat.succ_ne_zero; repeat' (first | simp (disch := first | exact dschL3 | fail) only [go_sem, ↓reduceIte, hsp, r5, d4, d0, d2, d3, d4, p0, p2, p3, hlt, hlK, lq, aq, lp, ap, t1, a1, a2, d1, d2, bs2, ← eG, hgr, gG, st1] | refine WP_drw ?_ | refine cnd_intro (fun hsp => ?_) fun hsp => ?_)
        refine ⟨by (repeat first | exact Agree.refl | assumption | refine Agree.put rfl ?_ | refine Agree.put0 ?_ | refine Agree.sub rfl (by assumption) ?_), by omega, (xK.trans xG).set (Nat.le_refl _), ?_⟩
        rw [nxt, em, List.set_set]
      · have t1 : (o.getD q 0 > o.getD p 0) = False := eq_false c
        rw [if_neg c] at nxt
        have hsp := @Nat.succ_ne_zero; repeat' (first | simp (disch := first | exact dschL3 | fail) only [go_sem, ↓reduceIte, hsp, r5, d4, d0, d2, d3, d4, p0, p2, p3, hlt, hlK, lq, aq, lp, ap, t1] | refine WP_drw ?_ | refine cnd_intro (fun hsp => ?_) fun hsp => ?_)
        refine ⟨by (repeat first | exact Agree.refl | assumption | refine Agree.put rfl ?_ | refine Agree.put0 ?_ | refine Agree.sub rfl (by assumption) ?_), by omega, xK, ?_⟩
        rw [nxt, ← em]; exact gK
    · rintro fr2 K hA2 ⟨r5, xK, gK⟩
      have d0 := hA2 0 rfl
      have d2 := hA2 2 rfl
      have d3 := hA2 3 rfl
      have d4 := hA2 4 rfl
      try simp (disch := first | exact dschL3 | fail) only [go_sem, ↓reduceIte, p0, p2, p3] at d0 d2 d3 d4
      have d4 := hA2 4 rfl
      simp (disch := first | exact dschL3 | fail) only [go_sem, ↓reduceIte, r4] at d4
      have hIK := hI.ext xK
      have hlK := lenI hIK
      have hKl := xK.len
      have hgK := lt_of_get gK
      have hlt : (((p + 1 + i : Nat) : Int) < (o.length : Int)) = False := eq_false (by omega)
      obtain ⟨b, eb⟩ : ∃ b, b = bstI o (rsN o i) p i := ⟨_, rfl⟩
      rw [← eb] at gK
      obtain ⟨m, em⟩ : ∃ m, m = (rsN o i).set p b := ⟨_, rfl⟩
      rw [← em] at gK
      have hml : m.length = o.length := by rw [em, List.length_set, rsN_len]
      have mp : m.getD p 0 = b := by rw [em, getD_set' (by rw [rsN_len]; omega), if_pos rfl]
      have hbb : 0 ≤ b ∧ b ≤ 1000 := by
        have h1 := bstI_le (o := o) (out := rsN o i) (p := p) (B := (i : Int)) (by omega) (fun q => (rsN_bd (by omega) q).2) (j := i)
        have h2 := bstI_nn (o := o) (out := rsN o i) (p := p) (j := i)
        omega
      have a1 : indexAddrA prog 25 (.slice (some ⟨h.length, 0, 0⟩) o.length o.length) (.int .i64 (p : Int)) = some (.ptr (some ⟨h.length, 0, p⟩)) := by
        rw [adr_sl Fc.el25 Fc.ar25 (by omega) (by omega), Int.toNat_natCast, Nat.mul_one, Nat.zero_add]
      have d1 : loadP prog K 3 (.ptr (some ⟨h.length, 0, p⟩)) = some (.int .i64 b) := by
        rw [load_eq, Fc.ty3, gK, ← mp]; exact ldB_ints (by omega)
      have st1 : ∀ {F : ABlk → Heap}, stQ base h.length (some (srB m 3 0)) 0 p [.int .i64 (b + 1)] F = some (F (srB (m.set p (b + 1)) 3 0)) := fun {F} => stQ_ints (by omega)
      have hii : ((p : Int) - 1) = (o.length : Int) - 1 - ((i + 1 : Nat) : Int) := by omega
      have hsp := @Nat.succ_ne_zero; repeat' (first | simp (disch := first | exact dschL3 | fail) only [go_sem, ↓reduceIte, hsp, r5, d4, d0, d2, d3, d4, p0, p2, p3, hlt, hlK, a1, d1, gK, st1] | refine WP_drw ?_ | refine cnd_intro (fun hsp => ?_) fun hsp => ?_)
      refine ⟨by (repeat first | exact Agree.refl | assumption | refine Agree.put rfl ?_ | refine Agree.put0 ?_ | refine Agree.sub rfl (by assumption) ?_), by omega, xK.set (Nat.le_refl _), ?_⟩
      rw [em, List.set_set, rsN, ← ep, ← eb]
  · rintro fr H hA ⟨r4, xH, gH⟩
    have p0 := hA 0 rfl
    have p2 := hA 2 rfl
    have p3 := hA 3 rfl
    try simp (disch := first | exact dschL3 | fail) only [go_sem, ↓reduceIte] at p0 p2 p3
    rw [show (o.length : Int) - 1 - (o.length : Int) = -1 by omega] at r4
    have hge : ((-1 : Int) ≥ 0) = False := eq_false (by omega)
    have hsp := @Nat.succ_ne_zero; repeat' (first | simp (disch := first | exact dschL3 | fail) only [go_sem, ↓reduceIte, hsp, r4, p0, p2, p3, hge] | refine WP_drw ?_ | refine cnd_intro (fun hsp => ?_) fun hsp => ?_)
    refine ⟨xH, .inr ⟨h.length, 0, by rw [rsA, rsN_len], ?_, Nat.le_refl _, by rw [rsA, rsN_len]; omega⟩⟩
    rw [gH, rowE, flat_encI]; rfl
end Go.AM
