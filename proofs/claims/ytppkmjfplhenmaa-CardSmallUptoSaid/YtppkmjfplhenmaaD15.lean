/-
  Contracts: a map from lifts to the throws that have them.
-/
import Derived.Test.YtppkmjfplhenmaaD14
set_option linter.unusedSimpArgs false
set_option linter.unusedVariables false
namespace Go.AM
open Go.Proofs.Try

/-- The throws below m that have a lift. -/
def posL (q : List Int) (x : Int) (m : Nat) : List Int := ((List.range m).filter (fun j : Nat => decide (q.getD j 0 = x))).map Int.ofNat
theorem posL_zero {q : List Int} {x : Int} : posL q x 0 = [] := rfl
theorem posL_succ {q : List Int} {x : Int} {m : Nat} : posL q x (m + 1) = if q.getD m 0 = x then posL q x m ++ [(m : Int)] else posL q x m := by
  unfold posL
  rw [List.range_succ, List.filter_append, List.map_append]
  by_cases h : q.getD m 0 = x
  · rw [if_pos h]
    have h' : q[m]?.getD 0 = x := by rwa [← List.getD_eq_getElem?_getD]
    simp [List.filter_cons, h']
  · rw [if_neg h]
    have h' : ¬ q[m]?.getD 0 = x := by rwa [← List.getD_eq_getElem?_getD]
    simp [List.filter_cons, h']
theorem posL_len {q : List Int} {x : Int} : ∀ m, (posL q x m).length ≤ m
  | 0 => by simp [posL]
  | m + 1 => by
    have := posL_len (q := q) (x := x) m
    rw [posL_succ]
    split
    · simp; omega
    · omega
theorem posL_mem {q : List Int} {x y : Int} {m : Nat} (h : y ∈ posL q x m) : 0 ≤ y ∧ y < m := by
  unfold posL at h
  obtain ⟨j, h1, rfl⟩ := List.mem_map.1 h
  have := List.mem_range.1 (List.mem_filter.1 h1).1
  simp only [Int.ofNat_eq_natCast]
  omega

/-- The entries and the rows of such a map. -/
def mkEs (f : Int → List Int) : Nat → List Int → List (AVal × AVal)
  | _, [] => []
  | M, x :: xs => (.int .i64 x, grV M (f x)) :: mkEs f (M + 1) xs
def mkRows (f : Int → List Int) (ks : List Int) : Heap := ks.map fun x => rowB (f x) ((f x).length - 1)
theorem mkEs_len {f : Int → List Int} : ∀ {M : Nat} {ks : List Int}, (mkEs f M ks).length = ks.length
  | _, [] => rfl
  | M, x :: xs => by simp [mkEs, mkEs_len (M := M + 1) (ks := xs)]
theorem mkEs_get {f : Int → List Int} : ∀ {M : Nat} {ks : List Int} {i : Nat} {x : Int}, ks[i]? = some x → (mkEs f M ks)[i]? = some (.int .i64 x, grV (M + i) (f x))
  | M, y :: ys, 0, x, h => by simp at h; subst h; rfl
  | M, y :: ys, i + 1, x, h => by
    simp only [List.getElem?_cons_succ] at h
    simp only [mkEs, List.getElem?_cons_succ]
    rw [mkEs_get (M := M + 1) h, show M + 1 + i = M + (i + 1) by omega]
theorem eqT3 {a b : Int} : eqT prog eqDepth 3 (.int .i64 a) (.int .i64 b) = some (a == b) := by simp [eqT, eqDepth, underlying3]
theorem keyOk3 {a : Int} : keyOk prog eqDepth 3 (.int .i64 a) = true := by simp [keyOk, eqDepth, underlying3]
theorem findA_mk {f : Int → List Int} {x : Int} : ∀ {M : Nat} {ks : List Int}, findA prog 3 (.int .i64 x) (mkEs f M ks) = some (ks.idxOf? x)
  | _, [] => rfl
  | M, y :: ys => by
    simp only [mkEs, findA, eqT3, List.idxOf?_cons]
    by_cases h : x = y
    · subst h; simp
    · have h' : (y == x) = false := by simpa using fun e => h e.symm
      have h2 : (x == y) = false := by simpa using h
      rw [h2]
      simp [h', findA_mk (M := M + 1) (ks := ys)]
theorem mkEs_set {f : Int → List Int} {x : Int} {l : List Int} : ∀ {M : Nat} {ks : List Int} {i : Nat}, ks[i]? = some x → ks.Nodup → mkEs (fun y => if y = x then l else f y) M ks = (mkEs f M ks).set i (.int .i64 x, grV (M + i) l)
  | M, y :: ys, 0, h, hd => by
    simp at h; subst h
    have hn : ∀ z ∈ ys, z ≠ y := fun z hz e => (List.nodup_cons.1 hd).1 (e ▸ hz)
    have : ∀ (M : Nat) (zs : List Int), (∀ z ∈ zs, z ≠ y) → mkEs (fun w => if w = y then l else f w) M zs = mkEs f M zs := by
      intro M zs
      induction zs generalizing M with
      | nil => intro _; rfl
      | cons z zs ih => intro hz; simp only [mkEs]; rw [ih _ (fun w hw => hz w (by simp [hw])), if_neg (hz z (by simp))]
    simp only [mkEs, List.set_cons_zero, if_true, Nat.add_zero, this _ _ hn]
  | M, y :: ys, i + 1, h, hd => by
    simp only [List.getElem?_cons_succ] at h
    have hx : x ∈ ys := List.mem_of_getElem? h
    have hne : y ≠ x := fun e => (List.nodup_cons.1 hd).1 (e ▸ hx)
    simp only [mkEs, List.set_cons_succ, if_neg hne]
    rw [mkEs_set (M := M + 1) h (List.nodup_cons.1 hd).2, show M + 1 + i = M + (i + 1) by omega]
theorem mkRows_set {f : Int → List Int} {x : Int} {l : List Int} {ks : List Int} {i : Nat} (h : ks[i]? = some x) (hd : ks.Nodup) : mkRows (fun y => if y = x then l else f y) ks = (mkRows f ks).set i (rowB l (l.length - 1)) := by
  unfold mkRows
  refine List.ext_getElem? fun j => ?_
  rw [List.getElem?_map, List.getElem?_set, List.getElem?_map]
  have hi := (List.getElem?_eq_some_iff.1 h).1
  by_cases e : i = j
  · subst e
    rw [if_pos rfl, if_pos (by simpa using hi), h]
    simp
  · rw [if_neg e]
    cases hj : ks[j]? with
    | none => rfl
    | some y =>
      have hne : y ≠ x := fun e2 => by
        subst e2
        exact e ((List.getElem?_inj hi hd).1 (by rw [h, hj]))
      simp [hne]
theorem mkEs_app {f : Int → List Int} {y : Int} : ∀ {M : Nat} {ks : List Int}, mkEs f M (ks ++ [y]) = mkEs f M ks ++ [(.int .i64 y, grV (M + ks.length) (f y))]
  | _, [] => rfl
  | M, x :: xs => by
    simp only [mkEs, List.cons_append, mkEs_app (M := M + 1) (ks := xs), List.length_cons]
    rw [show M + 1 + xs.length = M + (xs.length + 1) by omega]
theorem mkEs_congr {f g : Int → List Int} : ∀ {M : Nat} {ks : List Int}, (∀ x ∈ ks, f x = g x) → mkEs f M ks = mkEs g M ks
  | _, [], _ => rfl
  | M, x :: xs, h => by simp only [mkEs]; rw [h x (by simp), mkEs_congr (fun y hy => h y (by simp [hy]))]
theorem mkRows_congr {f g : Int → List Int} {ks : List Int} (h : ∀ x ∈ ks, f x = g x) : mkRows f ks = mkRows g ks := List.map_congr_left fun x hx => by rw [h x hx]

/-- Appending to a row of one's own, wherever it lies. -/
theorem app_at {base id : Nat} {H : Heap} {l : List Int} {x : Int} (hne : l ≠ []) (hg : H[id]? = some (rowB l (l.length - 1))) (hb : base ≤ id) (hl : l.length < 1073741824) :
    appendA prog base H 22 (grV id l) (.vals [.int .i64 x]) = some (grV id (l ++ [x]), H.set id (rowB (l ++ [x]) l.length)) := by
  cases l with
  | nil => exact absurd rfl hne
  | cons y ys =>
    have hl' : ys.length + 1 < 1073741824 := by simpa using hl
    simp only [List.length_cons, Nat.add_sub_cancel] at hg
    simp only [appendA, Fc.el22, lenA, if_true, List.length_cons, List.length_nil, Nat.zero_add, firstN_vals, List.all_cons, List.all_nil, AVal.scalar, Bool.and_self, grV, Nat.add_sub_cancel, hg, List.cons_append]
    rw [if_neg (by omega)]
    simp only [rowB, ints_length, List.length_cons, Nat.mul_one]
    rw [if_pos ⟨trivial, trivial, trivial, trivial, by omega, by omega, .inl hb⟩]
    simp only [List.length_append, List.length_cons, List.length_nil]
    rw [List.take_of_length_le (by simp [ints_length])]
    simp [ints]
theorem app_nil {base : Nat} {H : Heap} {x : Int} : appendA prog base H 22 (.slice none 0 0) (.vals [.int .i64 x]) = some (grV H.length [x], H ++ [rowB [x] 0]) := by
  simp [appendA, Fc.el22, lenA, firstN_vals, AVal.scalar, grV, rowB, ints]

theorem zv22 : zvA prog 22 = some (.slice none 0 0) := by kernel_rfl
theorem look_some {H : Heap} {m M i : Nat} {f : Int → List Int} {ks : List Int} {x : Int} (hm : H[m]? = some ⟨.map (mkEs f M ks), 0⟩) (hi : ks.idxOf? x = some i) : lookupA prog H 141 (.map (some m)) (.int .i64 x) false = some (grV (M + i) (f x)) := by
  have hx : ks[i]? = some x := by
    obtain ⟨h1, h2, _⟩ := List.idxOf?_eq_some_iff.1 hi
    rw [List.getElem?_eq_getElem h1]
    have : ks[i] = x := by simpa using h2
    rw [this]
  simp [lookupA, Fc.mp141, entriesA, hm, keyOk3, findA_mk, hi, mkEs_get hx]
theorem look_none {H : Heap} {m M : Nat} {f : Int → List Int} {ks : List Int} {x : Int} (hm : H[m]? = some ⟨.map (mkEs f M ks), 0⟩) (hi : ks.idxOf? x = none) : lookupA prog H 141 (.map (some m)) (.int .i64 x) false = some (.slice none 0 0) := by
  simp [lookupA, Fc.mp141, entriesA, hm, keyOk3, findA_mk, hi, zv22]
theorem upd_some {base : Nat} {H : Heap} {m M i : Nat} {f : Int → List Int} {ks : List Int} {x : Int} {v : AVal} (hm : H[m]? = some ⟨.map (mkEs f M ks), 0⟩) (hb : base ≤ m) (hi : ks.idxOf? x = some i) :
    mapUpdateA prog base H 141 (.map (some m)) (.int .i64 x) v = some (H.set m ⟨.map ((mkEs f M ks).set i (.int .i64 x, v)), 0⟩) := by
  have hx : ks[i]? = some x := by
    obtain ⟨h1, h2, _⟩ := List.idxOf?_eq_some_iff.1 hi
    rw [List.getElem?_eq_getElem h1]
    have : ks[i] = x := by simpa using h2
    rw [this]
  simp [mapUpdateA, Fc.mp141, hm, keyOk3, findA_mk, hi, mkEs_get hx, hb]
theorem upd_none {base : Nat} {H : Heap} {m M : Nat} {f : Int → List Int} {ks : List Int} {x : Int} {v : AVal} (hm : H[m]? = some ⟨.map (mkEs f M ks), 0⟩) (hb : base ≤ m) (hi : ks.idxOf? x = none) :
    mapUpdateA prog base H 141 (.map (some m)) (.int .i64 x) v = some (H.set m ⟨.map (mkEs f M ks ++ [(.int .i64 x, v)]), 0⟩) := by
  simp [mapUpdateA, Fc.mp141, hm, keyOk3, findA_mk, hi, hb]
end Go.AM
