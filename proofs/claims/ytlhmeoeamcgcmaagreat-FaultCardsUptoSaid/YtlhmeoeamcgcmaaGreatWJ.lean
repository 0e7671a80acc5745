/-
  Plain: ways count truths, and keep a shortest one.
-/
import Derived.Test.YtlhmeoeamcgcmaaGreatG2
import Derived.Test.YtlhmeoeamcgcmaaGreatG3
set_option linter.unusedSimpArgs false
set_option linter.unusedVariables false
namespace Go.AM
/-- A list of breaks, and the sights that they explain. -/
abbrev Tru := List Brk × Nat
/-- A list of ways counts a list of truths, and keeps a shortest one. -/
def Ws (n : Nat) (l : List Way) (ts : List Tru) : Prop := l.length = n ∧ ∀ S, S < n →
  (l.getD S wy0).1 = (ts.filter fun t => t.2 == S).length ∧
  ((l.getD S wy0).1 ≠ 0 → (∃ t ∈ ts, t.2 = S ∧ t.1 = (l.getD S wy0).2) ∧ ∀ t ∈ ts, t.2 = S → (l.getD S wy0).2.length ≤ t.1.length)
theorem Ws.perm {n : Nat} {l : List Way} {ts us : List Tru} (x : Ws n l ts) (p : ts.Perm us) : Ws n l us := by
  refine ⟨x.1, fun S hS => ?_⟩
  obtain ⟨h1, h2⟩ := x.2 S hS
  refine ⟨by rw [h1]; exact (p.filter _).length_eq, fun h => ?_⟩
  obtain ⟨⟨t, a, b⟩, c⟩ := h2 h
  exact ⟨⟨t, p.mem_iff.1 a, b⟩, fun t ht => c t (p.mem_iff.2 ht)⟩
def putB (b : Brk) (x : Nat) (t : Tru) : Tru := (t.1 ++ [b], t.2 ||| x)
theorem filt_none {ts : List Tru} {s : Nat} (h : (ts.filter fun t => t.2 == s).length = 0) : ∀ t ∈ ts, t.2 ≠ s := fun t ht e => by
  have := List.eq_nil_of_length_eq_zero h
  have h2 : t ∈ ts.filter fun t => t.2 == s := List.mem_filter.2 ⟨ht, by simp [e]⟩
  rw [this] at h2
  cases h2
theorem filt_put {F : List Tru} {b : Brk} {x s S : Nat} (hF : ∀ t ∈ F, t.2 = s) : ((F.map (putB b x)).filter fun t => t.2 == S) = if s ||| x = S then F.map (putB b x) else [] := by
  split
  · rename_i h
    refine List.filter_eq_self.2 fun t ht => ?_
    obtain ⟨u, hu, rfl⟩ := List.mem_map.1 ht
    simp [putB, hF u hu, h]
  · rename_i h
    refine List.filter_eq_nil_iff.2 fun t ht => ?_
    obtain ⟨u, hu, rfl⟩ := List.mem_map.1 ht
    simp [putB, hF u hu, h]
theorem getD_setW {l : List Way} {i j : Nat} {w : Way} (hi : i < l.length) : (l.set i w).getD j wy0 = if i = j then w else l.getD j wy0 := by
  rw [List.getD_eq_getElem?_getD, List.getElem?_set]
  split
  · rename_i h; subst h; simp [hi]
  · rw [List.getD_eq_getElem?_getD]
theorem Ws.stepS {n : Nat} {now next : List Way} {ts us : List Tru} {b : Brk} {x s : Nat} (hN : Ws n now ts) (hX : Ws n next us) (hx : Below n x) (hs : s < n) : Ws n (stepS now b x next s) (us ++ (ts.filter fun t => t.2 == s).map (putB b x)) := by
  obtain ⟨n1, n2⟩ := hN.2 s hs
  unfold Go.AM.stepS
  by_cases c : (now.getD s wy0).1 = 0
  · rw [if_pos c]
    rw [c] at n1
    rw [List.eq_nil_of_length_eq_zero n1.symm]
    simpa using hX
  · rw [if_neg c]
    obtain ⟨⟨t0, ht0, e0, e1⟩, n4⟩ := n2 c
    have hD := hx s hs
    have hl := hX.1
    refine ⟨by rw [List.length_set]; exact hX.1, fun S hS => ?_⟩
    obtain ⟨x1, x2⟩ := hX.2 S hS
    rw [getD_setW (by omega), List.filter_append, filt_put (s := s) (fun t ht => by simpa using (List.mem_filter.1 ht).2)]
    by_cases e : s ||| x = S
    · subst e
      rw [if_pos rfl, if_pos rfl, List.length_append, List.length_map]
      refine ⟨by rw [x1, n1], fun _ => ?_⟩
      by_cases d : (next.getD (s ||| x) wy0).1 = 0 ∨ (now.getD s wy0).2.length + 1 < (next.getD (s ||| x) wy0).2.length
      · rw [if_pos d]
        refine ⟨⟨putB b x t0, List.mem_append_right _ (List.mem_map_of_mem (List.mem_filter.2 ⟨ht0, by simp [e0]⟩)), by simp [putB, e0], by simp [putB, e1]⟩, fun t ht h2 => ?_⟩
        rcases List.mem_append.1 ht with ht | ht
        · rcases d with d | d
          · exact absurd h2 (filt_none (by rw [← x1, d]) t ht)
          · by_cases d0 : (next.getD (s ||| x) wy0).1 = 0
            · exact absurd h2 (filt_none (by rw [← x1, d0]) t ht)
            · have := (x2 d0).2 t ht h2
              simp only [List.length_append, List.length_cons, List.length_nil]; omega
        · obtain ⟨u, hu, rfl⟩ := List.mem_map.1 ht
          have hu' := List.mem_filter.1 hu
          have := n4 u hu'.1 (by simpa using hu'.2)
          simp only [putB, List.length_append, List.length_cons, List.length_nil]; omega
      · rw [if_neg d]
        simp only [not_or] at d
        obtain ⟨⟨t1, ht1, g1, g2⟩, x4⟩ := x2 d.1
        refine ⟨⟨t1, List.mem_append_left _ ht1, g1, g2⟩, fun t ht h2 => ?_⟩
        rcases List.mem_append.1 ht with ht | ht
        · exact x4 t ht h2
        · obtain ⟨u, hu, rfl⟩ := List.mem_map.1 ht
          have hu' := List.mem_filter.1 hu
          have := n4 u hu'.1 (by simpa using hu'.2)
          simp only [putB, List.length_append, List.length_cons, List.length_nil]; omega
    · rw [if_neg e, if_neg e, List.append_nil]
      refine ⟨x1, fun h => ?_⟩
      obtain ⟨⟨t1, ht1, g1, g2⟩, x4⟩ := x2 h
      refine ⟨⟨t1, List.mem_append_left _ ht1, g1, g2⟩, fun t ht h2 => ?_⟩
      rcases List.mem_append.1 ht with ht | ht
      · exact x4 t ht h2
      · obtain ⟨u, hu, rfl⟩ := List.mem_map.1 ht
        have hu' := List.mem_filter.1 hu
        exact absurd (by simpa [putB, (show u.2 = s by simpa using hu'.2)] using h2) e
theorem filt_succ (s : Nat) : ∀ ts : List Tru, (ts.filter fun t => decide (t.2 < s + 1)).Perm ((ts.filter fun t => decide (t.2 < s)) ++ ts.filter fun t => t.2 == s)
  | [] => .refl _
  | t :: ts => by
    have ih := filt_succ s ts
    rcases Nat.lt_trichotomy t.2 s with h | h | h
    · rw [List.filter_cons_of_pos (by simpa using Nat.lt_succ_of_lt h), List.filter_cons_of_pos (by simpa using h), List.filter_cons_of_neg (by simpa using Nat.ne_of_lt h)]
      exact ih.cons t
    · rw [List.filter_cons_of_pos (by simp [h]), List.filter_cons_of_neg (by simp [h]), List.filter_cons_of_pos (by simp [h])]
      exact (ih.cons t).trans List.perm_middle.symm
    · rw [List.filter_cons_of_neg (by simp; omega), List.filter_cons_of_neg (by simp; omega), List.filter_cons_of_neg (by simp; omega)]
      exact ih
theorem Ws.stepN {n : Nat} {now next : List Way} {ts us : List Tru} {b : Brk} {x : Nat} (hN : Ws n now ts) (hX : Ws n next us) (hx : Below n x) : ∀ s, s ≤ n → Ws n (stepN now b x next s) (us ++ (ts.filter fun t => decide (t.2 < s)).map (putB b x))
  | 0, _ => by
    have : (ts.filter fun t => decide (t.2 < 0)) = [] := List.filter_eq_nil_iff.2 fun t _ => by simp
    rw [this]
    simpa [Go.AM.stepN] using hX
  | s + 1, h => by
    have ih := Ws.stepN (b := b) hN hX hx s (by omega)
    refine (hN.stepS ih hx (show s < n by omega)).perm ?_
    rw [List.append_assoc, ← List.map_append]
    exact (((filt_succ s ts).map _).append_left us).symm
def oneB (f : Brk → Nat → Bool) (ts : List Tru) (q : Brk × Nat) : List Tru := if f q.1 q.2 = true then ts.map (putB q.1 q.2) else []
theorem Ws.stepM {n : Nat} {f : Brk → Nat → Bool} {now next : List Way} {ts us : List Tru} {q : Brk × Nat} (hN : Ws n now ts) (hX : Ws n next us) (hx : Below n q.2) (ht : ∀ t ∈ ts, t.2 < n) : Ws n (stepM f now next q) (us ++ oneB f ts q) := by
  unfold Go.AM.stepM oneB
  split
  · have := hN.stepN hX hx (b := q.1) n (Nat.le_refl _)
    rw [hN.1]
    rwa [show (ts.filter fun t => decide (t.2 < n)) = ts from List.filter_eq_self.2 fun t h => by simpa using ht t h] at this
  · simpa using hX
theorem Ws.stepJ {n : Nat} {f : Brk → Nat → Bool} {now : List Way} {ts : List Tru} {l : List (Brk × Nat)} (hN : Ws n now ts) (hx : ∀ q ∈ l, Below n q.2) (ht : ∀ t ∈ ts, t.2 < n) : ∀ j, j ≤ l.length → Ws n (stepJ f now l j) (ts ++ (l.take j).flatMap (oneB f ts))
  | 0, _ => by simpa [Go.AM.stepJ] using hN
  | j + 1, h => by
    have ih := Ws.stepJ (f := f) hN hx ht j (by omega)
    have hg := getD_some (d := (brk0, 0)) (show j < l.length by omega)
    have := hN.stepM (f := f) ih (hx _ (List.mem_of_getElem? hg)) ht
    rw [List.take_add_one, hg, List.flatMap_append, ← List.append_assoc]
    simpa [Go.AM.stepJ] using this
/-- The truths whose breaks are of the first k parts. -/
def trs (L : Lom) (bad : List Int) (ms : List (List Bool)) (f : Brk → Nat → Bool) : Nat → List Tru
  | 0 => [([], 0)]
  | k + 1 => trs L bad ms f k ++ (made L bad ms k).flatMap (oneB f (trs L bad ms f k))
theorem trs_lt {L : Lom} {bad : List Int} {ms : List (List Bool)} {f : Brk → Nat → Bool} : ∀ k, ∀ t ∈ trs L bad ms f k, t.2 < 2 ^ bad.length
  | 0, t, h => by simp only [trs, List.mem_singleton] at h; subst h; exact Nat.two_pow_pos _
  | k + 1, t, h => by
    rw [trs, List.mem_append] at h
    rcases h with h | h
    · exact trs_lt k t h
    · obtain ⟨q, hq, h⟩ := List.mem_flatMap.1 h
      unfold oneB at h
      split at h
      · obtain ⟨u, hu, rfl⟩ := List.mem_map.1 h
        exact made_below q hq _ (trs_lt k u hu)
      · cases h
theorem wayN_trs {L : Lom} {bad : List Int} {ms : List (List Bool)} {f : Brk → Nat → Bool} : ∀ k, Ws (2 ^ bad.length) (wayN L bad ms f k) (trs L bad ms f k)
  | 0 => by
    refine ⟨by simp [wayN], fun S hS => ?_⟩
    rw [wayN, getD_setW (by simpa using Nat.two_pow_pos _)]
    by_cases h : 0 = S
    · subst h
      rw [if_pos rfl]
      exact ⟨by simp [trs], fun _ => ⟨⟨([], 0), by simp [trs]⟩, fun t _ _ => by simp⟩⟩
    · rw [if_neg h]
      have e : (List.replicate (2 ^ bad.length) wy0).getD S wy0 = wy0 := by
        rw [List.getD_eq_getElem?_getD, List.getElem?_replicate]; split <;> rfl
      rw [e]
      refine ⟨?_, fun h2 => absurd rfl h2⟩
      rw [trs, List.filter_cons_of_neg (by simpa using h)]
      rfl
  | k + 1 => by
    have ih := wayN_trs (L := L) (bad := bad) (ms := ms) (f := f) k
    have := ih.stepJ (f := f) (l := made L bad ms k) made_below (trs_lt k) _ (Nat.le_refl _)
    rw [List.take_length] at this
    exact this
/-- The lists of breaks alone. -/
def orB (L : Lom) (bad : List Int) (t : List Brk) : Nat := t.foldl (fun a b => a ||| bits L bad b) 0
theorem orB_snoc {L : Lom} {bad : List Int} {t : List Brk} {b : Brk} : orB L bad (t ++ [b]) = orB L bad t ||| bits L bad b := by simp [orB, List.foldl_append]
/-- The breaks of a part that are let. -/
def letB (L : Lom) (bad : List Int) (ms : List (List Bool)) (f : Brk → Nat → Bool) (k : Nat) : List Brk := (brkL k (ms.getD k []) L.T.toNat).filter fun b => f b (bits L bad b)
def trl (L : Lom) (bad : List Int) (ms : List (List Bool)) (f : Brk → Nat → Bool) : Nat → List (List Brk)
  | 0 => [[]]
  | k + 1 => trl L bad ms f k ++ (letB L bad ms f k).flatMap fun b => (trl L bad ms f k).map (· ++ [b])
theorem made_flat {L : Lom} {bad : List Int} {f : Brk → Nat → Bool} {us : List (List Brk)} : ∀ l : List Brk,
    (l.map fun b => (b, bits L bad b)).flatMap (oneB f (us.map fun t => (t, orB L bad t))) = ((l.filter fun b => f b (bits L bad b)).flatMap fun b => us.map (· ++ [b])).map fun t => (t, orB L bad t)
  | [] => rfl
  | b :: l => by
    have ih := made_flat (L := L) (bad := bad) (f := f) (us := us) l
    rw [List.map_cons, List.flatMap_cons, ih, List.filter_cons]
    by_cases h : f b (bits L bad b) = true
    · rw [if_pos h, List.flatMap_cons, List.map_append]
      congr 1
      unfold oneB
      rw [if_pos h, List.map_map, List.map_map]
      exact List.map_congr_left fun t _ => by simp [putB, orB_snoc]
    · rw [if_neg h]
      unfold oneB
      rw [if_neg h, List.nil_append]
theorem trs_trl {L : Lom} {bad : List Int} {ms : List (List Bool)} {f : Brk → Nat → Bool} : ∀ k, trs L bad ms f k = (trl L bad ms f k).map fun t => (t, orB L bad t)
  | 0 => rfl
  | k + 1 => by
    rw [trs, trl, List.map_append, trs_trl k]
    congr 1
    exact made_flat _
end Go.AM
/-
  Plain: what a truth is, what it spoils, and what the marks and the bits say.
-/
namespace Go.AM
/-! ### Breaks that spoil a spot of a sight -/
theorem thr_mem {each ph : Int} {a : Nat} {t : Int} : ∀ {n : Nat}, t ∈ thr each ph a n ↔ (a : Int) ≤ t ∧ t < (a : Int) + n ∧ t.tmod each = ph
  | 0 => by simp only [thr, List.not_mem_nil, false_iff]; omega
  | n + 1 => by
    rw [thr, List.mem_append, thr_mem (n := n)]
    constructor
    · rintro (h | h)
      · exact ⟨h.1, by omega, h.2.2⟩
      · split at h
        · rename_i q; rw [List.mem_singleton] at h; subst h; exact ⟨by omega, by omega, q⟩
        · cases h
    · rintro ⟨h1, h2, h3⟩
      by_cases e : t = ((a + n : Nat) : Int)
      · subst e; exact .inr (by rw [if_pos h3]; simp)
      · exact .inl ⟨h1, by omega, h3⟩
theorem spotsN_mem {p : Prt} {a n : Nat} {x : Int × Int} : x ∈ spotsN p a n ↔ x.1 ∈ p.rib ∧ (a : Int) ≤ x.2 ∧ x.2 < (a : Int) + n ∧ x.2.tmod p.each = p.ph := by
  unfold spotsN
  rw [List.mem_flatMap]
  constructor
  · rintro ⟨r, hr, h⟩
    obtain ⟨t, ht, rfl⟩ := List.mem_map.1 h
    exact ⟨hr, thr_mem.1 ht⟩
  · rintro ⟨h1, h2⟩
    exact ⟨x.1, h1, List.mem_map.2 ⟨x.2, thr_mem.2 h2, rfl⟩⟩
/-- The part of a break. -/
def prtOf (L : Lom) (b : Brk) : Prt := L.ps.getD b.1.toNat prt0
theorem spo_mem {L : Lom} {b : Brk} {x : Int × Int} (h0 : 0 ≤ b.2.1) (h1 : b.2.1 ≤ b.2.2 + 1) : x ∈ spo L b ↔ x.1 ∈ (prtOf L b).rib ∧ b.2.1 ≤ x.2 ∧ x.2 ≤ b.2.2 ∧ x.2.tmod (prtOf L b).each = (prtOf L b).ph := by
  unfold spo
  rw [spotsN_mem]
  unfold prtOf
  constructor
  · rintro ⟨a, b, c, d⟩; exact ⟨a, by omega, by omega, d⟩
  · rintro ⟨a, b, c, d⟩; exact ⟨a, by omega, by omega, d⟩
/-- A break spoils a spot of a sight. -/
def tch (L : Lom) (b : Brk) (s : Sgt) : Prop := s.rib ∈ (prtOf L b).rib ∧ ∃ t : Int, b.2.1 ≤ t ∧ t ≤ b.2.2 ∧ s.lo ≤ t ∧ t ≤ s.hi ∧ t.tmod (prtOf L b).each = (prtOf L b).ph
theorem any_has {L : Lom} {b : Brk} {s : Sgt} (h0 : 0 ≤ b.2.1) (h1 : b.2.1 ≤ b.2.2 + 1) : (spo L b).any (hasB s) = true ↔ tch L b s := by
  rw [List.any_eq_true]
  constructor
  · rintro ⟨x, hx, h⟩
    have h := of_decide_eq_true h
    obtain ⟨a, c, d, e⟩ := (spo_mem h0 h1).1 hx
    exact ⟨h.1 ▸ a, x.2, c, d, h.2.1, h.2.2, e⟩
  · rintro ⟨a, t, c, d, e, f, g⟩
    exact ⟨(s.rib, t), (spo_mem h0 h1).2 ⟨a, c, d, g⟩, decide_eq_true ⟨rfl, e, f⟩⟩
def sgtI (L : Lom) (i : Int) : Sgt := L.ss.getD i.toNat sgt0
theorem hit_iff {L : Lom} {b : Brk} {i : Int} (h0 : 0 ≤ b.2.1) (h1 : b.2.1 ≤ b.2.2 + 1) : hit L b i = true ↔ tch L b (sgtI L i) := any_has h0 h1
/-! ### Truths -/
/-- A break of a loom. -/
def brkOk (L : Lom) (b : Brk) : Prop := 0 ≤ b.1 ∧ b.1 < (L.ps.length : Int) ∧ 0 ≤ b.2.1 ∧ b.2.1 ≤ b.2.2 ∧ b.2.2 < L.T
theorem brkM_iff {L : Lom} {b : Brk} : brkM L b = 0 ↔ brkOk L b := by
  constructor
  · intro h; have := brkM_ok h; exact ⟨this.1.1, this.1.2, this.2.1.1, this.2.2.2, by omega⟩
  · rintro ⟨h1, h2, h3, h4, h5⟩
    unfold brkM
    rw [if_neg (by omega), if_neg (by omega)]
/-- Breaks are a truth. -/
def truOk (L : Lom) (t : List Brk) : Prop := t.Pairwise (fun a b => a.1 < b.1) ∧ ∀ b ∈ t, brkOk L b
theorem getD_at {α : Type} {l : List α} {d : α} {i : Nat} (h : i < l.length) : l.getD i d = l[i] := by rw [List.getD_eq_getElem?_getD, List.getElem?_eq_getElem h]; rfl
/-- A truth spoils a spot of a sight. -/
def bdT (L : Lom) (t : List Brk) (s : Sgt) : Prop := ∃ b ∈ t, tch L b s
/-- A truth explains some sights. -/
def Xp (L : Lom) (o : List Int) (t : List Brk) : Prop := truOk L t ∧ ∀ i ∈ o, (bdT L t (sgtI L i) ↔ badI L i = true)
/-! ### Marks -/
theorem getD_set' {l : List Bool} {i j : Nat} {b : Bool} (hi : i < l.length) : (l.set i b).getD j false = if i = j then b else l.getD j false := by
  rw [List.getD_eq_getElem?_getD, List.getElem?_set]
  split
  · rename_i h; subst h; simp [hi]
  · rw [List.getD_eq_getElem?_getD]
theorem mark1_get {p : Prt} {r : Int} {a : Nat} {m : List Bool} {j : Nat} : ∀ {n : Nat}, a + n ≤ m.length → ((mark1 p r a m n).getD j false = true ↔ m.getD j false = true ∨ (a ≤ j ∧ j < a + n ∧ (j : Int).tmod p.each = p.ph ∧ r ∈ p.rib))
  | 0, _ => by simp only [mark1]; constructor; exact .inl; rintro (h | h); exact h; omega
  | n + 1, h => by
    have ih := mark1_get (p := p) (r := r) (a := a) (m := m) (j := j) (n := n) (by omega)
    by_cases c : ((a + n : Nat) : Int).tmod p.each = p.ph ∧ r ∈ p.rib
    · rw [mark1_pos c, getD_set' (by rw [mark1_len]; omega)]
      by_cases e : a + n = j
      · subst e; rw [if_pos rfl]; exact ⟨fun _ => .inr ⟨by omega, by omega, c⟩, fun _ => rfl⟩
      · rw [if_neg e, ih]
        constructor
        · rintro (q | q); exact .inl q; exact .inr ⟨q.1, by omega, q.2.2⟩
        · rintro (q | q); exact .inl q; exact .inr ⟨q.1, by omega, q.2.2⟩
    · rw [mark1_neg c, ih]
      constructor
      · rintro (q | q); exact .inl q; exact .inr ⟨q.1, by omega, q.2.2⟩
      · rintro (q | q)
        · exact .inl q
        · by_cases e : j = a + n
          · subst e; exact absurd q.2.2 c
          · exact .inr ⟨q.1, by omega, q.2.2⟩
theorem markN_get {ps : List Prt} {r : Int} {a n : Nat} {ms : List (List Bool)} (hl : ms.length = ps.length) {j : Nat} : ∀ {k : Nat}, k ≤ ps.length → (markN ps r a n ms k).getD j [] = if j < k then mark1 (ps.getD j prt0) r a (ms.getD j []) n else ms.getD j []
  | 0, _ => by simp [markN]
  | k + 1, h => by
    have ih := fun j => markN_get (r := r) (a := a) (n := n) hl (j := j) (k := k) (by omega)
    have hg := getD_some (d := prt0) (show k < ps.length by omega)
    simp only [markN, hg]
    rw [List.getD_eq_getElem?_getD, List.getElem?_set]
    by_cases e : k = j
    · subst e
      rw [if_pos rfl, if_pos (show k < (markN ps r a n ms k).length by rw [markN_len]; omega), if_pos (by omega)]
      show mark1 _ r a ((markN ps r a n ms k).getD k []) n = _
      rw [ih, if_neg (by omega)]
    · rw [if_neg e, ← List.getD_eq_getElem?_getD, ih]
      by_cases q : j < k
      · rw [if_pos q, if_pos (by omega)]
      · rw [if_neg q, if_neg (by omega)]
/-- A good sight excludes a part at a throw. -/
def exclI (L : Lom) (k t : Nat) (i : Int) : Prop := badI L i = false ∧ (sgtI L i).lo ≤ (t : Int) ∧ (t : Int) ≤ (sgtI L i).hi ∧ (t : Int).tmod (L.ps.getD k prt0).each = (L.ps.getD k prt0).ph ∧ (sgtI L i).rib ∈ (L.ps.getD k prt0).rib
theorem deskN_get {L : Lom} {o : List Int} {k t : Nat} (ho : ∀ i ∈ o, 0 ≤ i ∧ i < (L.ss.length : Int)) (hs : ∀ s ∈ L.ss, 0 ≤ s.lo ∧ s.hi < 12 ∧ s.lo ≤ s.hi) (hk : k < L.ps.length) :
    ((deskN L o).2.getD k []).getD t false = true ↔ ∃ i ∈ o, exclI L k t i := by
  suffices g : ∀ (o : List Int) (d : List Int × List (List Bool)), (∀ i ∈ o, 0 ≤ i ∧ i < (L.ss.length : Int)) → d.2.length = L.ps.length → (∀ m ∈ d.2, m.length = 12) →
      (((o.foldl (deskS L) d).2.getD k []).getD t false = true ↔ (d.2.getD k []).getD t false = true ∨ ∃ i ∈ o, exclI L k t i) by
    have := g o ([], List.replicate L.ps.length (List.replicate 12 false)) ho (by simp) (fun m hm => by rw [(List.mem_replicate.1 hm).2]; simp)
    unfold deskN
    rw [this]
    have e : ((List.replicate L.ps.length (List.replicate 12 false)).getD k []).getD t false = false := by
      rw [List.getD_eq_getElem?_getD (l := List.replicate _ _), List.getElem?_replicate, if_pos hk]
      show (List.replicate 12 false).getD t false = false
      rw [List.getD_eq_getElem?_getD, List.getElem?_replicate]
      split <;> rfl
    simp only [e, Bool.false_eq_true, false_or]
  intro o
  induction o with
  | nil => intro d _ _ _; simp
  | cons i o ih =>
    intro d ho h1 h2
    have hi := ho i (by simp)
    have hg := getD_some (d := sgt0) (show i.toNat < L.ss.length by omega)
    have hsi := hs _ (List.mem_of_getElem? hg)
    have key : ((deskS L d i).2.length = L.ps.length ∧ ∀ m ∈ (deskS L d i).2, m.length = 12) ∧ (((deskS L d i).2.getD k []).getD t false = true ↔ (d.2.getD k []).getD t false = true ∨ exclI L k t i) := by
      unfold deskS
      rw [hg]
      simp only
      by_cases hb : (L.ss.getD i.toNat sgt0).bad = true
      · rw [if_pos hb]
        refine ⟨⟨h1, h2⟩, ⟨.inl, ?_⟩⟩
        rintro (q | q)
        · exact q
        · have := q.1; unfold badI at this; rw [hb] at this; cases this
      · rw [if_neg hb]
        refine ⟨⟨by rw [markN_len]; exact h1, markN_all h1.symm h2 _⟩, ?_⟩
        simp only
        rw [markN_get h1 (Nat.le_refl _), if_pos hk, mark1_get (by
          have : (d.2.getD k []).length = 12 := h2 _ (List.mem_of_getElem? (getD_some (by omega)))
          omega)]
        refine or_congr_right ?_
        unfold exclI badI sgtI
        constructor
        · rintro ⟨a, b, c, e⟩; exact ⟨by simpa using hb, by omega, by omega, c, e⟩
        · rintro ⟨_, a, b, c, e⟩; exact ⟨by omega, by omega, c, e⟩
    rw [List.foldl_cons, ih _ (fun j hj => ho j (List.mem_cons_of_mem _ hj)) key.1.1 key.1.2, key.2, or_assoc]
    refine or_congr_right ?_
    simp only [List.mem_cons, exists_eq_or_imp]
/-! ### Breaks that nothing excludes -/
theorem runF_ge {p : Nat → Bool} : ∀ {n a : Nat} {d : Nat}, d < n → (∀ j, j ≤ d → p (a + j) = true) → d < runF p a n
  | 0, _, d, h, _ => by omega
  | n + 1, a, d, h, hp => by
    simp only [runF]
    rw [if_pos (by simpa using hp 0 (by omega))]
    cases d with
    | zero => omega
    | succ d =>
      have := runF_ge (p := p) (n := n) (a := a + 1) (d := d) (by omega) (fun j hj => by have := hp (j + 1) (by omega); rwa [show a + (j + 1) = a + 1 + j by omega] at this)
      omega
theorem brkL_iff {k T : Nat} {m : List Bool} {b : Brk} : b ∈ brkL k m T ↔ b.1 = (k : Int) ∧ 0 ≤ b.2.1 ∧ b.2.1 ≤ b.2.2 ∧ b.2.2 < (T : Int) ∧ ∀ t : Nat, b.2.1 ≤ (t : Int) → (t : Int) ≤ b.2.2 → m.getD t false = false := by
  rw [brkL_mem]
  constructor
  · rintro ⟨n, d, h1, h2, rfl⟩
    have h3 := runF_le (p := fun t => !m.getD t false) (n := T - n) (a := n)
    refine ⟨rfl, by simp, by simp only; omega, by simp only; omega, fun t q1 q2 => ?_⟩
    simp only at q1 q2
    have := runF_lt (p := fun t => !m.getD t false) (d := t - n) (show t - n < runF (fun t => !m.getD t false) n (T - n) by omega)
    rw [show n + (t - n) = t by omega] at this
    simpa using this
  · rintro ⟨h1, h2, h3, h4, h5⟩
    obtain ⟨b1, b2, b3⟩ := b
    simp only at h1 h2 h3 h4 h5
    refine ⟨b2.toNat, (b3 - b2).toNat, by omega, runF_ge (by omega) fun j hj => ?_, ?_⟩
    · have := h5 (b2.toNat + j) (by omega) (by omega)
      show (!m.getD (b2.toNat + j) false) = true
      rw [this]; rfl
    · rw [h1]; congr 1; congr 1 <;> omega
theorem brkN_nodup {k T : Nat} {m : List Bool} : ∀ n, (brkN k m T n).Nodup ∧ ∀ b ∈ brkN k m T n, b.2.1 < (n : Int)
  | 0 => by simp [brkN]
  | n + 1 => by
    obtain ⟨h1, h2⟩ := brkN_nodup (k := k) (T := T) (m := m) n
    refine ⟨?_, fun b hb => ?_⟩
    · rw [brkN, List.nodup_append]
      refine ⟨h1, ?_, fun a ha b hb e => ?_⟩
      · unfold brkF
        rw [List.Nodup, List.pairwise_map]
        refine List.Pairwise.imp ?_ List.nodup_range
        intro a b hab e
        simp only [Prod.mk.injEq] at e
        omega
      · subst e
        have := h2 a ha
        simp only [brkF, List.mem_map, List.mem_range] at hb
        obtain ⟨d, _, rfl⟩ := hb
        simp only at this
        omega
    · rw [brkN, List.mem_append] at hb
      rcases hb with hb | hb
      · have := h2 b hb; omega
      · simp only [brkF, List.mem_map, List.mem_range] at hb
        obtain ⟨d, _, rfl⟩ := hb
        simp only; omega
/-- A break spoils no good sight of a list. -/
def clean (L : Lom) (o : List Int) (b : Brk) : Prop := ∀ i ∈ o, badI L i = false → ¬ tch L b (sgtI L i)
theorem brkL_clean {L : Lom} {o : List Int} {k : Nat} {b : Brk} (hc : chkM L = 0) (ho : ∀ i ∈ o, 0 ≤ i ∧ i < (L.ss.length : Int)) (hk : k < L.ps.length) : b ∈ brkL k ((deskN L o).2.getD k []) L.T.toNat ↔ b.1 = (k : Int) ∧ brkOk L b ∧ clean L o b := by
  obtain ⟨k1, k2, k3, k4, k5, k6⟩ := chkM_ok hc
  rw [brkL_iff]
  have hs : ∀ s ∈ L.ss, 0 ≤ s.lo ∧ s.hi < 12 ∧ s.lo ≤ s.hi := fun s hs => by have := k6 s hs; omega
  constructor
  · rintro ⟨h1, h2, h3, h4, h5⟩
    refine ⟨h1, ⟨by omega, by omega, h2, h3, by omega⟩, fun i hi hb ht => ?_⟩
    obtain ⟨g1, t, g2, g3, g4, g5, g6⟩ := ht
    have := h5 t.toNat (by omega) (by omega)
    have q := (deskN_get (t := t.toNat) ho hs hk).2 ⟨i, hi, hb, by omega, by omega, by
      rw [show ((t.toNat : Nat) : Int) = t by omega]; simpa [prtOf, h1] using g6, by simpa [prtOf, h1] using g1⟩
    rw [q] at this
    cases this
  · rintro ⟨h1, ⟨h2, h3, h4, h5, h6⟩, h7⟩
    refine ⟨h1, h4, h5, by omega, fun t q1 q2 => ?_⟩
    cases hm : ((deskN L o).2.getD k []).getD t false with
    | false => rfl
    | true =>
      obtain ⟨i, hi, g1, g2, g3, g4, g5⟩ := (deskN_get ho hs hk).1 hm
      exact absurd ⟨by simpa [prtOf, h1] using g5, (t : Int), q1, q2, g2, g3, by simpa [prtOf, h1] using g4⟩ (h7 i hi g1)
/-! ### Bits -/
theorem bitN_test {L : Lom} {bad : List Int} {b : Brk} {j : Nat} : ∀ n, (bitN L bad b n).testBit j = (decide (j < n) && hit L b (bad.getD j 0))
  | 0 => by simp [bitN]
  | n + 1 => by
    have ih := bitN_test (L := L) (bad := bad) (b := b) (j := j) n
    simp only [bitN]
    by_cases c : hit L b (bad.getD n 0) = true
    · rw [if_pos c, Nat.testBit_or, ih, Nat.testBit_two_pow]
      by_cases e : n = j
      · subst e; rw [c]; simp
      · have e2 : decide (n = j) = false := decide_eq_false e
        have e3 : decide (j < n + 1) = decide (j < n) := decide_eq_decide.2 (by omega)
        rw [e2, e3, Bool.or_false]
    · rw [if_neg c, ih]
      by_cases e : n = j
      · subst e; simp at c; simp [c]
      · have e3 : decide (j < n + 1) = decide (j < n) := decide_eq_decide.2 (by omega)
        rw [e3]
theorem bits_test {L : Lom} {bad : List Int} {b : Brk} {j : Nat} : (bits L bad b).testBit j = (decide (j < bad.length) && hit L b (bad.getD j 0)) := bitN_test _
theorem orB_test {L : Lom} {bad : List Int} {j : Nat} (t : List Brk) : (orB L bad t).testBit j = (decide (j < bad.length) && t.any fun b => hit L b (bad.getD j 0)) := by
  suffices g : ∀ (t : List Brk) (a : Nat), (t.foldl (fun a b => a ||| bits L bad b) a).testBit j = (a.testBit j || (decide (j < bad.length) && t.any fun b => hit L b (bad.getD j 0))) by
    have := g t 0
    rw [Nat.zero_testBit, Bool.false_or] at this
    exact this
  intro t
  induction t with
  | nil => intro a; simp
  | cons b t ih =>
    intro a
    rw [List.foldl_cons, ih, Nat.testBit_or, bits_test, List.any_cons]
    cases a.testBit j <;> cases decide (j < bad.length) <;> simp
theorem orB_full {L : Lom} {bad : List Int} {t : List Brk} (ht : ∀ b ∈ t, brkOk L b) : orB L bad t = 2 ^ bad.length - 1 ↔ ∀ i ∈ bad, bdT L t (sgtI L i) := by
  constructor
  · intro h i hi
    obtain ⟨j, hj, rfl⟩ := List.getElem_of_mem hi
    have := orB_test (L := L) (bad := bad) (j := j) t
    rw [h, Nat.testBit_two_pow_sub_one, decide_eq_true hj, Bool.true_and, getD_at hj] at this
    obtain ⟨b, hb, hh⟩ := List.any_eq_true.1 this.symm
    obtain ⟨q1, q2, q3, q4, q5⟩ := ht b hb
    exact ⟨b, hb, (hit_iff q3 (by omega)).1 hh⟩
  · intro h
    refine Nat.eq_of_testBit_eq fun j => ?_
    rw [orB_test, Nat.testBit_two_pow_sub_one]
    by_cases hj : j < bad.length
    · rw [decide_eq_true hj, Bool.true_and, getD_at hj]
      obtain ⟨b, hb, hh⟩ := h _ (List.getElem_mem hj)
      obtain ⟨q1, q2, q3, q4, q5⟩ := ht b hb
      exact List.any_eq_true.2 ⟨b, hb, (hit_iff q3 (by omega)).2 hh⟩
    · rw [decide_eq_false hj]; rfl
end Go.AM
/-
  Plain: what the desk says is what the truths say.
-/
namespace Go.AM
section
variable {L : Lom} {bad : List Int} {ms : List (List Bool)} {f : Brk → Nat → Bool}
theorem letB_mem {k : Nat} {b : Brk} : b ∈ letB L bad ms f k ↔ b ∈ brkL k (ms.getD k []) L.T.toNat ∧ f b (bits L bad b) = true := by
  unfold letB; rw [List.mem_filter]
theorem letB_part {k : Nat} {b : Brk} (h : b ∈ letB L bad ms f k) : b.1 = (k : Int) := (brkL_iff.1 (letB_mem.1 h).1).1
theorem trl_mem {t : List Brk} : ∀ k, t ∈ trl L bad ms f k ↔ t.Pairwise (fun a b => a.1 < b.1) ∧ ∀ b ∈ t, ∃ j : Nat, j < k ∧ b ∈ letB L bad ms f j
  | 0 => by
    rw [trl, List.mem_singleton]
    constructor
    · rintro rfl; exact ⟨.nil, fun b hb => by cases hb⟩
    · rintro ⟨_, h⟩
      cases t with
      | nil => rfl
      | cons b t => obtain ⟨j, hj, _⟩ := h b (by simp); omega
  | k + 1 => by
    rw [trl, List.mem_append, trl_mem k]
    constructor
    · rintro (⟨h1, h2⟩ | h)
      · exact ⟨h1, fun b hb => by obtain ⟨j, a, c⟩ := h2 b hb; exact ⟨j, by omega, c⟩⟩
      · obtain ⟨b, hb, h⟩ := List.mem_flatMap.1 h
        obtain ⟨t', ht', rfl⟩ := List.mem_map.1 h
        obtain ⟨h1, h2⟩ := (trl_mem k).1 ht'
        refine ⟨List.pairwise_append.2 ⟨h1, List.pairwise_singleton _ _, fun a ha c hc => ?_⟩, fun c hc => ?_⟩
        · rw [List.mem_singleton] at hc; subst hc
          obtain ⟨j, q1, q2⟩ := h2 a ha
          have := letB_part q2
          have := letB_part hb
          omega
        · rcases List.mem_append.1 hc with hc | hc
          · obtain ⟨j, a, c⟩ := h2 c hc; exact ⟨j, by omega, c⟩
          · rw [List.mem_singleton] at hc; subst hc; exact ⟨k, by omega, hb⟩
    · rintro ⟨h1, h2⟩
      rcases List.eq_nil_or_concat t with rfl | ⟨t', b, rfl⟩
      · exact .inl ⟨.nil, fun b hb => by cases hb⟩
      · rw [List.concat_eq_append] at h1 h2 ⊢
        obtain ⟨p1, _, p3⟩ := List.pairwise_append.1 h1
        obtain ⟨j, hj, hb⟩ := h2 b (by simp)
        have eb := letB_part hb
        have hlt : ∀ a ∈ t', ∃ i : Nat, i < j ∧ a ∈ letB L bad ms f i := fun a ha => by
          obtain ⟨i, hi, q⟩ := h2 a (by simp [ha])
          have := letB_part q
          have := p3 a ha b (by simp)
          exact ⟨i, by omega, q⟩
        by_cases e : j = k
        · subst e
          exact .inr (List.mem_flatMap.2 ⟨b, hb, List.mem_map.2 ⟨t', (trl_mem j).2 ⟨p1, hlt⟩, rfl⟩⟩)
        · refine .inl ⟨h1, fun c hc => ?_⟩
          rcases List.mem_append.1 hc with hc | hc
          · obtain ⟨i, a, c⟩ := hlt c hc; exact ⟨i, by omega, c⟩
          · rw [List.mem_singleton] at hc; subst hc; exact ⟨j, by omega, hb⟩
theorem letB_nodup {k : Nat} : (letB L bad ms f k).Nodup := (brkN_nodup _).1.filter _
theorem trl_nodup : ∀ k, (trl L bad ms f k).Nodup
  | 0 => by simp [trl]
  | k + 1 => by
    rw [trl, List.nodup_append]
    refine ⟨trl_nodup k, ?_, ?_⟩
    · rw [List.Nodup, List.pairwise_flatMap]
      refine ⟨fun b _ => ?_, ?_⟩
      · refine List.Pairwise.map _ (S := fun a b : List Brk => a ≠ b) ?_ (trl_nodup k)
        intro a c hac e
        exact hac (List.append_inj_left' e rfl)
      · refine List.Pairwise.imp ?_ (letB_nodup (L := L) (bad := bad) (ms := ms) (f := f) (k := k))
        intro a b hab x hx y hy e
        obtain ⟨t, _, rfl⟩ := List.mem_map.1 hx
        obtain ⟨u, _, rfl⟩ := List.mem_map.1 hy
        have := List.append_inj_right' e rfl
        simp only [List.cons.injEq, and_true] at this
        exact hab this
    · intro t ht u hu e
      subst e
      obtain ⟨b, hb, h⟩ := List.mem_flatMap.1 hu
      obtain ⟨t', ht', rfl⟩ := List.mem_map.1 h
      obtain ⟨j, hj, q⟩ := ((trl_mem k).1 ht).2 b (by simp)
      have := letB_part hb
      have := letB_part q
      omega
end
section
variable {L : Lom} {o : List Int} {f : Brk → Nat → Bool}
/-- The desk's truths: those that spoil no good sight, of breaks that are let. -/
def trD (L : Lom) (o : List Int) (f : Brk → Nat → Bool) (t : List Brk) : Prop := truOk L t ∧ ∀ b ∈ t, clean L o b ∧ f b (bits L (deskN L o).1 b) = true
theorem trl_desk {t : List Brk} (hc : chkM L = 0) (ho : ∀ i ∈ o, 0 ≤ i ∧ i < (L.ss.length : Int)) : t ∈ trl L (deskN L o).1 (deskN L o).2 f L.ps.length ↔ trD L o f t := by
  rw [trl_mem]
  constructor
  · rintro ⟨h1, h2⟩
    have h3 : ∀ b ∈ t, brkOk L b ∧ clean L o b ∧ f b (bits L (deskN L o).1 b) = true := fun b hb => by
      obtain ⟨j, hj, q⟩ := h2 b hb
      obtain ⟨q1, q2⟩ := letB_mem.1 q
      exact ⟨((brkL_clean hc ho hj).1 q1).2.1, ((brkL_clean hc ho hj).1 q1).2.2, q2⟩
    exact ⟨⟨h1, fun b hb => (h3 b hb).1⟩, fun b hb => (h3 b hb).2⟩
  · rintro ⟨⟨h1, h2⟩, h3⟩
    refine ⟨h1, fun b hb => ?_⟩
    obtain ⟨k1, k2, k3, k4, k5⟩ := h2 b hb
    have hj : b.1.toNat < L.ps.length := by omega
    exact ⟨b.1.toNat, hj, letB_mem.2 ⟨(brkL_clean hc ho hj).2 ⟨by omega, h2 b hb, (h3 b hb).1⟩, (h3 b hb).2⟩⟩
/-- For each set of bad sights: how many truths explain just these, and a shortest one. -/
theorem way_truths (hc : chkM L = 0) (ho : ∀ i ∈ o, 0 ≤ i ∧ i < (L.ss.length : Int)) {S : Nat} (hS : S < 2 ^ (deskN L o).1.length) : ∃ ts : List (List Brk), ts.Nodup ∧ (∀ t, t ∈ ts ↔ trD L o f t ∧ orB L (deskN L o).1 t = S) ∧
    ((wayA L (deskN L o).1 (deskN L o).2 f).getD S wy0).1 = ts.length ∧ (((wayA L (deskN L o).1 (deskN L o).2 f).getD S wy0).1 ≠ 0 → ((wayA L (deskN L o).1 (deskN L o).2 f).getD S wy0).2 ∈ ts ∧ ∀ t ∈ ts, ((wayA L (deskN L o).1 (deskN L o).2 f).getD S wy0).2.length ≤ t.length) := by
  have hw := (wayN_trs (L := L) (bad := (deskN L o).1) (ms := (deskN L o).2) (f := f) L.ps.length).2 S hS
  rw [trs_trl] at hw
  have hm : ∀ t, t ∈ (trl L (deskN L o).1 (deskN L o).2 f L.ps.length).filter (fun t => orB L (deskN L o).1 t == S) ↔ trD L o f t ∧ orB L (deskN L o).1 t = S := fun t => by
    rw [List.mem_filter, trl_desk hc ho, beq_iff_eq]
  refine ⟨(trl L (deskN L o).1 (deskN L o).2 f L.ps.length).filter fun t => orB L (deskN L o).1 t == S, (trl_nodup _).filter _, hm, ?_, ?_⟩
  · refine hw.1.trans ?_
    rw [List.filter_map, List.length_map]
    rfl
  · intro h
    obtain ⟨⟨u, hu, e1, e2⟩, h2⟩ := hw.2 h
    obtain ⟨t, ht, rfl⟩ := List.mem_map.1 hu
    refine ⟨?_, fun t ht => ?_⟩
    · show ((wayN L (deskN L o).1 (deskN L o).2 f L.ps.length).getD S wy0).2 ∈ _
      rw [← e2, List.mem_filter]
      exact ⟨ht, by simpa using e1⟩
    · have h3 := List.mem_filter.1 ht
      exact h2 (t, orB L (deskN L o).1 t) (List.mem_map.2 ⟨t, h3.1, rfl⟩) (by simpa using h3.2)
theorem xp_desk {t : List Brk} (ho : ∀ i ∈ o, 0 ≤ i ∧ i < (L.ss.length : Int)) : (trD L o f t ∧ orB L (deskN L o).1 t = 2 ^ (deskN L o).1.length - 1) ↔ Xp L o t ∧ ∀ b ∈ t, f b (bits L (deskN L o).1 b) = true := by
  constructor
  · rintro ⟨⟨h1, h2⟩, h3⟩
    have h4 := (orB_full h1.2).1 h3
    refine ⟨⟨h1, fun i hi => ⟨fun ⟨b, hb, q⟩ => ?_, fun q => ?_⟩⟩, fun b hb => (h2 b hb).2⟩
    · cases hbi : badI L i with
      | true => rfl
      | false => exact absurd q ((h2 b hb).1 i hi hbi)
    · exact h4 i (by rw [deskN_bad ho]; exact List.mem_filter.2 ⟨hi, q⟩)
  · rintro ⟨⟨h1, h2⟩, h3⟩
    refine ⟨⟨h1, fun b hb => ⟨fun i hi q ht => ?_, h3 b hb⟩⟩, (orB_full h1.2).2 fun i hi => ?_⟩
    · have := (h2 i hi).1 ⟨b, hb, ht⟩
      rw [q] at this
      cases this
    · rw [deskN_bad ho] at hi
      have := List.mem_filter.1 hi
      exact (h2 i this.1).2 this.2
/-- What the desk says of all truths that explain some sights. -/
theorem exp_truths (hc : chkM L = 0) (ho : ∀ i ∈ o, 0 ≤ i ∧ i < (L.ss.length : Int)) : ∃ ts : List (List Brk), ts.Nodup ∧ (∀ t, t ∈ ts ↔ Xp L o t ∧ ∀ b ∈ t, f b (bits L (deskN L o).1 b) = true) ∧
    (expM L (deskN L o).1 (deskN L o).2 f).1 = ts.length ∧ ((expM L (deskN L o).1 (deskN L o).2 f).1 ≠ 0 → (expM L (deskN L o).1 (deskN L o).2 f).2 ∈ ts ∧ ∀ t ∈ ts, (expM L (deskN L o).1 (deskN L o).2 f).2.length ≤ t.length) := by
  have h2 : 0 < 2 ^ (deskN L o).1.length := Nat.two_pow_pos _
  obtain ⟨ts, a, b, c⟩ := way_truths (f := f) hc ho (S := 2 ^ (deskN L o).1.length - 1) (by omega)
  exact ⟨ts, a, fun t => (b t).trans (xp_desk ho), c⟩
theorem exp_none (hc : chkM L = 0) (ho : ∀ i ∈ o, 0 ≤ i ∧ i < (L.ss.length : Int)) : (expM L (deskN L o).1 (deskN L o).2 f).1 = 0 ↔ ∀ t, Xp L o t → ∃ b ∈ t, f b (bits L (deskN L o).1 b) = false := by
  obtain ⟨ts, a, b, c, _⟩ := exp_truths (f := f) hc ho
  rw [c, List.length_eq_zero_iff]
  constructor
  · rintro rfl t ht
    refine Classical.byContradiction fun q => ?_
    have := (b t).2 ⟨ht, fun x hx => by
      cases h : f x (bits L (deskN L o).1 x) with
      | true => rfl
      | false => exact absurd ⟨x, hx, h⟩ q⟩
    cases this
  · intro h
    rw [List.eq_nil_iff_forall_not_mem]
    intro t ht
    obtain ⟨h1, h2⟩ := (b t).1 ht
    obtain ⟨x, hx, q⟩ := h t h1
    rw [h2 x hx] at q
    cases q
end
/-- All sights. -/
abbrev allI (L : Lom) : List Int := upto L.ss.length
theorem allI_ok {L : Lom} : ∀ i ∈ allI L, 0 ≤ i ∧ i < (L.ss.length : Int) := fun i hi => upto_mem.1 hi
/-- The truths of a loom. -/
def XpA (L : Lom) (t : List Brk) : Prop := Xp L (allI L) t
end Go.AM
/-
  Plain: what each answer says of the truths.
-/
namespace Go.AM
theorem expA_none {L : Lom} {f : Brk → Nat → Bool} (hc : chkM L = 0) : (expA L f).1 = 0 ↔ ∀ t, XpA L t → ∃ b ∈ t, f b (bits L (deskA L).1 b) = false := exp_none hc allI_ok
theorem expA_some {L : Lom} {f : Brk → Nat → Bool} (hc : chkM L = 0) (h : (expA L f).1 ≠ 0) : (XpA L (expA L f).2 ∧ ∀ b ∈ (expA L f).2, f b (bits L (deskA L).1 b) = true) ∧ ∀ t, XpA L t → (∀ b ∈ t, f b (bits L (deskA L).1 b) = true) → (expA L f).2.length ≤ t.length := by
  obtain ⟨ts, _, b, _, d⟩ := exp_truths (f := f) hc (allI_ok (L := L))
  obtain ⟨d1, d2⟩ := d h
  exact ⟨(b _).1 d1, fun t h1 h2 => d2 t ((b t).2 ⟨h1, h2⟩)⟩
theorem expA_all {L : Lom} (hc : chkM L = 0) : (expA L allF).1 = 0 ↔ ¬ ∃ t, XpA L t := by
  rw [expA_none hc]
  constructor
  · rintro h ⟨t, ht⟩; obtain ⟨b, _, q⟩ := h t ht; simp [allF] at q
  · intro h t ht; exact absurd ⟨t, ht⟩ h
/-- told. -/
theorem tolE_val {L : Lom} (hc : chkM L = 0) {t : List Brk} (ht : XpA L t) {b : Bool} : tolE L b = if b = true then 1 else 0 := by
  unfold tolE
  rw [if_neg (by simp [hc])]
  split
  · rfl
  · rw [if_neg fun h => (expA_all hc).1 h ⟨t, ht⟩]
/-- Fewest. -/
theorem fewM_truth {L : Lom} (hc : chkM L = 0) {t : List Brk} (ht : XpA L t) : (fewM L).2 = 0 ∧ XpA L (fewM L).1 ∧ ∀ u, XpA L u → (fewM L).1.length ≤ u.length := by
  have h0 : (expA L allF).1 ≠ 0 := fun h => (expA_all hc).1 h ⟨t, ht⟩
  obtain ⟨⟨a, _⟩, b⟩ := expA_some hc h0
  unfold fewM
  rw [tolE_val hc ht]
  exact ⟨rfl, a, fun u hu => b u hu (fun _ _ => rfl)⟩
/-- Must. -/
theorem mstM_mem {L : Lom} (hc : chkM L = 0) {t : List Brk} (ht : XpA L t) : (mstM L).2 = 0 ∧ ∀ k, k ∈ (mstM L).1 ↔ (0 ≤ k ∧ k < (L.ps.length : Int)) ∧ ∀ t, XpA L t → ∃ b ∈ t, b.1 = k := by
  unfold mstM
  rw [tolE_val hc ht]
  refine ⟨rfl, fun k => ?_⟩
  show k ∈ selN _ _ _ ↔ _
  rw [selN_mem]
  have key : ∀ i : Nat, (decide ((expA L (mstF i)).1 = 0) = true ↔ ∀ t, XpA L t → ∃ b ∈ t, b.1 = (i : Int)) := fun i => by
    rw [decide_eq_true_eq, expA_none hc]
    simp only [mstF, decide_eq_false_iff_not, Decidable.not_not]
  constructor
  · rintro ⟨i, h1, h2, rfl⟩; exact ⟨by omega, (key i).1 h2⟩
  · rintro ⟨h1, h2⟩; exact ⟨k.toNat, by omega, (key _).2 (by rw [show ((k.toNat : Nat) : Int) = k by omega]; exact h2), by omega⟩
/-- A break of a part lasts at a throw. -/
def lst4 (t : List Brk) (k x : Int) : Prop := ∃ b ∈ t, b.1 = k ∧ b.2.1 ≤ x ∧ x ≤ b.2.2
/-! ### One break more -/
/-- A break is laid among the others. -/
def layB (t : List Brk) (b : Brk) : List Brk := t.filter (fun c => decide (c.1 < b.1)) ++ b :: t.filter (fun c => decide (b.1 < c.1))
/-! ### Can -/
/-! ### Whose it is -/
/-- A break of the weaver's spoils a spot of a sight. -/
def wvT (L : Lom) (t : List Brk) (s : Sgt) : Prop := ∃ b ∈ t, (prtOf L b).wv = true ∧ tch L b s
/-! ### Apart -/
/-- Two sights are apart. -/
def aprT (L : Lom) (a b : Int) : Prop := ∀ x, brkOk L x → clean L (allI L) x → ¬ (tch L x (sgtI L a) ∧ tch L x (sgtI L b))
/-! ### Excluded, Left -/
end Go.AM
/-
  Plain: lists in their order; as many sights as can be that are apart; as few as can be that clash.
-/
namespace Go.AM
theorem upto_sorted (n : Nat) : (upto n).Pairwise (· < ·) := by
  unfold upto
  rw [List.pairwise_iff_getElem]
  intro i j hi hj hij
  have e : ∀ k, (hk : k < (lst (fun i : Nat => (i : Int)) n).length) → (lst (fun i : Nat => (i : Int)) n)[k] = (k : Int) := fun k hk => by simp [lst]
  rw [e, e]; omega
/-- Each is with one that no other is with. -/
theorem pigeon {α β : Type} [DecidableEq β] {R : α → β → Prop} : ∀ {l : List α} {t : List β}, l.Nodup → (∀ a ∈ l, ∃ b ∈ t, R a b) → (∀ a ∈ l, ∀ c ∈ l, ∀ b ∈ t, R a b → R c b → a = c) → l.length ≤ t.length
  | [], t, _, _, _ => by simp
  | a :: l, t, hn, h1, h2 => by
    obtain ⟨b, hb, hab⟩ := h1 a (by simp)
    rw [List.nodup_cons] at hn
    have := pigeon (R := R) (l := l) (t := t.erase b) hn.2 (fun c hc => by
      obtain ⟨d, hd, hcd⟩ := h1 c (List.mem_cons_of_mem _ hc)
      have hne : d ≠ b := fun e => by
        subst e
        have := h2 a (by simp) c (List.mem_cons_of_mem _ hc) d hd hab hcd
        subst this
        exact hn.1 hc
      exact ⟨d, (List.mem_erase_of_ne hne).2 hd, hcd⟩) (fun c hc d hd b' hb' => h2 c (List.mem_cons_of_mem _ hc) d (List.mem_cons_of_mem _ hd) b' (List.mem_of_mem_erase hb'))
    rw [List.length_erase_of_mem hb] at this
    have hp : 0 < t.length := List.length_pos_of_mem hb
    simp only [List.length_cons]; omega
end Go.AM
