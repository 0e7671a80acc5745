/-
  Plain: ways count truths, and keep a shortest one.
-/
import Derived.Test.YtlhmeoeamcgcmaaGreatG2
import Derived.Test.YtlhmeoeamcgcmaaGreatG3
set_option linter.unusedSimpArgs false
set_option linter.unusedVariables false
namespace Go.AM
/-- A list of breaks, and the sights that they explain. -/
abbrev Tru := List Brk × Nat
/-- A list of ways counts a list of truths, and keeps a shortest one. -/
def Ws (n : Nat) (l : List Way) (ts : List Tru) : Prop := l.length = n ∧ ∀ S, S < n →
  (l.getD S wy0).1 = (ts.filter fun t => t.2 == S).length ∧
  ((l.getD S wy0).1 ≠ 0 → (∃ t ∈ ts, t.2 = S ∧ t.1 = (l.getD S wy0).2) ∧ ∀ t ∈ ts, t.2 = S → (l.getD S wy0).2.length ≤ t.1.length)
def putB (b : Brk) (x : Nat) (t : Tru) : Tru := (t.1 ++ [b], t.2 ||| x)
def oneB (f : Brk → Nat → Bool) (ts : List Tru) (q : Brk × Nat) : List Tru := if f q.1 q.2 = true then ts.map (putB q.1 q.2) else []
/-- The truths whose breaks are of the first k parts. -/
def trs (L : Lom) (bad : List Int) (ms : List (List Bool)) (f : Brk → Nat → Bool) : Nat → List Tru
  | 0 => [([], 0)]
  | k + 1 => trs L bad ms f k ++ (made L bad ms k).flatMap (oneB f (trs L bad ms f k))
/-- The lists of breaks alone. -/
def orB (L : Lom) (bad : List Int) (t : List Brk) : Nat := t.foldl (fun a b => a ||| bits L bad b) 0
/-- The breaks of a part that are let. -/
def letB (L : Lom) (bad : List Int) (ms : List (List Bool)) (f : Brk → Nat → Bool) (k : Nat) : List Brk := (brkL k (ms.getD k []) L.T.toNat).filter fun b => f b (bits L bad b)
def trl (L : Lom) (bad : List Int) (ms : List (List Bool)) (f : Brk → Nat → Bool) : Nat → List (List Brk)
  | 0 => [[]]
  | k + 1 => trl L bad ms f k ++ (letB L bad ms f k).flatMap fun b => (trl L bad ms f k).map (· ++ [b])
end Go.AM
/-
  Plain: what a truth is, what it spoils, and what the marks and the bits say.
-/
namespace Go.AM
/-! ### Breaks that spoil a spot of a sight -/
theorem thr_mem {each ph : Int} {a : Nat} {t : Int} : ∀ {n : Nat}, t ∈ thr each ph a n ↔ (a : Int) ≤ t ∧ t < (a : Int) + n ∧ t.tmod each = ph
  | 0 => by simp only [thr, List.not_mem_nil, false_iff]; omega
  | n + 1 => by
    rw [thr, List.mem_append, thr_mem (n := n)]
    constructor
    · rintro (h | h)
      · exact ⟨h.1, by omega, h.2.2⟩
      · split at h
        · rename_i q; rw [List.mem_singleton] at h; subst h; exact ⟨by omega, by omega, q⟩
        · cases h
    · rintro ⟨h1, h2, h3⟩
      by_cases e : t = ((a + n : Nat) : Int)
      · subst e; exact .inr (by rw [if_pos h3]; simp)
      · exact .inl ⟨h1, by omega, h3⟩
theorem spotsN_mem {p : Prt} {a n : Nat} {x : Int × Int} : x ∈ spotsN p a n ↔ x.1 ∈ p.rib ∧ (a : Int) ≤ x.2 ∧ x.2 < (a : Int) + n ∧ x.2.tmod p.each = p.ph := by
  unfold spotsN
  rw [List.mem_flatMap]
  constructor
  · rintro ⟨r, hr, h⟩
    obtain ⟨t, ht, rfl⟩ := List.mem_map.1 h
    exact ⟨hr, thr_mem.1 ht⟩
  · rintro ⟨h1, h2⟩
    exact ⟨x.1, h1, List.mem_map.2 ⟨x.2, thr_mem.2 h2, rfl⟩⟩
/-- The part of a break. -/
def prtOf (L : Lom) (b : Brk) : Prt := L.ps.getD b.1.toNat prt0
theorem spo_mem {L : Lom} {b : Brk} {x : Int × Int} (h0 : 0 ≤ b.2.1) (h1 : b.2.1 ≤ b.2.2 + 1) : x ∈ spo L b ↔ x.1 ∈ (prtOf L b).rib ∧ b.2.1 ≤ x.2 ∧ x.2 ≤ b.2.2 ∧ x.2.tmod (prtOf L b).each = (prtOf L b).ph := by
  unfold spo
  rw [spotsN_mem]
  unfold prtOf
  constructor
  · rintro ⟨a, b, c, d⟩; exact ⟨a, by omega, by omega, d⟩
  · rintro ⟨a, b, c, d⟩; exact ⟨a, by omega, by omega, d⟩
/-- A break spoils a spot of a sight. -/
def tch (L : Lom) (b : Brk) (s : Sgt) : Prop := s.rib ∈ (prtOf L b).rib ∧ ∃ t : Int, b.2.1 ≤ t ∧ t ≤ b.2.2 ∧ s.lo ≤ t ∧ t ≤ s.hi ∧ t.tmod (prtOf L b).each = (prtOf L b).ph
theorem any_has {L : Lom} {b : Brk} {s : Sgt} (h0 : 0 ≤ b.2.1) (h1 : b.2.1 ≤ b.2.2 + 1) : (spo L b).any (hasB s) = true ↔ tch L b s := by
  rw [List.any_eq_true]
  constructor
  · rintro ⟨x, hx, h⟩
    have h := of_decide_eq_true h
    obtain ⟨a, c, d, e⟩ := (spo_mem h0 h1).1 hx
    exact ⟨h.1 ▸ a, x.2, c, d, h.2.1, h.2.2, e⟩
  · rintro ⟨a, t, c, d, e, f, g⟩
    exact ⟨(s.rib, t), (spo_mem h0 h1).2 ⟨a, c, d, g⟩, decide_eq_true ⟨rfl, e, f⟩⟩
def sgtI (L : Lom) (i : Int) : Sgt := L.ss.getD i.toNat sgt0
/-! ### Truths -/
/-- A break of a loom. -/
def brkOk (L : Lom) (b : Brk) : Prop := 0 ≤ b.1 ∧ b.1 < (L.ps.length : Int) ∧ 0 ≤ b.2.1 ∧ b.2.1 ≤ b.2.2 ∧ b.2.2 < L.T
theorem brkM_iff {L : Lom} {b : Brk} : brkM L b = 0 ↔ brkOk L b := by
  constructor
  · intro h; have := brkM_ok h; exact ⟨this.1.1, this.1.2, this.2.1.1, this.2.2.2, by omega⟩
  · rintro ⟨h1, h2, h3, h4, h5⟩
    unfold brkM
    rw [if_neg (by omega), if_neg (by omega)]
/-- Breaks are a truth. -/
def truOk (L : Lom) (t : List Brk) : Prop := t.Pairwise (fun a b => a.1 < b.1) ∧ ∀ b ∈ t, brkOk L b
theorem getD_at {α : Type} {l : List α} {d : α} {i : Nat} (h : i < l.length) : l.getD i d = l[i] := by rw [List.getD_eq_getElem?_getD, List.getElem?_eq_getElem h]; rfl
/-- A truth spoils a spot of a sight. -/
def bdT (L : Lom) (t : List Brk) (s : Sgt) : Prop := ∃ b ∈ t, tch L b s
/-- A truth explains some sights. -/
def Xp (L : Lom) (o : List Int) (t : List Brk) : Prop := truOk L t ∧ ∀ i ∈ o, (bdT L t (sgtI L i) ↔ badI L i = true)
/-! ### Marks -/
/-- A good sight excludes a part at a throw. -/
def exclI (L : Lom) (k t : Nat) (i : Int) : Prop := badI L i = false ∧ (sgtI L i).lo ≤ (t : Int) ∧ (t : Int) ≤ (sgtI L i).hi ∧ (t : Int).tmod (L.ps.getD k prt0).each = (L.ps.getD k prt0).ph ∧ (sgtI L i).rib ∈ (L.ps.getD k prt0).rib
/-! ### Breaks that nothing excludes -/
/-- A break spoils no good sight of a list. -/
def clean (L : Lom) (o : List Int) (b : Brk) : Prop := ∀ i ∈ o, badI L i = false → ¬ tch L b (sgtI L i)
/-! ### Bits -/
end Go.AM
/-
  Plain: what the desk says is what the truths say.
-/
namespace Go.AM
section
variable {L : Lom} {bad : List Int} {ms : List (List Bool)} {f : Brk → Nat → Bool}
end
section
variable {L : Lom} {o : List Int} {f : Brk → Nat → Bool}
/-- The desk's truths: those that spoil no good sight, of breaks that are let. -/
def trD (L : Lom) (o : List Int) (f : Brk → Nat → Bool) (t : List Brk) : Prop := truOk L t ∧ ∀ b ∈ t, clean L o b ∧ f b (bits L (deskN L o).1 b) = true
end
/-- All sights. -/
abbrev allI (L : Lom) : List Int := upto L.ss.length
/-- The truths of a loom. -/
def XpA (L : Lom) (t : List Brk) : Prop := Xp L (allI L) t
end Go.AM
/-
  Plain: what each answer says of the truths.
-/
namespace Go.AM
/-- A break of a part lasts at a throw. -/
def lst4 (t : List Brk) (k x : Int) : Prop := ∃ b ∈ t, b.1 = k ∧ b.2.1 ≤ x ∧ x ≤ b.2.2
/-! ### One break more -/
/-- A break is laid among the others. -/
def layB (t : List Brk) (b : Brk) : List Brk := t.filter (fun c => decide (c.1 < b.1)) ++ b :: t.filter (fun c => decide (b.1 < c.1))
/-! ### Can -/
/-! ### Whose it is -/
/-- A break of the weaver's spoils a spot of a sight. -/
def wvT (L : Lom) (t : List Brk) (s : Sgt) : Prop := ∃ b ∈ t, (prtOf L b).wv = true ∧ tch L b s
/-! ### Apart -/
/-- Two sights are apart. -/
def aprT (L : Lom) (a b : Int) : Prop := ∀ x, brkOk L x → clean L (allI L) x → ¬ (tch L x (sgtI L a) ∧ tch L x (sgtI L b))
/-! ### Excluded, Left -/
end Go.AM
/-
  Plain: lists in their order; as many sights as can be that are apart; as few as can be that clash.
-/
namespace Go.AM
theorem upto_sorted (n : Nat) : (upto n).Pairwise (· < ·) := by
  unfold upto
  rw [List.pairwise_iff_getElem]
  intro i j hi hj hij
  have e : ∀ k, (hk : k < (lst (fun i : Nat => (i : Int)) n).length) → (lst (fun i : Nat => (i : Int)) n)[k] = (k : Int) := fun k hk => by simp [lst]
  rw [e, e]; omega
/-- Each is with one that no other is with. -/
theorem pigeon {α β : Type} [DecidableEq β] {R : α → β → Prop} : ∀ {l : List α} {t : List β}, l.Nodup → (∀ a ∈ l, ∃ b ∈ t, R a b) → (∀ a ∈ l, ∀ c ∈ l, ∀ b ∈ t, R a b → R c b → a = c) → l.length ≤ t.length
  | [], t, _, _, _ => by simp
  | a :: l, t, hn, h1, h2 => by
    obtain ⟨b, hb, hab⟩ := h1 a (by simp)
    rw [List.nodup_cons] at hn
    have := pigeon (R := R) (l := l) (t := t.erase b) hn.2 (fun c hc => by
      obtain ⟨d, hd, hcd⟩ := h1 c (List.mem_cons_of_mem _ hc)
      have hne : d ≠ b := fun e => by
        subst e
        have := h2 a (by simp) c (List.mem_cons_of_mem _ hc) d hd hab hcd
        subst this
        exact hn.1 hc
      exact ⟨d, (List.mem_erase_of_ne hne).2 hd, hcd⟩) (fun c hc d hd b' hb' => h2 c (List.mem_cons_of_mem _ hc) d (List.mem_cons_of_mem _ hd) b' (List.mem_of_mem_erase hb'))
    rw [List.length_erase_of_mem hb] at this
    have hp : 0 < t.length := List.length_pos_of_mem hb
    simp only [List.length_cons]; omega
end Go.AM
