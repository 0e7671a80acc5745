/-
  Contracts: the throws that exclude a plan.
-/
import Derived.Test.YtppkmjfplhenmaaD234
set_option linter.unusedSimpArgs false
set_option linter.unusedVariables false
namespace Go.AM
open Go.Proofs.Try
theorem dschD5 {p : Prop} (h : p := by first | exact Nat.ne_of_beq_eq_false rfl | assumption | (apply asOne; (first | exact One.int | exact One.bool | exact newV_one | exact grV_one | exact cloneV_one | exact takF_one | assumption | exact Ints.one (by assumption) | exact One.lit ⟨rfl, rfl, rfl⟩)) | (apply asInts; (repeat first | assumption | (apply newV_ints' <;> first | assumption | (first | rfl | (simp only [List.length_append, List.length_cons, List.length_nil, List.length_set]; done) | (simp only [List.length_append, List.length_cons, List.length_nil, List.length_set]; omega))) | (apply grV_ints <;> first | assumption | (first | rfl | (simp only [List.length_append, List.length_cons, List.length_nil, List.length_set]; done) | (simp only [List.length_append, List.length_cons, List.length_nil, List.length_set]; omega))) | apply Ints.app); done) | (apply asTak; (repeat first | assumption | (refine TakAt.new ?_; (first | rfl | (simp only [List.length_append, List.length_cons, List.length_nil, List.length_set]; done) | (simp only [List.length_append, List.length_cons, List.length_nil, List.length_set]; omega))) | apply TakAt.app); done) | (apply asScal; (first | apply allS1 | apply allS2 | apply allS3 | apply allS4) <;> (first | exact One.int | exact One.bool | exact newV_one | exact grV_one | exact cloneV_one | exact takF_one | assumption | exact Ints.one (by assumption) | exact One.lit ⟨rfl, rfl, rfl⟩)) | exact litT rfl | exact litF rfl | omega | (simp only [List.length_append, List.length_cons, List.length_nil, lst_len, List.length_set, ints_length, List.length_reverse]; first | done | omega) | fail) : p := h

/-- The first number that is so. -/
def findI (p : Nat → Bool) (n : Nat) : Option Nat := (List.range n).find? p
theorem findI_some {p : Nat → Bool} {n t : Nat} (ht : t < n) (hp : p t = true) (hb : ∀ j, j < t → p j = false) : findI p n = some t := by
  rw [findI, List.find?_range_eq_some]
  exact ⟨hp, by simpa using ht, fun j hj => by simp [hb j hj]⟩
theorem findI_none {p : Nat → Bool} {n : Nat} (hb : ∀ j, j < n → p j = false) : findI p n = none := by
  rw [findI, List.find?_eq_none]
  intro j hj
  simp [hb j (by simpa using hj)]
theorem findI_is {p : Nat → Bool} {n t : Nat} (h : findI p n = some t) : t < n ∧ p t = true ∧ ∀ j, j < t → p j = false := by
  rw [findI, List.find?_range_eq_some] at h
  exact ⟨by simpa using h.2.1, h.1, fun j hj => by simpa using h.2.2 j hj⟩
theorem findI_not {p : Nat → Bool} {n : Nat} (h : findI p n = none) : ∀ j, j < n → p j = false := by
  rw [findI, List.find?_eq_none] at h
  intro j hj
  simpa using h j (by simpa using hj)

theorem cardN_small {k n t : Nat} (h : t < n) : cardN k n t = t := by
  unfold cardN
  split
  · exact Nat.mod_eq_of_lt h
  · split
    · rename_i h2
      by_cases e : t < 2 * n - 2
      · rw [Nat.mod_eq_of_lt e]; omega
      · have : n = 1 ∨ t = 2 * n - 2 := by omega
        omega
    · exact Nat.mod_eq_of_lt h
theorem moveN_small {k n s w t : Nat} (h : t < n) : moveN k n s w t = 0 := by
  unfold moveN
  split
  · rw [Nat.div_eq_of_lt h]; simp
  · rfl

/-- Does a throw differ from what the plan weaves? -/
def offN (w : Nat) (l : List Int) (k n s t : Nat) : Bool := decide (((rotN (l.getD (cardN k n t) 0).toNat (moveN k n s w t) w : Nat) : Int) ≠ l.getD t 0)
/-- card.desk.first. -/
def firstS (w : Nat) (l : List Int) (k n s : Nat) : Nat × Nat × Bool :=
  match findI (offN w l k n s) l.length with | some t => (cardN k n t, t, true) | none => (0, 0, false)

theorem rot0 {x w : Nat} (h : x < 2 ^ w) : rotN x 0 w = x := by
  unfold rotN
  rw [Nat.pow_zero, Nat.mul_one, Nat.mod_eq_of_lt h, Nat.sub_zero, Nat.div_eq_of_lt h]; rfl
theorem off_small {w : Nat} {l : List Int} {k n s t : Nat} (ht : t < n) (hl : 0 ≤ l.getD t 0 ∧ l.getD t 0 ≤ 2 ^ w - 1) : offN w l k n s t = false := by
  unfold offN
  have e : (2 : Int) ^ w = ((2 ^ w : Nat) : Int) := by simp
  rw [cardN_small ht, moveN_small ht, rot0 (by omega)]
  simp
  have e2 : l[t]?.getD 0 = l.getD t 0 := by simp [List.getD_eq_getElem?_getD]
  omega

theorem run89 {base : Nat} {h : Heap} {v : AVal} {l : List Int} {w k n s : Int} (hI : Ints h v l) (hc : chk w l = 0) (hk : 0 ≤ k ∧ k ≤ 2) (hs : 0 ≤ s ∧ s ≤ 1000) (hn : 1 ≤ n ∧ n ≤ l.length) :
    callL prog raw base (.fn 89 [] []) [pap w v, pln k n s] h = some (.tuple [.int .i64 ((firstS w.toNat l k.toNat n.toNat s.toNat).1 : Nat), .int .i64 ((firstS w.toNat l k.toNat n.toNat s.toNat).2.1 : Nat), .bool (firstS w.toNat l k.toNat n.toNat s.toNat).2.2], h) := by
  obtain ⟨hw, hp, hx⟩ := chk_ok hc
  have hw' : 1 ≤ w ∧ w ≤ 1000 := by omega
  have hn' : 1 ≤ n ∧ n ≤ 1000 := by omega
  refine callL_run func89 rfl rfl ?_
  have hsp := @Nat.succ_ne_zero; repeat' (first | simp (disch := first | exact dschD5 | fail) only [go_sem, hsp, pap, pln, hc] | refine WP_drw ?_ | refine cnd_intro (fun hsp => ?_) fun hsp => ?_)
  refine WP_loop (fun σ => ∃ i : Nat, σ.fr 16 = .int .i64 (i : Int) ∧ σ.fr 0 = pap w v ∧ σ.fr 2 = .ptr (some ⟨h.length, 0, 0⟩) ∧ σ.fr 3 = .ptr (some ⟨h.length + 1, 0, 0⟩) ∧ σ.fr 7 = .ptr (some ⟨h.length + 2, 0, 0⟩) ∧ σ.h = h ++ [⟨.cells [.int .i64 w, v] 126 false false, 0⟩] ++ [⟨.cells [.int .i64 k, .int .i64 n, .int .i64 s] 124 false false, 0⟩] ++ [⟨.cells (ints (lst (fun c => if c < i then -1 else 0) 48)) 149 false false, 0⟩] ∧ i ≤ 48 ∧ (True)) (fun σ => match σ.fr 16 with | .int _ x => (((48 : Nat) : Int) - x).toNat | _ => 0) ?_ ?_
  · refine ⟨0, ?_, ?_, ?_, ?_, ?_, ?_, by omega, trivial⟩
    iterate 5 focus (first | rfl | (simp (disch := first | exact dschD5 | fail) only [go_sem, Int.natCast_zero]; first | done | rfl))
    dsimp only
    simp only [Nat.not_lt_zero, if_false]
  · rintro ⟨fr, hp⟩ ⟨i, r16, r0, r2, r3, r7, rh, hi, hP⟩
    dsimp only at r16 r0 r2 r3 r7 rh hi hP
    subst rh
    have hsp := @Nat.succ_ne_zero; repeat' (first | simp (disch := first | exact dschD5 | fail) only [go_sem, hsp, r16, r0, r2, r3, r7, pln] | refine WP_drw ?_ | refine cnd_intro (fun hsp => ?_) fun hsp => ?_)
    · refine ⟨⟨i + 1, by simp, ?_, by omega⟩, by omega⟩
      congr 5
      refine lst_congr fun c hcc => ?_
      by_cases e1 : c = i
      · rw [if_pos e1, if_pos (by omega)]
      · rw [if_neg e1]
        by_cases e2 : c < i
        · rw [if_pos e2, if_pos (by omega)]
        · rw [if_neg e2, if_neg (by omega)]
    · refine WP_loop (fun σ => ∃ t : Nat, σ.fr 31 = .int .i64 (t : Int) ∧ σ.fr 2 = .ptr (some ⟨h.length, 0, 0⟩) ∧ σ.fr 3 = .ptr (some ⟨h.length + 1, 0, 0⟩) ∧ σ.fr 7 = .ptr (some ⟨h.length + 2, 0, 0⟩) ∧ σ.fr 9 = .ptr (some ⟨h.length + 3 + (takH k n s w).length, 0, 0⟩) ∧ σ.fr 29 = v ∧ σ.fr 30 = .int .i64 l.length ∧ σ.h = h ++ [⟨.cells [.int .i64 w, v] 126 false false, 0⟩] ++ [⟨.cells [.int .i64 k, .int .i64 n, .int .i64 s] 124 false false, 0⟩] ++ [⟨.cells (ints (lst (fun c => if c < t ∧ c < n.toNat then (c : Int) else -1) 48)) 149 false false, 0⟩] ++ takH k n s w ++ [⟨.cells [takF k n (h.length + 3)] 137 false false, 0⟩] ∧ t ≤ l.length ∧ (∀ j, j < t → offN w.toNat l k.toNat n.toNat s.toNat j = false)) (fun σ => match σ.fr 31 with | .int _ x => (((l.length : Nat) : Int) - x).toNat | _ => 0) ?_ ?_
      · refine ⟨0, ?_, ?_, ?_, ?_, ?_, ?_, ?_, ?_, by omega, ?_⟩
        iterate 7 focus (first | rfl | (simp (disch := first | exact dschD5 | fail) only [go_sem, Int.natCast_zero, r2, r3, r7]; first | done | rfl))
        · dsimp only
          rw [show lst (fun c => if c < i then (-1 : Int) else 0) 48 = lst (fun c => if c < 0 ∧ c < n.toNat then (c : Int) else -1) 48 from lst_congr fun c hc => by rw [if_pos (by omega), if_neg (by omega)]]
        · intro j hj; omega
      · rintro ⟨fr, hp⟩ ⟨t, r31, r2, r3, r7, r9, r29, r30, rh, hi, hP⟩
        dsimp only at r31 r2 r3 r7 r9 r29 r30 rh hi hP
        subst rh
        have c1 := cardN_lt (k := k.toNat) (n := n.toNat) (t := t) (by omega)
        have c2 := moveN_lt (k := k.toNat) (n := n.toNat) (s := s.toNat) (w := w.toNat) (t := t) (by omega)
        have done : ∀ {H : Heap} {j : Nat}, ¬ (j : Int) < l.length → (∀ i, i < j → offN w.toNat l k.toNat n.toNat s.toNat i = false) → compact h.length (.tuple [.int .i64 0, .int .i64 0, .bool false]) (h ++ H) =
            some (.tuple [.int .i64 ((firstS w.toNat l k.toNat n.toNat s.toNat).1 : Nat), .int .i64 ((firstS w.toNat l k.toNat n.toNat s.toNat).2.1 : Nat), .bool (firstS w.toNat l k.toNat n.toNat s.toNat).2.2], h) := fun {H j} hj hb => by
          have e8 : firstS w.toNat l k.toNat n.toNat s.toNat = (0, 0, false) := by
            unfold firstS
            rw [findI_none fun i hi => hb i (by omega)]
          rw [e8]
          exact compact_plain rfl
        have off : t < n.toNat → ∀ j, j < t + 1 → offN w.toNat l k.toNat n.toNat s.toNat j = false := fun ht j hj => by
          by_cases x1 : j = t
          · subst x1
            exact off_small ht (by have := hx (l.getD j 0) (getD_mem (by omega)); simpa [List.getD_eq_getElem?_getD] using this)
          · exact hP j (by omega)
        by_cases ht : t < n.toNat
        · have e1 : cardN k.toNat n.toNat t = t := cardN_small ht
          have e2 : (if cardN k.toNat n.toNat t < t ∧ cardN k.toNat n.toNat t < n.toNat then ((cardN k.toNat n.toNat t : Nat) : Int) else -1) = -1 := if_neg (by omega)
          have hsp := @Nat.succ_ne_zero; repeat' (first | simp (disch := first | exact dschD5 | fail) only [go_sem, hsp, r31, r2, r3, r7, r9, r29, r30, pln, e2] | refine WP_drw ?_ | refine cnd_intro (fun hsp => ?_) fun hsp => ?_)
          · refine ⟨⟨t + 1, by simp, ?_, by omega, off ht⟩, by omega⟩
            congr 7
            refine lst_congr fun c hcc => ?_
            by_cases x1 : c = cardN k.toNat n.toNat t
            · rw [if_pos x1, if_pos (by omega), x1, e1]
            · rw [if_neg x1]
              by_cases x2 : c < t ∧ c < n.toNat
              · rw [if_pos x2, if_pos (by omega)]
              · rw [if_neg x2, if_neg (by omega)]
          · simp only [List.append_assoc]
            exact done (by omega) hP
        · have e2 : (if cardN k.toNat n.toNat t < t ∧ cardN k.toNat n.toNat t < n.toNat then ((cardN k.toNat n.toNat t : Nat) : Int) else -1) = ((cardN k.toNat n.toNat t : Nat) : Int) := if_pos (by omega)
          have e3 : (((cardN k.toNat n.toNat t : Nat) : Int) = -1) = False := eq_false (by omega)
          have e4 : moveN k.toNat n.toNat s.toNat w.toNat (cardN k.toNat n.toNat t) = 0 := moveN_small c1
          have e5 : ((moveN k.toNat n.toNat s.toNat w.toNat t : Nat) : Int) - 0 + w = ((moveN k.toNat n.toNat s.toNat w.toNat t + w.toNat : Nat) : Int) := by omega
          have e6 : (((moveN k.toNat n.toNat s.toNat w.toNat t + w.toNat : Nat) : Int)).tmod w = ((moveN k.toNat n.toNat s.toNat w.toNat t : Nat) : Int) := by
            rw [show w = ((w.toNat : Nat) : Int) by omega, tmodN]
            simp only [Int.toNat_natCast, Nat.add_mod_right, Nat.mod_eq_of_lt c2]
          have e7 := hx _ (getD_mem (l := l) (i := cardN k.toNat n.toNat t) (by omega))
          have hsp := @Nat.succ_ne_zero; repeat' (first | simp (disch := first | exact dschD5 | fail) only [go_sem, hsp, r31, r2, r3, r7, r9, r29, r30, pln, e2, e3, e4, e5, e6] | refine WP_drw ?_ | refine cnd_intro (fun hsp => ?_) fun hsp => ?_)
          · refine ⟨⟨t + 1, by simp, ?_, by omega, fun j hj => ?_⟩, by omega⟩
            · congr 7
              refine lst_congr fun c hcc => ?_
              by_cases x2 : c < t ∧ c < n.toNat
              · rw [if_pos x2, if_pos (by omega)]
              · rw [if_neg x2, if_neg (by omega)]
            · by_cases x1 : j = t
              · subst x1
                unfold offN
                simpa using ‹_›
              · exact hP j (by omega)
          · have e8 : firstS w.toNat l k.toNat n.toNat s.toNat = (cardN k.toNat n.toNat t, t, true) := by
              unfold firstS
              rw [findI_some (t := t) (by omega) (by unfold offN; simpa using ‹_›) hP]
            rw [e8]
            all_goals (first | refine fI ?_ | refine fB ?_ | refine fII ?_ ?_ | refine fBI ?_ ?_ | refine fIII ?_ ?_ ?_ | refine fIIB ?_ ?_ ?_ | skip); all_goals (try dsimp only); all_goals (try with_reducible rfl); all_goals (try omega)
          · simp only [List.append_assoc]
            exact done (by omega) hP
attribute [go_sem] run89
end Go.AM
