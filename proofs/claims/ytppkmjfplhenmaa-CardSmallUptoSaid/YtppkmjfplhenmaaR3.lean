/-
  Contracts of the reference: what excludes a plan, the fewest cards of a kind.
-/
import Derived.Test.YtppkmjfplhenmaaR2
set_option linter.unusedSimpArgs false
set_option linter.unusedVariables false
namespace Go.AM
open Go.Proofs.Try
theorem dschR3 {p : Prop} (h : p := by first | exact Nat.ne_of_beq_eq_false rfl | assumption | (apply asOne; (first | exact One.int | exact One.bool | exact newV_one | exact grV_one | exact cloneV_one | exact takF_one | assumption | exact Ints.one (by assumption) | exact One.lit ⟨rfl, rfl, rfl⟩)) | (apply asInts; (repeat first | assumption | (apply newV_ints' <;> first | assumption | (first | rfl | (simp only [List.length_append, List.length_cons, List.length_nil, List.length_set]; done) | (simp only [List.length_append, List.length_cons, List.length_nil, List.length_set]; omega))) | (apply grV_ints <;> first | assumption | (first | rfl | (simp only [List.length_append, List.length_cons, List.length_nil, List.length_set]; done) | (simp only [List.length_append, List.length_cons, List.length_nil, List.length_set]; omega))) | apply Ints.app); done) | (apply asScal; (first | apply allS1 | apply allS2 | apply allS3 | apply allS4) <;> (first | exact One.int | exact One.bool | exact newV_one | exact grV_one | exact cloneV_one | exact takF_one | assumption | exact Ints.one (by assumption) | exact One.lit ⟨rfl, rfl, rfl⟩)) | exact litT rfl | exact litF rfl | omega | (simp only [List.length_append, List.length_cons, List.length_nil, lst_len, List.length_set, ints_length, List.length_reverse]; first | done | omega) | fail) : p := h

/-- petershamref02.Exclude. -/
def exA (w : Nat) (l : List Int) (k n s b : Nat) : Option Nat := findI (fun a => exclsB w l k n s a b) b
def exB (w : Nat) (l : List Int) (k n s : Nat) : Option Nat := findI (fun b => (exA w l k n s b).isSome) l.length
def exR (w : Nat) (l : List Int) (k n s : Nat) : Nat × Nat × Bool :=
  match exB w l k n s with | some b => (match exA w l k n s b with | some a => (a, b, true) | none => (0, 0, false)) | none => (0, 0, false)

theorem run46 {base : Nat} {h : Heap} {v : AVal} {l : List Int} {w k n s : Int} (hI : Ints h v l) (hc : chk w l = 0) (hk : 0 ≤ k ∧ k ≤ 2) (hn : 1 ≤ n ∧ n ≤ l.length) (hs : 0 ≤ s ∧ s ≤ 1000) :
    callL prog raw base (.fn 46 [] []) [pap w v, .int .i64 k, .int .i64 n, .int .i64 s] h =
      some (.tuple [.int .i64 ((exR w.toNat l k.toNat n.toNat s.toNat).1 : Nat), .int .i64 ((exR w.toNat l k.toNat n.toNat s.toNat).2.1 : Nat), .bool (exR w.toNat l k.toNat n.toNat s.toNat).2.2], h) := by
  obtain ⟨hw, hp, hx⟩ := chk_ok hc
  refine callL_run func46 rfl rfl ?_
  have hsp := @Nat.succ_ne_zero; repeat' (first | simp (disch := first | exact dschR3 | fail) only [go_sem, hsp, pap] | refine WP_drw ?_ | refine cnd_intro (fun hsp => ?_) fun hsp => ?_)
  refine WP_loop (fun σ => ∃ b : Nat, σ.fr 11 = .int .i64 (b : Int) ∧ σ.fr 1 = .int .i64 k ∧ σ.fr 2 = .int .i64 n ∧ σ.fr 3 = .int .i64 s ∧ σ.fr 4 = .ptr (some ⟨h.length, 0, 0⟩) ∧ σ.h = h ++ [⟨.cells [.int .i64 w, v] 29 false false, 0⟩] ∧ b ≤ l.length ∧ (∀ j, j < b → (exA w.toNat l k.toNat n.toNat s.toNat j).isSome = false)) (fun σ => match σ.fr 11 with | .int _ x => (((l.length : Nat) : Int) - x).toNat | _ => 0) ?_ ?_
  · refine ⟨0, ?_, ?_, ?_, ?_, ?_, ?_, by omega, ?_⟩
    iterate 6 focus (first | rfl | (simp (disch := first | exact dschR3 | fail) only [go_sem, Int.natCast_zero]; first | done | rfl))
    intro j hj; omega
  · rintro ⟨fr, hp⟩ ⟨b, r11, r1, r2, r3, r4, rh, hi, hP⟩
    dsimp only at r11 r1 r2 r3 r4 rh hi hP
    subst rh
    have q11 := r11
    by_cases hbl : (b : Int) < l.length
    · have hbl' : ((b : Int) < l.length) = True := eq_true hbl
      have hsp := @Nat.succ_ne_zero; repeat' (first | simp (disch := first | exact dschR3 | fail) only [go_sem, hsp, r11, r1, r2, r3, r4, pap, hbl'] | refine WP_drw ?_ | refine cnd_intro (fun hsp => ?_) fun hsp => ?_)
      refine WP_loop (fun σ => ∃ a : Nat, σ.fr 12 = .int .i64 (a : Int) ∧ σ.fr 11 = .int .i64 b ∧ σ.fr 1 = .int .i64 k ∧ σ.fr 2 = .int .i64 n ∧ σ.fr 3 = .int .i64 s ∧ σ.fr 4 = .ptr (some ⟨h.length, 0, 0⟩) ∧ σ.h = h ++ [⟨.cells [.int .i64 w, v] 29 false false, 0⟩] ∧ a ≤ b ∧ (∀ j, j < a → exclsB w.toNat l k.toNat n.toNat s.toNat j b = false)) (fun σ => match σ.fr 12 with | .int _ x => (((b : Nat) : Int) - x).toNat | _ => 0) ?_ ?_
      · refine ⟨0, ?_, ?_, ?_, ?_, ?_, ?_, ?_, by omega, ?_⟩
        iterate 7 focus (first | rfl | (simp (disch := first | exact dschR3 | fail) only [go_sem, Int.natCast_zero, r11, r1, r2, r3, r4]; first | done | rfl))
        intro j hj; omega
      · rintro ⟨fr, hp⟩ ⟨a, r12, r11, r1, r2, r3, r4, rh, hi, hP⟩
        dsimp only at r12 r11 r1 r2 r3 r4 rh hi hP
        subst rh
        by_cases hab : (a : Int) < b
        · have hab' : ((a : Int) < b) = True := eq_true hab
          have ha : (0 : Int) ≤ a ∧ (a : Int) < l.length := by omega
          have hb : (0 : Int) ≤ b ∧ (b : Int) < l.length := by omega
          have hsp := @Nat.succ_ne_zero; repeat' (first | simp (disch := first | exact dschR3 | fail) only [go_sem, hsp, r12, r11, r1, r2, r3, r4, pap, hab'] | refine WP_drw ?_ | refine cnd_intro (fun hsp => ?_) fun hsp => ?_)
          · have e1 : exA w.toNat l k.toNat n.toNat s.toNat b = some a := findI_some (by omega) hsp hP
            have e2 : exB w.toNat l k.toNat n.toNat s.toNat = some b := findI_some (by omega) (by rw [e1]; rfl) (by assumption)
            have e3 : exR w.toNat l k.toNat n.toNat s.toNat = (a, b, true) := by unfold exR; rw [e2]; simp only [e1]
            rw [e3]
            all_goals (first | refine fI ?_ | refine fB ?_ | refine fII ?_ ?_ | refine fBI ?_ ?_ | refine fIII ?_ ?_ ?_ | refine fIIB ?_ ?_ ?_ | skip); all_goals (try dsimp only); all_goals (try with_reducible rfl); all_goals (try omega)
          · refine ⟨⟨a + 1, by simp, by omega, fun j hj => ?_⟩, by omega⟩
            by_cases e : j = a
            · subst e; simpa using hsp
            · exact hP j (by omega)
        · have hab' : ((a : Int) < b) = False := eq_false hab
          have ea : a = b := by omega
          subst ea
          have hsp := @Nat.succ_ne_zero; repeat' (first | simp (disch := first | exact dschR3 | fail) only [go_sem, hsp, r12, r11, r1, r2, r3, r4, pap, hab'] | refine WP_drw ?_ | refine cnd_intro (fun hsp => ?_) fun hsp => ?_)
          refine ⟨⟨a + 1, by simp, by omega, fun j hj => ?_⟩, ?_⟩
          · by_cases e : j = a
            · subst e
              unfold exA
              rw [findI_none hP]
              rfl
            · rename_i hP0
              exact hP0 j (by omega)
          · rw [q11]
            dsimp only
            omega
    · have hbl' : ((b : Int) < l.length) = False := eq_false hbl
      have hsp := @Nat.succ_ne_zero; repeat' (first | simp (disch := first | exact dschR3 | fail) only [go_sem, hsp, r11, r1, r2, r3, r4, pap, hbl'] | refine WP_drw ?_ | refine cnd_intro (fun hsp => ?_) fun hsp => ?_)
      have e2 : exB w.toNat l k.toNat n.toNat s.toNat = none := findI_none fun j hj => hP j (by omega)
      have e3 : exR w.toNat l k.toNat n.toNat s.toNat = (0, 0, false) := by unfold exR; rw [e2]
      rw [e3]
      all_goals (first | refine fI ?_ | refine fB ?_ | refine fII ?_ ?_ | refine fBI ?_ ?_ | refine fIII ?_ ?_ ?_ | refine fIIB ?_ ?_ ?_ | skip); all_goals (try dsimp only); all_goals (try with_reducible rfl); all_goals (try omega)
attribute [go_sem] run46

theorem chkC_of {w k s : Int} {l : List Int} (h1 : 1 ≤ w ∧ w ≤ 8) (h2 : 1 ≤ l.length ∧ l.length ≤ 48) (h3 : 0 ≤ k ∧ k ≤ 2) (h4 : ∀ x ∈ l, 0 ≤ x ∧ x ≤ 2 ^ w.toNat - 1) (h5 : stepOk k s w = true) : chkC w l k s = 0 := by
  unfold chkC
  rw [if_neg (by omega), if_neg (by omega), if_neg (by omega), if_neg]
  rintro (h | h)
  · exact h (List.all_eq_true.2 fun x hx => by simpa using h4 x hx)
  · exact h h5
theorem chkC_take {w k s : Int} {l : List Int} {n : Nat} (hc : chk w l = 0) (hk : 0 ≤ k ∧ k ≤ 2) (hs : stepOk k s w = true) (hn : 1 ≤ n ∧ n ≤ l.length) : chkC w (l.take n) k s = 0 := by
  obtain ⟨hw, hp, hx⟩ := chk_ok hc
  exact chkC_of hw (by rw [List.length_take]; omega) hk (fun x hm => hx x (List.mem_of_mem_take hm)) hs

/-- A plan stands just if the chain of the first throws weaves the pattern. -/
theorem weave_first {w k n s : Nat} {l : List Int} (hn : 1 ≤ n ∧ n ≤ l.length) : weaveB w (l.take n) k s l = !(firstS w l k n s).2.2 := by
  have hlen : (l.take n).length = n := by rw [List.length_take]; omega
  have hoff : ∀ t, offN w l k n s t = decide (((liftN w (l.take n) k s t : Nat) : Int) ≠ l.getD t 0) := fun t => by
    unfold offN liftN
    rw [hlen]
    have hc := cardN_lt (k := k) (t := t) hn.1
    have e : (l.take n).getD (cardN k n t) 0 = l.getD (cardN k n t) 0 := by
      simp only [List.getD_eq_getElem?_getD, List.getElem?_take, if_pos hc]
    rw [e]
  unfold weaveB firstS
  cases hf : findI (offN w l k n s) l.length with
  | some t =>
    obtain ⟨h1, h2, h3⟩ := findI_is hf
    rw [hoff] at h2
    simp only [Bool.not_true]
    refine decide_eq_false fun hh => ?_
    exact (of_decide_eq_true h2) (hh t h1)
  | none =>
    simp only [Bool.not_false]
    refine decide_eq_true fun t ht => ?_
    have := findI_not hf t ht
    rw [hoff] at this
    simpa using this

theorem run28 {base : Nat} {h : Heap} {v : AVal} {l : List Int} {w k s : Int} (hI : Ints h v l) (hc : chk w l = 0) (hk : 0 ≤ k ∧ k ≤ 2) (hs : stepOk k s w = true) :
    callL prog raw base (.fn 28 [] []) [pap w v, .int .i64 k, .int .i64 s] h = some (.int .i64 ((onlyN w.toNat l k.toNat s.toNat : Nat) : Int), h) := by
  obtain ⟨hw, hp, hx⟩ := chk_ok hc
  refine callL_run func28 rfl rfl ?_
  have hsp := @Nat.succ_ne_zero; repeat' (first | simp (disch := first | exact dschR3 | fail) only [go_sem, hsp, pap] | refine WP_drw ?_ | refine cnd_intro (fun hsp => ?_) fun hsp => ?_)
  refine WP_loop (fun σ => ∃ i : Nat, i < l.length ∧ σ.fr 7 = .int .i64 ((i : Int) + 1) ∧ σ.fr 1 = .int .i64 k ∧ σ.fr 2 = .int .i64 s ∧ σ.fr 3 = .ptr (some ⟨h.length, 0, 0⟩) ∧ σ.h = h ++ [⟨.cells [.int .i64 w, v] 29 false false, 0⟩] ∧
    ∀ j, j < i → (firstS w.toNat l k.toNat (j + 1) s.toNat).2.2 = true) (fun σ => match σ.fr 7 with | .int _ x => (l.length - x).toNat | _ => 0) ?_ ?_
  · refine ⟨0, by omega, by (simp (disch := first | exact dschR3 | fail) only [go_sem, Int.natCast_zero]; first | done | rfl), by simp (disch := first | exact dschR3 | fail) only [go_sem], by simp (disch := first | exact dschR3 | fail) only [go_sem], by simp (disch := first | exact dschR3 | fail) only [go_sem], rfl, fun j hj => by omega⟩
  · rintro ⟨fr, H⟩ ⟨i, hi, r7, r1, r2, r3, rh, hno⟩
    dsimp only at r7 r1 r2 r3 rh
    subst rh
    have e1 : ((i : Int) + 1).toNat = i + 1 := by omega
    have hct := chkC_take (n := i + 1) hc hk hs (by omega)
    have hwf := weave_first (w := w.toNat) (k := k.toNat) (n := i + 1) (s := s.toNat) (l := l) (by omega)
    have hsl : ∀ {H : Heap}, Ints H v l → Ints H (slcV v 0 (i + 1)) (l.take (i + 1)) := fun {H} hI' => by
      have := Ints.slc hI' (Nat.zero_le _) (show i + 1 ≤ l.length by omega)
      rwa [List.drop_zero] at this
    have hsl0 := hsl hI
    have hsp := @Nat.succ_ne_zero; repeat' (first | simp (disch := first | exact dschR3 | fail) only [go_sem, hsp, r7, r1, r2, r3, sl22h, e1, hwf] | refine WP_drw ?_ | refine cnd_intro (fun hsp => ?_) fun hsp => ?_)
    · have hl : i + 1 < l.length := by
        by_cases hl : i + 1 < l.length
        · exact hl
        · exfalso
          have := first_all hc (k := k.toNat) (s := s.toNat)
          rw [show l.length = i + 1 by omega] at this
          simp [this] at hsp
      refine ⟨⟨i + 1, hl, by omega, fun j hj => ?_⟩, by omega⟩
      by_cases x1 : j = i
      · subst x1; simpa using hsp
      · exact hno j (by omega)
    · have e2 : onlyN w.toNat l k.toNat s.toNat = i + 1 := by
        unfold onlyN
        rw [findI_some (t := i) hi (by simpa using hsp) (fun j hj => by simp [hno j hj])]
      rw [e2]
      all_goals (first | refine fI ?_ | refine fB ?_ | refine fII ?_ ?_ | refine fBI ?_ ?_ | refine fIII ?_ ?_ ?_ | refine fIIB ?_ ?_ ?_ | skip); all_goals (try dsimp only); all_goals (try with_reducible rfl); all_goals (try omega)
attribute [go_sem] run28
end Go.AM
