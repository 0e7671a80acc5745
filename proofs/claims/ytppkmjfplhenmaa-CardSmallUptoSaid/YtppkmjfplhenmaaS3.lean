/-
  Contracts: what a chain weaves, by going on from throw to throw.
-/
import Derived.Test.YtppkmjfplhenmaaS12
import Derived.Test.YtppkmjfplhenmaaR4
set_option linter.unusedSimpArgs false
set_option linter.unusedVariables false
namespace Go.AM
open Go.Proofs.Try
theorem dschS3 {p : Prop} (h : p := by first | exact Nat.ne_of_beq_eq_false rfl | assumption | (apply asOne; (first | exact One.int | exact One.bool | exact newV_one | exact grV_one | exact cloneV_one | exact takF_one | assumption | exact Ints.one (by assumption) | exact slcV_one (by assumption) | exact Bytes.one (by assumption) | exact One.lit ⟨rfl, rfl, rfl⟩)) | (apply asSp; (repeat first | assumption | apply SpAt.set | (refine SpAt.new ?_ (by (first | rfl | (simp only [List.length_append, List.length_cons, List.length_nil, List.length_set]; done) | (simp only [List.length_append, List.length_cons, List.length_nil, List.length_set]; omega)))) | apply SpAt.app | apply Bytes.app); done) | (apply asBytes; (repeat first | assumption | apply Bytes.app); done) | (apply asInts; (repeat first | assumption | (apply newV_ints' <;> first | assumption | (first | rfl | (simp only [List.length_append, List.length_cons, List.length_nil, List.length_set]; done) | (simp only [List.length_append, List.length_cons, List.length_nil, List.length_set]; omega))) | (apply grV_ints <;> first | assumption | (first | rfl | (simp only [List.length_append, List.length_cons, List.length_nil, List.length_set]; done) | (simp only [List.length_append, List.length_cons, List.length_nil, List.length_set]; omega))) | (apply Ints.slc <;> first | (repeat first | assumption | apply Ints.app); done | omega) | apply Ints.app); done) | (apply asTak; (repeat first | assumption | (refine TakAt.new ?_; (first | rfl | (simp only [List.length_append, List.length_cons, List.length_nil, List.length_set]; done) | (simp only [List.length_append, List.length_cons, List.length_nil, List.length_set]; omega))) | apply TakAt.app); done) | (apply asScal; (first | apply allS1 | apply allS2 | apply allS3 | apply allS4) <;> (first | exact One.int | exact One.bool | exact newV_one | exact grV_one | exact cloneV_one | exact takF_one | assumption | exact Ints.one (by assumption) | exact slcV_one (by assumption) | exact Bytes.one (by assumption) | exact One.lit ⟨rfl, rfl, rfl⟩)) | exact litT rfl | exact litF rfl | omega | (simp only [List.length_append, List.length_cons, List.length_nil, lst_len, List.length_set, ints_length, List.length_reverse]; first | done | omega) | fail) : p := h
attribute [-go_sem] put_ne put_same
attribute [local go_sem ↓] put_if
/-! ### Plain numbers -/
/-- One throw more: card, direction, move. -/
def tkStep (k n s w : Nat) (x : Int × Int × Int) : Int × Int × Int :=
  if k = 1 ∧ 1 < n then (if x.1 + x.2.1 < 0 ∨ x.1 + x.2.1 ≥ n then (x.1 - x.2.1, -x.2.1, x.2.2) else (x.1 + x.2.1, x.2.1, x.2.2))
  else if x.1 = n - 1 then (0, x.2.1, (x.2.2 + s) % w) else (x.1 + 1, x.2.1, x.2.2)
def tkN (k n s w : Nat) : Nat → Int × Int × Int
  | 0 => (0, 1, 0)
  | t + 1 => tkStep k n s w (tkN k n s w t)
/-- The direction behind t throws. -/
def dirN (n t : Nat) : Int := if t = 0 then 1 else if (t - 1) % (2 * n - 2) < n - 1 then 1 else -1
theorem mod_step {a m : Nat} (hm : 0 < m) : (a + 1) % m = if a % m + 1 = m then 0 else a % m + 1 := by
  have h1 := Nat.mod_lt a hm
  have h2 := Nat.div_add_mod a m
  split
  · rename_i e
    have : a + 1 = m * (a / m + 1) := by rw [Nat.mul_add]; omega
    rw [this, Nat.mul_mod_right]
  · rename_i e
    have : a + 1 = m * (a / m) + (a % m + 1) := by omega
    have hlt : a % m + 1 < m := by omega
    rw [this, Nat.mul_add_mod, Nat.mod_eq_of_lt hlt]
theorem div_step {a m : Nat} (hm : 0 < m) : (a + 1) / m = if a % m + 1 = m then a / m + 1 else a / m := by
  have h1 := Nat.mod_lt a hm
  have h2 := Nat.div_add_mod a m
  split
  · rename_i e
    have : a + 1 = m * (a / m + 1) := by rw [Nat.mul_add]; omega
    rw [this, Nat.mul_div_cancel_left _ hm]
  · rename_i e
    have : a + 1 = m * (a / m) + (a % m + 1) := by omega
    have hlt : a % m + 1 < m := by omega
    rw [this, Nat.mul_add_div hm, Nat.div_eq_of_lt hlt, Nat.add_zero]
theorem tkStep_back {n s w : Nat} {x : Int × Int × Int} (hn : 1 < n) : tkStep 1 n s w x = if x.1 + x.2.1 < 0 ∨ x.1 + x.2.1 ≥ n then (x.1 - x.2.1, -x.2.1, x.2.2) else (x.1 + x.2.1, x.2.1, x.2.2) := by
  unfold tkStep
  rw [if_pos ⟨rfl, hn⟩]
theorem tkStep_fwd {k n s w : Nat} {x : Int × Int × Int} (h : ¬ (k = 1 ∧ 1 < n)) : tkStep k n s w x = if x.1 = n - 1 then (0, x.2.1, (x.2.2 + s) % w) else (x.1 + 1, x.2.1, x.2.2) := by
  unfold tkStep
  rw [if_neg h]
theorem dir_is {n t : Nat} (hn : 1 < n) : (t % (2 * n - 2) ≤ n - 1 ∧ dirN n t = 1) ∨ ((n ≤ t % (2 * n - 2) ∨ t % (2 * n - 2) = 0) ∧ dirN n t = -1) := by
  have hm : 0 < 2 * n - 2 := by omega
  by_cases ht : t = 0
  · subst ht
    left
    exact ⟨by rw [Nat.zero_mod]; omega, rfl⟩
  · have h3 := mod_step (a := t - 1) hm
    rw [show t - 1 + 1 = t by omega] at h3
    have h4 := Nat.mod_lt (t - 1) hm
    have hd : dirN n t = if (t - 1) % (2 * n - 2) < n - 1 then 1 else -1 := by unfold dirN; rw [if_neg ht]
    rw [hd, h3]
    generalize (t - 1) % (2 * n - 2) = b at *
    by_cases hb : b < n - 1
    · left; rw [if_pos hb]; refine ⟨?_, rfl⟩; split <;> omega
    · right; rw [if_neg hb]; refine ⟨?_, rfl⟩; split <;> omega
theorem tk_back {n s w : Nat} (hn : 1 < n) : ∀ t, tkN 1 n s w t = (((min (t % (2 * n - 2)) (2 * n - 2 - t % (2 * n - 2)) : Nat) : Int), dirN n t, 0)
  | 0 => by
    have : min (0 % (2 * n - 2)) (2 * n - 2 - 0 % (2 * n - 2)) = 0 := by rw [Nat.zero_mod]; omega
    rw [this]
    rfl
  | t + 1 => by
    have ih := tk_back (s := s) (w := w) hn t
    have e : tkN 1 n s w (t + 1) = tkStep 1 n s w (tkN 1 n s w t) := rfl
    rw [e, ih, tkStep_back hn]
    have hm : 0 < 2 * n - 2 := by omega
    have h1 := Nat.mod_lt t hm
    have h2 := mod_step (a := t) hm
    have h5 := dir_is (t := t) hn
    have hd1 : dirN n (t + 1) = if t % (2 * n - 2) < n - 1 then 1 else -1 := by unfold dirN; rw [if_neg (by omega), Nat.add_sub_cancel]
    rw [hd1, h2]
    dsimp only
    generalize dirN n t = d at *
    generalize t % (2 * n - 2) = a at *
    clear h2 hd1 ih e
    have key : ∀ (p : Int) (q : Nat), p = (q : Int) → ∀ (x y : Int), x = y → (p, x, (0 : Int)) = ((q : Int), y, (0 : Int)) := by
      rintro _ q rfl x _ rfl
      rfl
    rcases h5 with ⟨h5, rfl⟩ | ⟨h5, rfl⟩
    · by_cases ha : a + 1 = 2 * n - 2
      · rw [if_pos ha]
        by_cases hl : a < n - 1
        · rw [if_neg (by omega), if_pos hl]; exact key _ _ (by omega) _ _ rfl
        · rw [if_pos (by omega), if_neg hl]; exact key _ _ (by omega) _ _ rfl
      · rw [if_neg ha]
        by_cases hl : a < n - 1
        · rw [if_neg (by omega), if_pos hl]; exact key _ _ (by omega) _ _ rfl
        · rw [if_pos (by omega), if_neg hl]; exact key _ _ (by omega) _ _ rfl
    · by_cases ha : a + 1 = 2 * n - 2
      · rw [if_pos ha]
        by_cases hl : a < n - 1
        · rw [if_pos (by omega), if_pos hl]; exact key _ _ (by omega) _ _ rfl
        · rw [if_neg (by omega), if_neg hl]; exact key _ _ (by omega) _ _ rfl
      · rw [if_neg ha]
        by_cases hl : a < n - 1
        · rw [if_pos (by omega), if_pos hl]; exact key _ _ (by omega) _ _ rfl
        · rw [if_neg (by omega), if_neg hl]; exact key _ _ (by omega) _ _ rfl
theorem tk_fwd {k n s w : Nat} (hn : 1 ≤ n) (hw : 1 ≤ w) (hk : ¬ (k = 1 ∧ 1 < n)) : ∀ t, tkN k n s w t = (((t % n : Nat) : Int), 1, ((t / n * s % w : Nat) : Int))
  | 0 => by simp [tkN]
  | t + 1 => by
    have ih := tk_fwd (s := s) (w := w) hn hw hk t
    have e : tkN k n s w (t + 1) = tkStep k n s w (tkN k n s w t) := rfl
    rw [e, ih, tkStep_fwd hk, mod_step hn, div_step hn]
    dsimp only
    have h1 := Nat.mod_lt t (show n > 0 by omega)
    by_cases hl : t % n + 1 = n
    · rw [if_pos (by omega), if_pos hl, if_pos hl]
      have : (t / n + 1) * s % w = (t / n * s % w + s) % w := by rw [Nat.add_mul, Nat.one_mul, Nat.mod_add_mod]
      rw [this]
      rfl
    · rw [if_neg (by omega), if_neg hl, if_neg hl]
      rfl
/-- By going on: the card and the move of a throw. -/
theorem tk_card {k n s w t : Nat} (hn : 1 ≤ n) (hw : 1 ≤ w) (hs : k ≠ 2 → s = 0) : (tkN k n s w t).1 = ((cardN k n t : Nat) : Int) ∧ (tkN k n s w t).2.2 = ((moveN k n s w t : Nat) : Int) := by
  by_cases hb : k = 1 ∧ 1 < n
  · obtain ⟨rfl, hb⟩ := hb
    rw [tk_back hb]
    exact ⟨by simp [cardN, hb], by simp [moveN]⟩
  · rw [tk_fwd hn hw hb]
    constructor
    · unfold cardN
      by_cases h2 : k = 2
      · rw [if_pos h2]
      · rw [if_neg h2, if_neg hb]
    · unfold moveN
      by_cases h2 : k = 2
      · rw [if_pos h2]
      · rw [if_neg h2, hs h2, Nat.mul_zero, Nat.zero_mod]
theorem tk_bd {k n s w : Nat} (hn : 1 ≤ n) (hw : 1 ≤ w) (t : Nat) : 0 ≤ (tkN k n s w t).1 ∧ (tkN k n s w t).1 < n ∧ ((tkN k n s w t).2.1 = 1 ∨ (tkN k n s w t).2.1 = -1) ∧ 0 ≤ (tkN k n s w t).2.2 ∧ (tkN k n s w t).2.2 < w := by
  by_cases hb : k = 1 ∧ 1 < n
  · obtain ⟨rfl, hb⟩ := hb
    rw [tk_back hb]
    have hm := Nat.mod_lt t (show 2 * n - 2 > 0 by omega)
    have h5 := dir_is (t := t) hb
    dsimp only
    refine ⟨by omega, by omega, ?_, by omega, by omega⟩
    rcases h5 with h | h
    · exact .inl h.2
    · exact .inr h.2
  · rw [tk_fwd hn hw hb]
    have h1 := Nat.mod_lt t (show n > 0 by omega)
    have h2 := Nat.mod_lt (t / n * s) (show w > 0 by omega)
    dsimp only
    exact ⟨by omega, by omega, .inl rfl, by omega, by omega⟩

theorem run43 {base : Nat} {h : Heap} {k n s w t : Int} (hk : 0 ≤ k ∧ k ≤ 2) (hn : 1 ≤ n ∧ n ≤ 1000) (hs : 0 ≤ s ∧ s ≤ 1000) (hw : 1 ≤ w ∧ w ≤ 1000) (ht : 0 ≤ t ∧ t ≤ 10000000) (hz : k ≠ 2 → s = 0) :
    callL prog raw base (.fn 43 [] []) [.int .i64 k, .int .i64 n, .int .i64 s, .int .i64 w, .int .i64 t] h =
      some (.tuple [.int .i64 ((cardN k.toNat n.toNat t.toNat : Nat) : Int), .int .i64 ((moveN k.toNat n.toNat s.toNat w.toNat t.toNat : Nat) : Int)], h) := by
  obtain ⟨k, rfl⟩ := Int.eq_ofNat_of_zero_le hk.1
  obtain ⟨n, rfl⟩ := Int.eq_ofNat_of_zero_le (show 0 ≤ n by omega)
  obtain ⟨t, rfl⟩ := Int.eq_ofNat_of_zero_le ht.1
  obtain ⟨s, rfl⟩ := Int.eq_ofNat_of_zero_le hs.1
  obtain ⟨w, rfl⟩ := Int.eq_ofNat_of_zero_le (show 0 ≤ w by omega)
  simp only [Int.toNat_natCast]
  have hend := tk_card (k := k) (n := n) (s := s) (w := w) (t := t) (by omega) (by omega) (fun h2 => by have := hz (by omega); omega)
  rw [← hend.1, ← hend.2]
  refine callL_run func43 rfl rfl ?_
  have hsp := @Nat.succ_ne_zero; repeat' (first | simp (disch := first | exact dschS3 | fail) only [go_sem, ↓reduceIte, hsp] | refine WP_drw ?_ | refine cnd_intro (fun hsp => ?_) fun hsp => ?_)
  refine WP_count [(12, 14), (16, 53)] 0 t (Nat.zero_le _) (fun H i fr h => fr 12 = .int .i64 (tkN k n s w i).1 ∧ fr 13 = .int .i64 (tkN k n s w i).2.1 ∧ fr 14 = .int .i64 (tkN k n s w i).2.2 ∧ fr 16 = .int .i64 (i : Int) ∧ h = H) ?_ ?_ ?_
  · exact ⟨by (simp (disch := first | exact dschS3 | fail) only [go_sem, ↓reduceIte, tkN]; first | done | rfl), by (simp (disch := first | exact dschS3 | fail) only [go_sem, ↓reduceIte, tkN]; first | done | rfl), by (simp (disch := first | exact dschS3 | fail) only [go_sem, ↓reduceIte, tkN]; first | done | rfl), by (simp (disch := first | exact dschS3 | fail) only [go_sem, ↓reduceIte, Int.natCast_zero]; first | done | rfl), rfl⟩
  · rintro i fr H hi0 hi hA ⟨r12, r13, r14, r16, rfl⟩
    have p0 := hA 0 rfl
    have p1 := hA 1 rfl
    have p2 := hA 2 rfl
    have p3 := hA 3 rfl
    have p15 := hA 15 rfl
    try simp (disch := first | exact dschS3 | fail) only [go_sem, ↓reduceIte] at p0 p1 p2 p3 p15
    have hlt : ((i : Int) < t) = True := eq_true (by omega)
    obtain ⟨b1, b2, b3, b4, b5⟩ := tk_bd (k := k) (n := n) (s := s) (w := w) (by omega) (by omega) i
    have hst : tkN k n s w (i + 1) = tkStep k n s w (tkN k n s w i) := rfl
    rw [hst]
    generalize tkN k n s w i = x at *
    obtain ⟨a, d, m⟩ := x
    dsimp only at b1 b2 b3 b4 b5 r12 r13 r14 hst ⊢
    have hm : (m + s).tmod (w : Int) = (m + s) % (w : Int) := Int.tmod_eq_emod_of_nonneg (by omega)
    by_cases hb : k = 1 ∧ 1 < n
    · obtain ⟨rfl, hb⟩ := hb
      have q1 : (((1 : Nat) : Int) = 1) = True := eq_true rfl
      have q2 : ((n : Int) > 1) = True := eq_true (by omega)
      by_cases h1 : a + d < 0
      · have q3 : (a + d < 0) = True := eq_true h1
        have e : tkStep 1 n s w (a, d, m) = (a - d, -d, m) := by rw [tkStep_back hb, if_pos (.inl h1)]
        rw [e]
        have hsp := @Nat.succ_ne_zero; repeat' (first | simp (disch := first | exact dschS3 | fail) only [go_sem, ↓reduceIte, hsp, r12, r13, r14, r16, p0, p1, p2, p3, p15, hlt, hm, q1, q2, q3] | refine WP_drw ?_ | refine cnd_intro (fun hsp => ?_) fun hsp => ?_)
        refine ⟨by (repeat first | exact Agree.refl | assumption | refine Agree.put rfl ?_ | refine Agree.put0 ?_ | refine Agree.sub rfl (by assumption) ?_), ?_⟩
        first | done | omega | (simp (disch := first | exact dschS3 | fail) only [go_sem, ↓reduceIte]; first | done | omega) | (refine ⟨?_, ?_, ?_, ?_⟩ <;> first | rfl | omega)
      · have q3 : (a + d < 0) = False := eq_false h1
        by_cases h2 : a + d ≥ n
        · have q4 : (a + d ≥ (n : Int)) = True := eq_true h2
          have e : tkStep 1 n s w (a, d, m) = (a - d, -d, m) := by rw [tkStep_back hb, if_pos (.inr h2)]
          rw [e]
          have hsp := @Nat.succ_ne_zero; repeat' (first | simp (disch := first | exact dschS3 | fail) only [go_sem, ↓reduceIte, hsp, r12, r13, r14, r16, p0, p1, p2, p3, p15, hlt, hm, q1, q2, q3, q4] | refine WP_drw ?_ | refine cnd_intro (fun hsp => ?_) fun hsp => ?_)
          refine ⟨by (repeat first | exact Agree.refl | assumption | refine Agree.put rfl ?_ | refine Agree.put0 ?_ | refine Agree.sub rfl (by assumption) ?_), ?_⟩
          first | done | omega | (simp (disch := first | exact dschS3 | fail) only [go_sem, ↓reduceIte]; first | done | omega) | (refine ⟨?_, ?_, ?_, ?_⟩ <;> first | rfl | omega)
        · have q4 : (a + d ≥ (n : Int)) = False := eq_false h2
          have e : tkStep 1 n s w (a, d, m) = (a + d, d, m) := by rw [tkStep_back hb, if_neg (fun hh => hh.elim h1 h2)]
          rw [e]
          have hsp := @Nat.succ_ne_zero; repeat' (first | simp (disch := first | exact dschS3 | fail) only [go_sem, ↓reduceIte, hsp, r12, r13, r14, r16, p0, p1, p2, p3, p15, hlt, hm, q1, q2, q3, q4] | refine WP_drw ?_ | refine cnd_intro (fun hsp => ?_) fun hsp => ?_)
          refine ⟨by (repeat first | exact Agree.refl | assumption | refine Agree.put rfl ?_ | refine Agree.put0 ?_ | refine Agree.sub rfl (by assumption) ?_), ?_⟩
          first | done | omega | (simp (disch := first | exact dschS3 | fail) only [go_sem, ↓reduceIte]; first | done | omega) | (refine ⟨?_, ?_, ?_, ?_⟩ <;> first | rfl | omega)
    · by_cases h1 : a = n - 1
      · have q3 : (a = (n : Int) - 1) = True := eq_true h1
        by_cases hk1 : k = 1
        · subst hk1
          have q1 : (((1 : Nat) : Int) = 1) = True := eq_true rfl
          have q2 : ((n : Int) > 1) = False := eq_false (by omega)
          have e : tkStep 1 n s w (a, d, m) = (0, d, (m + s) % w) := by rw [tkStep_fwd hb, if_pos h1]
          rw [e]
          have hsp := @Nat.succ_ne_zero; repeat' (first | simp (disch := first | exact dschS3 | fail) only [go_sem, ↓reduceIte, hsp, r12, r13, r14, r16, p0, p1, p2, p3, p15, hlt, hm, q1, q2, q3] | refine WP_drw ?_ | refine cnd_intro (fun hsp => ?_) fun hsp => ?_)
          refine ⟨by (repeat first | exact Agree.refl | assumption | refine Agree.put rfl ?_ | refine Agree.put0 ?_ | refine Agree.sub rfl (by assumption) ?_), ?_⟩
          first | done | omega | (simp (disch := first | exact dschS3 | fail) only [go_sem, ↓reduceIte]; first | done | omega) | (refine ⟨?_, ?_, ?_, ?_⟩ <;> first | rfl | omega)
        · have q1 : ((k : Int) = 1) = False := eq_false (by omega)
          have e : tkStep k n s w (a, d, m) = (0, d, (m + s) % w) := by rw [tkStep_fwd hb, if_pos h1]
          rw [e]
          have hsp := @Nat.succ_ne_zero; repeat' (first | simp (disch := first | exact dschS3 | fail) only [go_sem, ↓reduceIte, hsp, r12, r13, r14, r16, p0, p1, p2, p3, p15, hlt, hm, q1, q3] | refine WP_drw ?_ | refine cnd_intro (fun hsp => ?_) fun hsp => ?_)
          refine ⟨by (repeat first | exact Agree.refl | assumption | refine Agree.put rfl ?_ | refine Agree.put0 ?_ | refine Agree.sub rfl (by assumption) ?_), ?_⟩
          first | done | omega | (simp (disch := first | exact dschS3 | fail) only [go_sem, ↓reduceIte]; first | done | omega) | (refine ⟨?_, ?_, ?_, ?_⟩ <;> first | rfl | omega)
      · have q3 : (a = (n : Int) - 1) = False := eq_false h1
        by_cases hk1 : k = 1
        · subst hk1
          have q1 : (((1 : Nat) : Int) = 1) = True := eq_true rfl
          have q2 : ((n : Int) > 1) = False := eq_false (by omega)
          have e : tkStep 1 n s w (a, d, m) = (a + 1, d, m) := by rw [tkStep_fwd hb, if_neg h1]
          rw [e]
          have hsp := @Nat.succ_ne_zero; repeat' (first | simp (disch := first | exact dschS3 | fail) only [go_sem, ↓reduceIte, hsp, r12, r13, r14, r16, p0, p1, p2, p3, p15, hlt, hm, q1, q2, q3] | refine WP_drw ?_ | refine cnd_intro (fun hsp => ?_) fun hsp => ?_)
          refine ⟨by (repeat first | exact Agree.refl | assumption | refine Agree.put rfl ?_ | refine Agree.put0 ?_ | refine Agree.sub rfl (by assumption) ?_), ?_⟩
          first | done | omega | (simp (disch := first | exact dschS3 | fail) only [go_sem, ↓reduceIte]; first | done | omega) | (refine ⟨?_, ?_, ?_, ?_⟩ <;> first | rfl | omega)
        · have q1 : ((k : Int) = 1) = False := eq_false (by omega)
          have e : tkStep k n s w (a, d, m) = (a + 1, d, m) := by rw [tkStep_fwd hb, if_neg h1]
          rw [e]
          have hsp := @Nat.succ_ne_zero; repeat' (first | simp (disch := first | exact dschS3 | fail) only [go_sem, ↓reduceIte, hsp, r12, r13, r14, r16, p0, p1, p2, p3, p15, hlt, hm, q1, q3] | refine WP_drw ?_ | refine cnd_intro (fun hsp => ?_) fun hsp => ?_)
          refine ⟨by (repeat first | exact Agree.refl | assumption | refine Agree.put rfl ?_ | refine Agree.put0 ?_ | refine Agree.sub rfl (by assumption) ?_), ?_⟩
          first | done | omega | (simp (disch := first | exact dschS3 | fail) only [go_sem, ↓reduceIte]; first | done | omega) | (refine ⟨?_, ?_, ?_, ?_⟩ <;> first | rfl | omega)
  · rintro fr H hA ⟨r12, r13, r14, r16, rfl⟩
    have p0 := hA 0 rfl
    have p1 := hA 1 rfl
    have p2 := hA 2 rfl
    have p3 := hA 3 rfl
    have p15 := hA 15 rfl
    try simp (disch := first | exact dschS3 | fail) only [go_sem, ↓reduceIte] at p0 p1 p2 p3 p15
    have hlt : ((t : Int) < t) = False := eq_false (by omega)
    have hsp := @Nat.succ_ne_zero; repeat' (first | simp (disch := first | exact dschS3 | fail) only [go_sem, ↓reduceIte, hsp, r12, r13, r14, r16, p0, p1, p2, p3, p15, hlt] | refine WP_drw ?_ | refine cnd_intro (fun hsp => ?_) fun hsp => ?_)
    all_goals (first | refine fI ?_ | refine fB ?_ | refine fII ?_ ?_ | refine fBI ?_ ?_ | refine fIII ?_ ?_ ?_ | refine fIIB ?_ ?_ ?_ | skip); all_goals (try dsimp only); all_goals (try with_reducible rfl); all_goals (try omega)
attribute [go_sem] run43
end Go.AM
