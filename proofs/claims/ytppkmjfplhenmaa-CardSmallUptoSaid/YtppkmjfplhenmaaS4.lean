/-
  Contracts: moved, lift and weaves of the statements; chains and patterns out of a spool.
-/
import Derived.Test.YtppkmjfplhenmaaS3
set_option linter.unusedSimpArgs false
set_option linter.unusedVariables false
namespace Go.AM
open Go.Proofs.Try
theorem dschS4 {p : Prop} (h : p := by first | exact Nat.ne_of_beq_eq_false rfl | assumption | (apply asOne; (first | exact One.int | exact One.bool | exact newV_one | exact grV_one | exact cloneV_one | exact takF_one | assumption | exact Ints.one (by assumption) | exact slcV_one (by assumption) | exact Bytes.one (by assumption) | exact One.lit ⟨rfl, rfl, rfl⟩)) | (apply asSp; (repeat first | assumption | apply SpAt.set | (refine SpAt.new ?_ (by (first | rfl | (simp only [List.length_append, List.length_cons, List.length_nil, List.length_set]; done) | (simp only [List.length_append, List.length_cons, List.length_nil, List.length_set]; omega)))) | apply SpAt.app | apply Bytes.app); done) | (apply asBytes; (repeat first | assumption | apply Bytes.app); done) | (apply asInts; (repeat first | assumption | (apply newV_ints' <;> first | assumption | (first | rfl | (simp only [List.length_append, List.length_cons, List.length_nil, List.length_set]; done) | (simp only [List.length_append, List.length_cons, List.length_nil, List.length_set]; omega))) | (apply grV_ints <;> first | assumption | (first | rfl | (simp only [List.length_append, List.length_cons, List.length_nil, List.length_set]; done) | (simp only [List.length_append, List.length_cons, List.length_nil, List.length_set]; omega))) | (apply Ints.slc <;> first | (repeat first | assumption | apply Ints.app); done | omega) | apply Ints.app); done) | (apply asTak; (repeat first | assumption | (refine TakAt.new ?_; (first | rfl | (simp only [List.length_append, List.length_cons, List.length_nil, List.length_set]; done) | (simp only [List.length_append, List.length_cons, List.length_nil, List.length_set]; omega))) | apply TakAt.app); done) | (apply asScal; (first | apply allS1 | apply allS2 | apply allS3 | apply allS4) <;> (first | exact One.int | exact One.bool | exact newV_one | exact grV_one | exact cloneV_one | exact takF_one | assumption | exact Ints.one (by assumption) | exact slcV_one (by assumption) | exact Bytes.one (by assumption) | exact One.lit ⟨rfl, rfl, rfl⟩)) | exact litT rfl | exact litF rfl | omega | (simp only [List.length_append, List.length_cons, List.length_nil, lst_len, List.length_set, ints_length, List.length_reverse]; first | done | omega) | fail) : p := h
attribute [-go_sem] put_ne put_same
attribute [local go_sem ↓] put_if

def itStep (w x : Nat) : Nat := if 2 * x ≥ 2 ^ w then 2 * x - (2 ^ w - 1) else 2 * x
def itN (x w : Nat) : Nat → Nat
  | 0 => x
  | b + 1 => itStep w (itN x w b)
def itOk : Bool := (List.range 8).all fun w' => (List.range (2 ^ (w' + 1))).all fun a => (List.range (w' + 2)).all fun b => itN a (w' + 1) b == rotN a b (w' + 1)
theorem itOk_true : itOk = true := by kernel_rfl
theorem it_rot {x b w : Nat} (hw : 1 ≤ w) (hw8 : w ≤ 8) (hx : x < 2 ^ w) (hb : b ≤ w) : itN x w b = rotN x b w := by
  have h1 := itOk_true
  unfold itOk at h1
  have h2 := List.all_eq_true.1 h1 (w - 1) (by simp; omega)
  have ew : w - 1 + 1 = w := by omega
  have ew2 : w - 1 + 2 = w + 1 := by omega
  rw [ew, ew2] at h2
  have h3 := List.all_eq_true.1 h2 x (by simpa using hx)
  have h4 := List.all_eq_true.1 h3 b (by simp; omega)
  simpa using h4
theorem itN_lt {x w : Nat} (hx : x < 2 ^ w) : ∀ b, itN x w b < 2 ^ w
  | 0 => hx
  | b + 1 => by
    have := itN_lt hx b
    simp only [itN, itStep]
    split <;> omega

theorem run35 {base : Nat} {h : Heap} {x b w : Int} (hw : 1 ≤ w ∧ w ≤ 8) (hx : 0 ≤ x ∧ x ≤ 2 ^ w.toNat - 1) (hb : 0 ≤ b ∧ b ≤ w) :
    callL prog raw base (.fn 35 [] []) [.int .i64 x, .int .i64 b, .int .i64 w] h = some (.int .i64 ((rotN x.toNat b.toNat w.toNat : Nat) : Int), h) := by
  obtain ⟨x, rfl⟩ := Int.eq_ofNat_of_zero_le hx.1
  obtain ⟨b, rfl⟩ := Int.eq_ofNat_of_zero_le hb.1
  obtain ⟨w, rfl⟩ := Int.eq_ofNat_of_zero_le (show 0 ≤ w by omega)
  simp only [Int.toNat_natCast] at hx ⊢
  have h8 : (2 : Int) ^ w = ((2 ^ w : Nat) : Int) := by simp
  have h256 : 2 ^ w ≤ 2 ^ 8 := Nat.pow_le_pow_right (by decide) (by omega)
  have hxl : x < 2 ^ w := by omega
  rw [← it_rot (by omega) (by omega) hxl (by omega)]
  have hshl : ∀ {t : TypeId}, binA prog .shl t (.int .i64 1) (.int .i64 (w : Int)) = some (.int .i64 ((2 ^ w : Nat) : Int)) := fun {t} => by
    rw [bin_shl (by omega)]
    have : min ((w : Int)).toNat IntKind.i64.bits = w := by simp [IntKind.bits]; omega
    rw [this, Int.one_mul, h8, wrap64 (by omega) (by omega)]
  refine callL_run func35 rfl rfl ?_
  have hsp := @Nat.succ_ne_zero; repeat' (first | simp (disch := first | exact dschS4 | fail) only [go_sem, ↓reduceIte, hsp] | refine WP_drw ?_ | refine cnd_intro (fun hsp => ?_) fun hsp => ?_)
  refine WP_count [(0, 0), (8, 21)] 0 b (Nat.zero_le _) (fun H i fr h => fr 0 = .int .i64 (itN x w i : Int) ∧ fr 8 = .int .i64 (i : Int) ∧ h = H) ?_ ?_ ?_
  · exact ⟨by (simp (disch := first | exact dschS4 | fail) only [go_sem, ↓reduceIte, itN]; first | done | rfl), by (simp (disch := first | exact dschS4 | fail) only [go_sem, ↓reduceIte, Int.natCast_zero]; first | done | rfl), rfl⟩
  · rintro i fr H hi0 hi hA ⟨r0, r8, rfl⟩
    have p2 := hA 2 rfl
    have p7 := hA 7 rfl
    try simp (disch := first | exact dschS4 | fail) only [go_sem, ↓reduceIte] at p2 p7
    have hlt : ((i : Int) < b) = True := eq_true (by omega)
    have hst : itN x w (i + 1) = itStep w (itN x w i) := rfl
    have hl := itN_lt hxl i
    rw [hst]
    generalize itN x w i = a at *
    by_cases h2 : 2 * a ≥ 2 ^ w
    · have e : itStep w a = 2 * a - (2 ^ w - 1) := by unfold itStep; rw [if_pos h2]
      have q : ((a : Int) * 2 ≥ ((2 ^ w : Nat) : Int)) = True := eq_true (by omega)
      have q2 : (a : Int) * 2 - (((2 ^ w : Nat) : Int) - 1) = ((2 * a - (2 ^ w - 1) : Nat) : Int) := by omega
      rw [e]
      have hsp := @Nat.succ_ne_zero; repeat' (first | simp (disch := first | exact dschS4 | fail) only [go_sem, ↓reduceIte, hsp, r0, r8, p2, p7, hlt, hshl, q, q2] | refine WP_drw ?_ | refine cnd_intro (fun hsp => ?_) fun hsp => ?_)
      refine ⟨by (repeat first | exact Agree.refl | assumption | refine Agree.put rfl ?_ | refine Agree.put0 ?_ | refine Agree.sub rfl (by assumption) ?_), ?_⟩
      first | done | omega | (simp (disch := first | exact dschS4 | fail) only [go_sem, ↓reduceIte]; first | done | omega) | (refine ⟨?_, ?_⟩ <;> first | rfl | omega)
    · have e : itStep w a = 2 * a := by unfold itStep; rw [if_neg h2]
      have q : ((a : Int) * 2 ≥ ((2 ^ w : Nat) : Int)) = False := eq_false (by omega)
      have q2 : (a : Int) * 2 = ((2 * a : Nat) : Int) := by omega
      rw [e]
      rw [q2] at q
      have hsp := @Nat.succ_ne_zero; repeat' (first | simp (disch := first | exact dschS4 | fail) only [go_sem, ↓reduceIte, hsp, r0, r8, p2, p7, hlt, hshl, q2, q] | refine WP_drw ?_ | refine cnd_intro (fun hsp => ?_) fun hsp => ?_)
      refine ⟨by (repeat first | exact Agree.refl | assumption | refine Agree.put rfl ?_ | refine Agree.put0 ?_ | refine Agree.sub rfl (by assumption) ?_), ?_⟩
      first | done | omega | (simp (disch := first | exact dschS4 | fail) only [go_sem, ↓reduceIte]; first | done | omega) | (refine ⟨?_, ?_⟩ <;> first | rfl | omega)
  · rintro fr H hA ⟨r0, r8, rfl⟩
    have p2 := hA 2 rfl
    have p7 := hA 7 rfl
    try simp (disch := first | exact dschS4 | fail) only [go_sem, ↓reduceIte] at p2 p7
    have hlt : ((b : Int) < b) = False := eq_false (by omega)
    have hsp := @Nat.succ_ne_zero; repeat' (first | simp (disch := first | exact dschS4 | fail) only [go_sem, ↓reduceIte, hsp, r0, r8, p2, p7, hlt] | refine WP_drw ?_ | refine cnd_intro (fun hsp => ?_) fun hsp => ?_)
    all_goals (first | refine fI ?_ | refine fB ?_ | refine fII ?_ ?_ | refine fBI ?_ ?_ | refine fIII ?_ ?_ ?_ | refine fIIB ?_ ?_ ?_ | skip); all_goals (try dsimp only); all_goals (try with_reducible rfl); all_goals (try omega)
attribute [go_sem] run35

theorem run39 {base : Nat} {h : Heap} {v : AVal} {l : List Int} {w k s t : Int} (hI : Ints h v l) (hc : chkC w l k s = 0) (ht : 0 ≤ t ∧ t ≤ 10000000) :
    callL prog raw base (.fn 39 [] []) [chn w v k s, .int .i64 t] h = some (.int .i64 ((liftN w.toNat l k.toNat s.toNat t.toNat : Nat) : Int), h) := by
  obtain ⟨hw, hn, hk, hs, hst, hx⟩ := chkC_ok hc
  have c1 := cardN_lt (k := k.toNat) (n := l.length) (t := t.toNat) (by omega)
  have c2 := moveN_lt (k := k.toNat) (n := l.length) (s := s.toNat) (w := w.toNat) (t := t.toNat) (by omega)
  have c3 := hx _ (getD_mem c1)
  have c4 : (0 : Int) ≤ (moveN k.toNat l.length s.toNat w.toNat t.toNat : Nat) ∧ ((moveN k.toNat l.length s.toNat w.toNat t.toNat : Nat) : Int) ≤ w := by omega
  have c5 : 1 ≤ (l.length : Int) ∧ (l.length : Int) ≤ 1000 := by omega
  have c6 : 0 ≤ s ∧ s ≤ 1000 := by omega
  have c7 : 1 ≤ w ∧ w ≤ 1000 := by omega
  have c8 : k ≠ 2 → s = 0 := fun h2 => by
    unfold stepOk at hst
    rw [if_neg h2] at hst
    exact of_decide_eq_true hst
  refine callL_run func39 rfl rfl ?_
  have hsp := @Nat.succ_ne_zero; repeat' (first | simp (disch := first | exact dschS4 | fail) only [go_sem, ↓reduceIte, hsp, chn] | refine WP_drw ?_ | refine cnd_intro (fun hsp => ?_) fun hsp => ?_)
  all_goals (first | refine fI ?_ | refine fB ?_ | refine fII ?_ ?_ | refine fBI ?_ ?_ | refine fIII ?_ ?_ ?_ | refine fIIB ?_ ?_ ?_ | skip); all_goals (try dsimp only); all_goals (try with_reducible rfl); all_goals (try omega)
  rfl
attribute [go_sem] run39

/-- Is a chain right, of the same width, and does it weave a pattern? -/
def weavesR (w : Int) (l : List Int) (k s w' : Int) (p : List Int) : Bool := if chkC w l k s ≠ 0 ∨ w ≠ w' then false else weaveB w.toNat l k.toNat s.toNat p
theorem run33 {base : Nat} {h : Heap} {v v' : AVal} {l p : List Int} {w k s w' : Int} (hI : Ints h v l) (hI' : Ints h v' p) (hp : p.length ≤ 1000) :
    callL prog raw base (.fn 33 [] []) [chn w v k s, pap w' v'] h = some (.bool (weavesR w l k s w' p), h) := by
  refine callL_run func33 rfl rfl ?_
  by_cases hc : chkC w l k s = 0
  · obtain ⟨hw, hn, hk, hs, hst, hx⟩ := chkC_ok hc
    by_cases hww : w = w'
    · have e : weavesR w l k s w' p = weaveB w.toNat l k.toNat s.toNat p := by unfold weavesR; rw [if_neg (fun hh => hh.elim (fun h1 => h1 hc) (fun h1 => h1 hww))]
      have q1 : ((l.length : Int) = 0) = False := eq_false (by omega)
      have q2 : (w < 1) = False := eq_false (by omega)
      have q3 : (w > 8) = False := eq_false (by omega)
      rw [e]
      subst hww
      have hsp := @Nat.succ_ne_zero; repeat' (first | simp (disch := first | exact dschS4 | fail) only [go_sem, ↓reduceIte, hsp, chn, pap, hc, q1, q2, q3] | refine WP_drw ?_ | refine cnd_intro (fun hsp => ?_) fun hsp => ?_)
      refine WP_count [(5, 6), (36, 46)] 0 p.length (Nat.zero_le _) (fun H i fr h => fr 36 = .int .i64 (i : Int) ∧ h = H ∧ ∀ j, j < i → ((liftN w.toNat l k.toNat s.toNat j : Nat) : Int) = p.getD j 0) ?_ ?_ ?_
      · exact ⟨by (simp (disch := first | exact dschS4 | fail) only [go_sem, ↓reduceIte, Int.natCast_zero]; first | done | rfl), rfl, fun j hj => by omega⟩
      · rintro i fr H hi0 hi hA ⟨r36, rfl, hP⟩
        have q2 := hA 2 rfl
        have q34 := hA 34 rfl
        have q35 := hA 35 rfl
        try simp (disch := first | exact dschS4 | fail) only [go_sem, ↓reduceIte] at q2 q34 q35
        have hlt : ((i : Int) < p.length) = True := eq_true (by omega)
        have hin : 0 ≤ (i : Int) ∧ (i : Int) ≤ 10000000 := by omega
        by_cases hq : ((liftN w.toNat l k.toNat s.toNat i : Nat) : Int) = p.getD i 0
        · have hq' : (((liftN w.toNat l k.toNat s.toNat i : Nat) : Int) = p.getD i 0) = True := eq_true hq
          have hsp := @Nat.succ_ne_zero; repeat' (first | simp (disch := first | exact dschS4 | fail) only [go_sem, ↓reduceIte, hsp, chn, pap, hc, r36, q2, q34, q35, hlt, hq'] | refine WP_drw ?_ | refine cnd_intro (fun hsp => ?_) fun hsp => ?_)
          have hP' : ∀ j, j < i + 1 → ((liftN w.toNat l k.toNat s.toNat j : Nat) : Int) = p.getD j 0 := fun j hj => by
            by_cases e : j = i
            · subst e; exact hq
            · exact hP j (by omega)
          first | exact ⟨by (repeat first | exact Agree.refl | assumption | refine Agree.put rfl ?_ | refine Agree.put0 ?_ | refine Agree.sub rfl (by assumption) ?_), by first | rfl | omega | (simp (disch := first | exact dschS4 | fail) only [go_sem, ↓reduceIte, Int.natCast_zero]; first | done | rfl), rfl, hP'⟩ | exact ⟨by (repeat first | exact Agree.refl | assumption | refine Agree.put rfl ?_ | refine Agree.put0 ?_ | refine Agree.sub rfl (by assumption) ?_), by first | rfl | omega | (simp (disch := first | exact dschS4 | fail) only [go_sem, ↓reduceIte, Int.natCast_zero]; first | done | rfl), hP'⟩ | exact ⟨by (repeat first | exact Agree.refl | assumption | refine Agree.put rfl ?_ | refine Agree.put0 ?_ | refine Agree.sub rfl (by assumption) ?_), hP'⟩
        · have hq' : (((liftN w.toNat l k.toNat s.toNat i : Nat) : Int) = p.getD i 0) = False := eq_false hq
          have hsp := @Nat.succ_ne_zero; repeat' (first | simp (disch := first | exact dschS4 | fail) only [go_sem, ↓reduceIte, hsp, chn, pap, hc, r36, q2, q34, q35, hlt, hq'] | refine WP_drw ?_ | refine cnd_intro (fun hsp => ?_) fun hsp => ?_)
          all_goals (first | refine fI ?_ | refine fB ?_ | refine fII ?_ ?_ | refine fBI ?_ ?_ | refine fIII ?_ ?_ ?_ | refine fIIB ?_ ?_ ?_ | skip); all_goals (try dsimp only); all_goals (try with_reducible rfl); all_goals (try omega)
          exact (decide_eq_false fun hh => hq (hh i hi)).symm
      · rintro fr H hA ⟨r36, rfl, hP⟩
        have q2 := hA 2 rfl
        have q34 := hA 34 rfl
        have q35 := hA 35 rfl
        try simp (disch := first | exact dschS4 | fail) only [go_sem, ↓reduceIte] at q2 q34 q35
        have hlt : ((p.length : Int) < p.length) = False := eq_false (by omega)
        have hsp := @Nat.succ_ne_zero; repeat' (first | simp (disch := first | exact dschS4 | fail) only [go_sem, ↓reduceIte, hsp, chn, pap, hc, r36, q2, q34, q35, hlt] | refine WP_drw ?_ | refine cnd_intro (fun hsp => ?_) fun hsp => ?_)
        all_goals (first | refine fI ?_ | refine fB ?_ | refine fII ?_ ?_ | refine fBI ?_ ?_ | refine fIII ?_ ?_ ?_ | refine fIIB ?_ ?_ ?_ | skip); all_goals (try dsimp only); all_goals (try with_reducible rfl); all_goals (try omega)
        exact (decide_eq_true hP).symm
    · have e : weavesR w l k s w' p = false := by unfold weavesR; rw [if_pos (.inr hww)]
      rw [e]
      have hsp := @Nat.succ_ne_zero; repeat' (first | simp (disch := first | exact dschS4 | fail) only [go_sem, ↓reduceIte, hsp, chn, pap, hc, hww] | refine WP_drw ?_ | refine cnd_intro (fun hsp => ?_) fun hsp => ?_)
      all_goals (first | refine fI ?_ | refine fB ?_ | refine fII ?_ ?_ | refine fBI ?_ ?_ | refine fIII ?_ ?_ ?_ | refine fIIB ?_ ?_ ?_ | skip); all_goals (try dsimp only); all_goals (try with_reducible rfl); all_goals (try omega)
  · have e : weavesR w l k s w' p = false := by unfold weavesR; rw [if_pos (.inl hc)]
    rw [e]
    have hsp := @Nat.succ_ne_zero; repeat' (first | simp (disch := first | exact dschS4 | fail) only [go_sem, ↓reduceIte, hsp, chn, pap, hc] | refine WP_drw ?_ | refine cnd_intro (fun hsp => ?_) fun hsp => ?_)
    all_goals (first | refine fI ?_ | refine fB ?_ | refine fII ?_ ?_ | refine fBI ?_ ?_ | refine fIII ?_ ?_ ?_ | refine fIIB ?_ ?_ ?_ | skip); all_goals (try dsimp only); all_goals (try with_reducible rfl); all_goals (try omega)
attribute [go_sem] run33
end Go.AM
