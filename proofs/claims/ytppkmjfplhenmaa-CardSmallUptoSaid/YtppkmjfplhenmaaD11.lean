/-
  Contracts: where ribbons differ, and their floats.
-/
import Derived.Test.YtppkmjfplhenmaaD10
set_option linter.unusedSimpArgs false
set_option linter.unusedVariables false
namespace Go.AM
open Go.Proofs.Try
theorem dschD11 {p : Prop} (h : p := by first | exact Nat.ne_of_beq_eq_false rfl | assumption | (apply asOne; (first | exact One.int | exact One.bool | exact newV_one | exact grV_one | exact cloneV_one | exact takF_one | assumption | exact Ints.one (by assumption) | exact One.lit ⟨rfl, rfl, rfl⟩)) | (apply asInts; (repeat first | assumption | (apply newV_ints' <;> first | assumption | (first | rfl | (simp only [List.length_append, List.length_cons, List.length_nil, List.length_set]; done) | (simp only [List.length_append, List.length_cons, List.length_nil, List.length_set]; omega))) | (apply grV_ints <;> first | assumption | (first | rfl | (simp only [List.length_append, List.length_cons, List.length_nil, List.length_set]; done) | (simp only [List.length_append, List.length_cons, List.length_nil, List.length_set]; omega))) | apply Ints.app); done) | (apply asScal; (first | apply allS1 | apply allS2 | apply allS3 | apply allS4) <;> (first | exact One.int | exact One.bool | exact newV_one | exact grV_one | exact cloneV_one | exact takF_one | assumption | exact Ints.one (by assumption) | exact One.lit ⟨rfl, rfl, rfl⟩)) | exact litT rfl | exact litF rfl | omega | (simp only [List.length_append, List.length_cons, List.length_nil, lst_len, List.length_set, ints_length, List.length_reverse]; first | done | omega) | fail) : p := h

/-- card.Differ. -/
def difN (w : Nat) (a b : List Int) (k s k' s' : Nat) : Option Nat := findI (fun t => decide (liftN w a k s t ≠ liftN w b k' s' t)) (rndN k a.length w + rndN k' b.length w)
def difS (w : Int) (a : List Int) (k s w' : Int) (b : List Int) (k' s' : Int) : Int × Int :=
  if chkC w a k s ≠ 0 then (0, chkC w a k s) else if chkC w' b k' s' ≠ 0 then (0, chkC w' b k' s') else if w ≠ w' then (0, 7) else
  match difN w.toNat a b k.toNat s.toNat k'.toNat s'.toNat with | some t => ((t : Int), 0) | none => (0, 6)

theorem run55 {base : Nat} {h : Heap} {v v' : AVal} {a b : List Int} {w k s w' k' s' : Int} (hI : Ints h v a) (hI' : Ints h v' b) :
    callL prog raw base (.fn 55 [] []) [chn w v k s, chn w' v' k' s'] h = some (tup2 (difS w a k s w' b k' s'), h) := by
  have bs : ∀ {lit : Bool} {H : Heap}, bsA prog lit H 139 2 [(0, chn w v k s), (1, chn w' v' k' s')] = some (.slice (some ⟨H.length, 0, 0⟩) 2 2, H ++ [⟨.cells [.int .i64 w, v, .int .i64 k, .int .i64 s, .int .i64 w', v', .int .i64 k', .int .i64 s'] 34 true false, 0⟩]) := fun {lit H} => by
    simp [bsA, rowOf, Fc.el139, fillA, repCells, isN_agg, cells_agg, splice]
  refine callL_run func55 rfl rfl ?_
  by_cases hc : chkC w a k s = 0
  · by_cases hc' : chkC w' b k' s' = 0
    · by_cases hw : w = w'
      · subst hw
        obtain ⟨hw, hn, hk, hs, _, hx⟩ := chkC_ok hc
        obtain ⟨_, hn', hk', hs', _, hx'⟩ := chkC_ok hc'
        have hr := rnd_eq (k := k) (w := w) (n := a.length) (by omega) (by omega) (by omega)
        have hb := rndN_bd (k := k.toNat) (n := a.length) (w := w.toNat) (by omega) (by omega) (by omega) (by omega)
        have hr' := rnd_eq (k := k') (w := w) (n := b.length) (by omega) (by omega) (by omega)
        have hb' := rndN_bd (k := k'.toNat) (n := b.length) (w := w.toNat) (by omega) (by omega) (by omega) (by omega)
        have hl1 : a.length ≤ 1000 := by omega
        have hl2 : b.length ≤ 1000 := by omega
        have e0 : difS w a k s w b k' s' = match difN w.toNat a b k.toNat s.toNat k'.toNat s'.toNat with | some t => ((t : Int), 0) | none => (0, 6) := by
          unfold difS; rw [if_neg (by simp [hc]), if_neg (by simp [hc']), if_neg (by simp)]
        rw [e0]
        unfold difN
        unfold tup2
        generalize hR : rndN k.toNat a.length w.toNat = R at *
        generalize hR' : rndN k'.toNat b.length w.toNat = R' at *
        have hsp := @Nat.succ_ne_zero; repeat' (first | simp (disch := first | exact dschD11 | fail) only [go_sem, hsp, chn, bs, hc, hc'] | refine WP_drw ?_ | refine cnd_intro (fun hsp => ?_) fun hsp => ?_)
        rw [WP_loop1]; have hsp := @Nat.succ_ne_zero; repeat' (first | simp (disch := first | exact dschD11 | fail) only [go_sem, hsp, chn, bs, hc, hc'] | refine WP_drw ?_ | refine cnd_intro (fun hsp => ?_) fun hsp => ?_)
        rw [WP_loop1]; have hsp := @Nat.succ_ne_zero; repeat' (first | simp (disch := first | exact dschD11 | fail) only [go_sem, hsp, chn, bs, hc, hc'] | refine WP_drw ?_ | refine cnd_intro (fun hsp => ?_) fun hsp => ?_)
        rw [WP_loop1]; have hsp := @Nat.succ_ne_zero; repeat' (first | simp (disch := first | exact dschD11 | fail) only [go_sem, hsp, chn, bs, hc, hc', hr, hr'] | refine WP_drw ?_ | refine cnd_intro (fun hsp => ?_) fun hsp => ?_)
        refine WP_loop (fun σ => ∃ t : Nat, ∃ T : Heap, σ.fr 34 = .int .i64 (t : Int) ∧ σ.fr 33 = .int .i64 ((R : Int) + R') ∧ σ.fr 2 = .ptr (some ⟨h.length, 0, 0⟩) ∧ σ.fr 3 = .ptr (some ⟨h.length + 1, 0, 0⟩) ∧ σ.h = h ++ [⟨.cells [.int .i64 w, v, .int .i64 k, .int .i64 s] 34 false false, 0⟩] ++ [⟨.cells [.int .i64 w, v', .int .i64 k', .int .i64 s'] 34 false false, 0⟩] ++ T ∧ t ≤ R + R' ∧ (∀ j, j < t → decide (liftN w.toNat a k.toNat s.toNat j ≠ liftN w.toNat b k'.toNat s'.toNat j) = false)) (fun σ => match σ.fr 34 with | .int _ x => (((R + R' : Nat) : Int) - x).toNat | _ => 0) ?_ ?_
        · refine ⟨0, [⟨.cells [.int .i64 w, v, .int .i64 k, .int .i64 s, .int .i64 w, v', .int .i64 k', .int .i64 s'] 34 true false, 0⟩] ++ [⟨.cells [.int .i64 w, v, .int .i64 k, .int .i64 s] 34 false false, 0⟩] ++ [⟨.cells [.int .i64 w, v', .int .i64 k', .int .i64 s'] 34 false false, 0⟩], ?_, ?_, ?_, ?_, ?_, by omega, ?_⟩
          iterate 4 focus (first | rfl | (simp (disch := first | exact dschD11 | fail) only [go_sem, Int.natCast_zero]; first | done | rfl))
          · dsimp only
            simp only [List.append_assoc]
          · intro j hj; omega
        · rintro ⟨fr, hp⟩ ⟨t, T, r34, r33, r2, r3, rh, hi, hP⟩
          dsimp only at r34 r33 r2 r3 rh hi hP
          subst rh
          have e3 : (((liftN w.toNat a k.toNat s.toNat t : Nat) : Int) = ((liftN w.toNat b k'.toNat s'.toNat t : Nat) : Int)) = (liftN w.toNat a k.toNat s.toNat t = liftN w.toNat b k'.toNat s'.toNat t) := propext (by omega)
          have hsp := @Nat.succ_ne_zero; repeat' (first | simp (disch := first | exact dschD11 | fail) only [go_sem, hsp, r34, r33, r2, r3, chn, e3] | refine WP_drw ?_ | refine cnd_intro (fun hsp => ?_) fun hsp => ?_)
          · refine ⟨⟨t + 1, T, by simp, rfl, by omega, fun j hj => ?_⟩, by omega⟩
            by_cases e : j = t
            · subst e; simpa using hsp
            · exact hP j (by omega)
          · rw [findI_some (t := t) (by omega) (by simpa using hsp) hP]
            all_goals (first | refine fI ?_ | refine fB ?_ | refine fII ?_ ?_ | refine fBI ?_ ?_ | refine fIII ?_ ?_ ?_ | refine fIIB ?_ ?_ ?_ | skip); all_goals (try dsimp only); all_goals (try with_reducible rfl); all_goals (try omega)
          · rw [findI_none fun j hj => hP j (by omega)]
            all_goals (first | refine fI ?_ | refine fB ?_ | refine fII ?_ ?_ | refine fBI ?_ ?_ | refine fIII ?_ ?_ ?_ | refine fIIB ?_ ?_ ?_ | skip); all_goals (try dsimp only); all_goals (try with_reducible rfl); all_goals (try omega)
      · have hsp := @Nat.succ_ne_zero; repeat' (first | simp (disch := first | exact dschD11 | fail) only [go_sem, hsp, chn, bs, hc, hc', hw] | refine WP_drw ?_ | refine cnd_intro (fun hsp => ?_) fun hsp => ?_)
        rw [WP_loop1]; have hsp := @Nat.succ_ne_zero; repeat' (first | simp (disch := first | exact dschD11 | fail) only [go_sem, hsp, chn, bs, hc, hc', hw] | refine WP_drw ?_ | refine cnd_intro (fun hsp => ?_) fun hsp => ?_)
        rw [WP_loop1]; have hsp := @Nat.succ_ne_zero; repeat' (first | simp (disch := first | exact dschD11 | fail) only [go_sem, hsp, chn, bs, hc, hc', hw] | refine WP_drw ?_ | refine cnd_intro (fun hsp => ?_) fun hsp => ?_)
        rw [WP_loop1]; have hsp := @Nat.succ_ne_zero; repeat' (first | simp (disch := first | exact dschD11 | fail) only [go_sem, hsp, chn, bs, hc, hc', hw] | refine WP_drw ?_ | refine cnd_intro (fun hsp => ?_) fun hsp => ?_)
        unfold tup2
        rw [difS, if_neg (by simp [hc]), if_neg (by simp [hc']), if_pos hw]
        all_goals (first | refine fI ?_ | refine fB ?_ | refine fII ?_ ?_ | refine fBI ?_ ?_ | refine fIII ?_ ?_ ?_ | refine fIIB ?_ ?_ ?_ | skip); all_goals (try dsimp only); all_goals (try with_reducible rfl); all_goals (try omega)
    · have hsp := @Nat.succ_ne_zero; repeat' (first | simp (disch := first | exact dschD11 | fail) only [go_sem, hsp, chn, bs, hc, hc'] | refine WP_drw ?_ | refine cnd_intro (fun hsp => ?_) fun hsp => ?_)
      rw [WP_loop1]; have hsp := @Nat.succ_ne_zero; repeat' (first | simp (disch := first | exact dschD11 | fail) only [go_sem, hsp, chn, bs, hc, hc'] | refine WP_drw ?_ | refine cnd_intro (fun hsp => ?_) fun hsp => ?_)
      rw [WP_loop1]; have hsp := @Nat.succ_ne_zero; repeat' (first | simp (disch := first | exact dschD11 | fail) only [go_sem, hsp, chn, bs, hc, hc'] | refine WP_drw ?_ | refine cnd_intro (fun hsp => ?_) fun hsp => ?_)
      unfold tup2
      rw [difS, if_neg (by simp [hc]), if_pos hc']
      all_goals (first | refine fI ?_ | refine fB ?_ | refine fII ?_ ?_ | refine fBI ?_ ?_ | refine fIII ?_ ?_ ?_ | refine fIIB ?_ ?_ ?_ | skip); all_goals (try dsimp only); all_goals (try with_reducible rfl); all_goals (try omega)
  · have hsp := @Nat.succ_ne_zero; repeat' (first | simp (disch := first | exact dschD11 | fail) only [go_sem, hsp, chn, bs, hc] | refine WP_drw ?_ | refine cnd_intro (fun hsp => ?_) fun hsp => ?_)
    rw [WP_loop1]; have hsp := @Nat.succ_ne_zero; repeat' (first | simp (disch := first | exact dschD11 | fail) only [go_sem, hsp, chn, bs, hc] | refine WP_drw ?_ | refine cnd_intro (fun hsp => ?_) fun hsp => ?_)
    unfold tup2
    rw [difS, if_pos hc]
    all_goals (first | refine fI ?_ | refine fB ?_ | refine fII ?_ ?_ | refine fBI ?_ ?_ | refine fIII ?_ ?_ ?_ | refine fIIB ?_ ?_ ?_ | skip); all_goals (try dsimp only); all_goals (try with_reducible rfl); all_goals (try omega)
attribute [go_sem] run55

/-! ### Floats -/
/-- After t throws: how long the float is now, how long the longest was, and whether the thread was lifted. -/
def flS (p : Nat → Bool) : Nat → Nat × Nat × Bool
  | 0 => (0, 0, false)
  | t + 1 => (if p t = true then 0 else (flS p t).1 + 1, max (flS p t).2.1 (if p t = true then 0 else (flS p t).1 + 1), (flS p t).2.2 || p t)
def bitN (w : Nat) (l : List Int) (k s j t : Nat) : Bool := decide (liftN w l k s t / 2 ^ j % 2 = 1)
/-- The longest of the floats of the first threads. -/
def mostN (w : Nat) (l : List Int) (k s : Nat) : Nat → Nat
  | 0 => 0
  | j + 1 => max (mostN w l k s j) (flS (bitN w l k s j) (2 * rndN k l.length w)).2.1
def allLift (w : Nat) (l : List Int) (k s n : Nat) : Bool := decide (∀ j, j < n → (flS (bitN w l k s j) (2 * rndN k l.length w)).2.2 = true)
def floatS (w : Int) (l : List Int) (k s : Int) : Int × Int :=
  if chkC w l k s ≠ 0 then (0, chkC w l k s) else if allLift w.toNat l k.toNat s.toNat w.toNat = true then (((mostN w.toNat l k.toNat s.toNat w.toNat : Nat) : Int), 0) else (0, 6)

theorem run94 {base : Nat} {h : Heap} {v : AVal} {n m : Int} (hI : Ints h v [m]) : callL prog raw base (.fn 94 [] []) [.int .i64 n, v] h = some (.int .i64 (max n m), h) := by
  refine callL_run func94 rfl rfl ?_
  have e : [m].getD 0 0 = m := rfl
  have hsp := @Nat.succ_ne_zero; repeat' (first | simp (disch := first | exact dschD11 | fail) only [go_sem, hsp, List.length_singleton, e] | refine WP_drw ?_ | refine cnd_intro (fun hsp => ?_) fun hsp => ?_)
  rw [WP_loop1]; have hsp := @Nat.succ_ne_zero; repeat' (first | simp (disch := first | exact dschD11 | fail) only [go_sem, hsp, List.length_singleton, e] | refine WP_drw ?_ | refine cnd_intro (fun hsp => ?_) fun hsp => ?_)
  rw [WP_loop1]; have hsp := @Nat.succ_ne_zero; repeat' (first | simp (disch := first | exact dschD11 | fail) only [go_sem, hsp, List.length_singleton, e] | refine WP_drw ?_ | refine cnd_intro (fun hsp => ?_) fun hsp => ?_)
  all_goals (first | refine fI ?_ | refine fB ?_ | refine fII ?_ ?_ | refine fBI ?_ ?_ | refine fIII ?_ ?_ ?_ | refine fIIB ?_ ?_ ?_ | skip); all_goals (try dsimp only); all_goals (try with_reducible rfl); all_goals (try omega)
attribute [go_sem] run94

theorem ints_one {h : Heap} {n : Nat} {x : Int} (hn : n = h.length) (hx : -9223372036854775808 ≤ x ∧ x < 9223372036854775808) : Ints (h ++ [rowB [x] 0]) (.slice (some ⟨n, 0, 0⟩) 1 1) [x] := by
  subst hn
  refine ⟨⟨by simp, fun y hy => by simp at hy; subst hy; exact hx⟩, .inr (.inr ⟨⟨h.length, 0, 0⟩, 1, [.int .i64 x], 3, true, false, rfl, by simp [rowB, ints], rfl, by simp, by simp⟩)⟩
/-- longest of a number and one more. -/
theorem run94' {base n : Nat} {h : Heap} {a b : Int} (hn : n = h.length) (hb : -9223372036854775808 ≤ b ∧ b < 9223372036854775808) :
    callL prog raw base (.fn 94 [] []) [.int .i64 a, .slice (some ⟨n, 0, 0⟩) 1 1] (h ++ [rowB [b] 0]) = some (.int .i64 (max a b), h ++ [rowB [b] 0]) := run94 (ints_one hn hb)
attribute [go_sem] run94'

theorem andI_one {x : Nat} (h : x < 9223372036854775808) : andI (x : Int) 1 = ((x % 2 : Nat) : Int) := by
  unfold andI
  have e : BitVec.ofInt 64 (x : Int) &&& BitVec.ofInt 64 1 = BitVec.ofNat 64 (x % 2) := by
    apply BitVec.eq_of_toNat_eq
    simp [BitVec.toNat_and, BitVec.toNat_ofInt]
    omega
  rw [e]
  have h1 : (BitVec.ofNat 64 (x % 2)).toNat = x % 2 := by simp; omega
  rw [h1, wrap64 (by omega) (by omega)]
theorem shr_N {t : TypeId} {x j : Nat} (hj : j ≤ 60) : binA prog .shr t (.int .i64 x) (.int .i64 j) = some (.int .i64 ((x / 2 ^ j : Nat) : Int)) := by
  rw [shr_small (by omega) (by omega)]
  have e : (2 : Int) ^ (j : Int).toNat = ((2 ^ j : Nat) : Int) := by simp
  rw [e, Int.fdiv_eq_ediv_of_nonneg _ (Int.natCast_nonneg _)]
  rfl
attribute [go_sem 2000] shr_N
theorem rotN_lt {x b w : Nat} (hx : x < 2 ^ w) (hb : b ≤ w) : rotN x b w < 2 ^ (w + 1) := by
  unfold rotN
  have h1 := Nat.mod_lt (x * 2 ^ b) (Nat.two_pow_pos w)
  have h2 : x / 2 ^ (w - b) ≤ x := Nat.div_le_self _ _
  rw [Nat.pow_succ]
  omega
theorem liftN_small {w k s : Int} {l : List Int} (hc : chkC w l k s = 0) (t : Nat) : liftN w.toNat l k.toNat s.toNat t < 512 := by
  obtain ⟨hw, hn, hk, hs, _, hx⟩ := chkC_ok hc
  have h1 := hx _ (getD_mem (l := l) (cardN_lt (k := k.toNat) (t := t) (by omega)))
  have h2 := moveN_lt (k := k.toNat) (n := l.length) (s := s.toNat) (w := w.toNat) (t := t) (by omega)
  have h3 := pow_nat (w := w) (by omega)
  have h4 := rotN_lt (x := (l.getD (cardN k.toNat l.length t) 0).toNat) (b := moveN k.toNat l.length s.toNat w.toNat t) (w := w.toNat) (by omega) (by omega)
  have h5 : 2 ^ (w.toNat + 1) ≤ 2 ^ 9 := Nat.pow_le_pow_right (by decide) (by omega)
  unfold liftN
  omega
theorem flS_le {p : Nat → Bool} : ∀ t, (flS p t).1 ≤ t ∧ (flS p t).2.1 ≤ t
  | 0 => by simp [flS]
  | t + 1 => by
    have := flS_le (p := p) t
    simp only [flS]
    split <;> omega

theorem flS_true {p : Nat → Bool} {t : Nat} (h : p t = true) : flS p (t + 1) = (0, max (flS p t).2.1 0, true) := by simp [flS, h]
theorem flS_false {p : Nat → Bool} {t : Nat} (h : ¬ p t = true) : flS p (t + 1) = ((flS p t).1 + 1, max (flS p t).2.1 ((flS p t).1 + 1), (flS p t).2.2) := by simp [flS, h]

theorem run37 {base : Nat} {h : Heap} {v : AVal} {l : List Int} {w k s : Int} (hI : Ints h v l) :
    callL prog raw base (.fn 37 [] []) [chn w v k s] h = some (tup2 (floatS w l k s), h) := by
  refine callL_run func37 rfl rfl ?_
  by_cases hc : chkC w l k s = 0
  · obtain ⟨hw, hn, hk, hs, _, hx⟩ := chkC_ok hc
    have e : floatS w l k s = if allLift w.toNat l k.toNat s.toNat w.toNat = true then (((mostN w.toNat l k.toNat s.toNat w.toNat : Nat) : Int), 0) else (0, 6) := by unfold floatS; rw [if_neg (by simp [hc])]
    have hr := rnd_eq (k := k) (w := w) (n := l.length) (by omega) (by omega) (by omega)
    have hb := rndN_bd (k := k.toNat) (n := l.length) (w := w.toNat) (by omega) (by omega) (by omega) (by omega)
    have hl1 : l.length ≤ 1000 := by omega
    rw [e]
    unfold tup2
    have hsp := @Nat.succ_ne_zero; repeat' (first | simp (disch := first | exact dschD11 | fail) only [go_sem, hsp, chn, hc] | refine WP_drw ?_ | refine cnd_intro (fun hsp => ?_) fun hsp => ?_)
    refine WP_loop (fun σ => ∃ j : Nat, ∃ T : Heap, σ.fr 18 = .int .i64 (j : Int) ∧ σ.fr 17 = .int .i64 w ∧ σ.fr 5 = .int .i64 (mostN w.toNat l k.toNat s.toNat j : Nat) ∧ σ.fr 1 = .ptr (some ⟨h.length, 0, 0⟩) ∧ σ.h = h ++ [⟨.cells [.int .i64 w, v, .int .i64 k, .int .i64 s] 34 false false, 0⟩] ++ T ∧ j ≤ w.toNat ∧ ((∀ i, i < j → (flS (bitN w.toNat l k.toNat s.toNat i) (2 * rndN k.toNat l.length w.toNat)).2.2 = true) ∧ mostN w.toNat l k.toNat s.toNat j ≤ 1000)) (fun σ => match σ.fr 18 with | .int _ x => (((w.toNat : Nat) : Int) - x).toNat | _ => 0) ?_ ?_
    · refine ⟨0, [], ?_, ?_, ?_, ?_, ?_, by omega, ?_⟩
      iterate 4 focus (first | rfl | (simp (disch := first | exact dschD11 | fail) only [go_sem, Int.natCast_zero]; first | done | rfl))
      · dsimp only
        rw [List.append_nil]
      · exact ⟨fun i hi => by omega, by simp [mostN]⟩
    · rintro ⟨fr, hp⟩ ⟨j, T, r18, r17, r5, r1, rh, hi, hP⟩
      dsimp only at r18 r17 r5 r1 rh hi hP
      subst rh
      obtain ⟨hP1, hP2⟩ := hP
      have q18 := r18
      have hsp := @Nat.succ_ne_zero; repeat' (first | simp (disch := first | exact dschD11 | fail) only [go_sem, hsp, r18, r17, r5, r1, chn, hr] | refine WP_drw ?_ | refine cnd_intro (fun hsp => ?_) fun hsp => ?_)
      · refine WP_loop (fun σ => ∃ t : Nat, ∃ T2 : Heap, σ.fr 24 = .int .i64 (t : Int) ∧ σ.fr 23 = .int .i64 (2 * ((rndN k.toNat l.length w.toNat : Nat) : Int)) ∧ σ.fr 7 = .int .i64 ((flS (bitN w.toNat l k.toNat s.toNat j) t).1 : Nat) ∧ σ.fr 8 = .int .i64 ((flS (bitN w.toNat l k.toNat s.toNat j) t).2.1 : Nat) ∧ σ.fr 9 = .bool (flS (bitN w.toNat l k.toNat s.toNat j) t).2.2 ∧ σ.fr 6 = .int .i64 j ∧ σ.fr 18 = .int .i64 j ∧ σ.fr 17 = .int .i64 w ∧ σ.fr 5 = .int .i64 (mostN w.toNat l k.toNat s.toNat j : Nat) ∧ σ.fr 1 = .ptr (some ⟨h.length, 0, 0⟩) ∧ σ.h = h ++ [⟨.cells [.int .i64 w, v, .int .i64 k, .int .i64 s] 34 false false, 0⟩] ++ T2 ∧ t ≤ 2 * rndN k.toNat l.length w.toNat ∧ (True)) (fun σ => match σ.fr 24 with | .int _ x => (((2 * rndN k.toNat l.length w.toNat : Nat) : Int) - x).toNat | _ => 0) ?_ ?_
        · refine ⟨0, T, ?_, ?_, ?_, ?_, ?_, ?_, ?_, ?_, ?_, ?_, ?_, by omega, trivial⟩
          iterate 10 focus (first | rfl | (simp (disch := first | exact dschD11 | fail) only [go_sem, Int.natCast_zero, r18, r17, r5, r1, flS]; first | done | rfl))
          rfl
        · rintro ⟨fr, hp⟩ ⟨t, T2, r24, r23, r7, r8, r9, r6, r18, r17, r5, r1, rh, hi, hP⟩
          dsimp only at r24 r23 r7 r8 r9 r6 r18 r17 r5 r1 rh hi hP
          subst rh
          have hle := flS_le (p := bitN w.toNat l k.toNat s.toNat j) t
          have hsm := liftN_small hc t
          have hdv : liftN w.toNat l k.toNat s.toNat t / 2 ^ j ≤ liftN w.toNat l k.toNat s.toNat t := Nat.div_le_self _ _
          have e2 : andI ((liftN w.toNat l k.toNat s.toNat t / 2 ^ j : Nat) : Int) 1 = ((liftN w.toNat l k.toNat s.toNat t / 2 ^ j % 2 : Nat) : Int) := andI_one (by omega)
          have e3 : (((liftN w.toNat l k.toNat s.toNat t / 2 ^ j % 2 : Nat) : Int) = 1) = (bitN w.toNat l k.toNat s.toNat j t = true) := by
            unfold bitN
            rw [decide_eq_true_eq]
            exact propext (by omega)
          have hsp := @Nat.succ_ne_zero; repeat' (first | simp (disch := first | exact dschD11 | fail) only [go_sem, hsp, r24, r23, r7, r8, r9, r6, r18, r17, r5, r1, chn, e2, e3] | refine WP_drw ?_ | refine cnd_intro (fun hsp => ?_) fun hsp => ?_)
          · refine ⟨⟨t + 1, T2 ++ [rowB [0] 0], by simp, ?_, ?_, ?_, by simp only [List.append_assoc], by omega⟩, by omega⟩
            · rw [flS_true hsp]; rfl
            · rw [flS_true hsp]; dsimp only; omega
            · rw [flS_true hsp]
          · refine ⟨⟨t + 1, T2 ++ [rowB [((flS (bitN w.toNat l k.toNat s.toNat j) t).1 : Int) + 1] 0], by simp, ?_, ?_, ?_, by simp only [List.append_assoc], by omega⟩, by omega⟩
            · rw [flS_false hsp]; rfl
            · rw [flS_false hsp]; dsimp only; omega
            · rw [flS_false hsp]
          · have et : t = 2 * rndN k.toNat l.length w.toNat := by omega
            subst et
            rw [if_neg]
            · all_goals (first | refine fI ?_ | refine fB ?_ | refine fII ?_ ?_ | refine fBI ?_ ?_ | refine fIII ?_ ?_ ?_ | refine fIIB ?_ ?_ ?_ | skip); all_goals (try dsimp only); all_goals (try with_reducible rfl); all_goals (try omega)
            · unfold allLift
              rw [decide_eq_true_eq]
              intro hh
              have := hh j (by omega)
              simp [this] at hsp
          · have et : t = 2 * rndN k.toNat l.length w.toNat := by omega
            refine ⟨⟨j + 1, T2 ++ [rowB [((flS (bitN w.toNat l k.toNat s.toNat j) t).2.1 : Int)] 0], by simp, ?_, by simp only [List.append_assoc], by omega, fun i hi => ?_, ?_⟩, ?_⟩
            · simp only [mostN]
              rw [← et]
              omega
            · by_cases e3 : i = j
              · subst e3
                rw [← et]
                simpa using hsp
              · exact hP1 i (by omega)
            · simp only [mostN]
              rw [← et]
              omega
            · rw [q18]
              dsimp only
              omega
      · have ej : j = w.toNat := by omega
        subst ej
        rw [if_pos (by unfold allLift; rw [decide_eq_true_eq]; exact hP1)]
        all_goals (first | refine fI ?_ | refine fB ?_ | refine fII ?_ ?_ | refine fBI ?_ ?_ | refine fIII ?_ ?_ ?_ | refine fIIB ?_ ?_ ?_ | skip); all_goals (try dsimp only); all_goals (try with_reducible rfl); all_goals (try omega)
  · unfold tup2
    rw [floatS, if_pos hc]
    have hsp := @Nat.succ_ne_zero; repeat' (first | simp (disch := first | exact dschD11 | fail) only [go_sem, hsp, chn, hc] | refine WP_drw ?_ | refine cnd_intro (fun hsp => ?_) fun hsp => ?_)
    all_goals (first | refine fI ?_ | refine fB ?_ | refine fII ?_ ?_ | refine fBI ?_ ?_ | refine fIII ?_ ?_ ?_ | refine fIIB ?_ ?_ ?_ | skip); all_goals (try dsimp only); all_goals (try with_reducible rfl); all_goals (try omega)
attribute [go_sem] run37
end Go.AM
