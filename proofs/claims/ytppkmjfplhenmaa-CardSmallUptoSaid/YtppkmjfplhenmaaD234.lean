/-
  Contracts: how a plan takes its cards, what a chain weaves.
-/
import Derived.Test.YtppkmjfplhenmaaD1
import Derived.Test.YtppkmjfplhenmaaFCard
set_option linter.unusedSimpArgs false
set_option linter.unusedVariables false
namespace Go.AM
open Go.Proofs.Try
theorem dschD2 {p : Prop} (h : p := by first | exact Nat.ne_of_beq_eq_false rfl | assumption | (apply asOne; (first | exact One.int | exact One.bool | exact newV_one | exact grV_one | exact cloneV_one | exact takF_one | assumption | exact Ints.one (by assumption) | exact One.lit ⟨rfl, rfl, rfl⟩)) | (apply asInts; (repeat first | assumption | (apply newV_ints' <;> first | assumption | (first | rfl | (simp only [List.length_append, List.length_cons, List.length_nil, List.length_set]; done) | (simp only [List.length_append, List.length_cons, List.length_nil, List.length_set]; omega))) | (apply grV_ints <;> first | assumption | (first | rfl | (simp only [List.length_append, List.length_cons, List.length_nil, List.length_set]; done) | (simp only [List.length_append, List.length_cons, List.length_nil, List.length_set]; omega))) | apply Ints.app); done) | (apply asTak; (repeat first | assumption | (refine TakAt.new ?_; (first | rfl | (simp only [List.length_append, List.length_cons, List.length_nil, List.length_set]; done) | (simp only [List.length_append, List.length_cons, List.length_nil, List.length_set]; omega))) | apply TakAt.app); done) | (apply asScal; (first | apply allS1 | apply allS2 | apply allS3 | apply allS4) <;> (first | exact One.int | exact One.bool | exact newV_one | exact grV_one | exact cloneV_one | exact takF_one | assumption | exact Ints.one (by assumption) | exact One.lit ⟨rfl, rfl, rfl⟩)) | exact litT rfl | exact litF rfl | omega | (simp only [List.length_append, List.length_cons, List.length_nil, lst_len, List.length_set, ints_length, List.length_reverse]; first | done | omega) | fail) : p := h
attribute [go_sem] bin_or bin_and

/-! ### Plain numbers -/
/-- The card of a throw, and how far it is moved. -/
def cardN (k n t : Nat) : Nat := if k = 2 then t % n else if k = 1 ∧ 1 < n then min (t % (2 * n - 2)) (2 * n - 2 - t % (2 * n - 2)) else t % n
def moveN (k n s w t : Nat) : Nat := if k = 2 then t / n * s % w else 0
/-- A lift moved. -/
def rotN (x b w : Nat) : Nat := x * 2 ^ b % 2 ^ w + x / 2 ^ (w - b)
/-- What a chain weaves at a throw. -/
def liftN (w : Nat) (l : List Int) (k s t : Nat) : Nat := rotN (l.getD (cardN k l.length t) 0).toNat (moveN k l.length s w t) w

theorem cardN_lt {k n t : Nat} (hn : 1 ≤ n) : cardN k n t < n := by
  unfold cardN
  split
  · exact Nat.mod_lt _ hn
  · split
    · rename_i h2
      have := Nat.mod_lt t (show 2 * n - 2 > 0 by omega)
      omega
    · exact Nat.mod_lt _ hn
theorem moveN_lt {k n s w t : Nat} (hw : 1 ≤ w) : moveN k n s w t < w := by
  unfold moveN
  split
  · exact Nat.mod_lt _ hw
  · omega

theorem chkC_ok {w k s : Int} {l : List Int} (h : chkC w l k s = 0) : (1 ≤ w ∧ w ≤ 8) ∧ (1 ≤ l.length ∧ l.length ≤ 48) ∧ (0 ≤ k ∧ k ≤ 2) ∧ (0 ≤ s ∧ s ≤ 7) ∧ stepOk k s w = true ∧ ∀ x ∈ l, 0 ≤ x ∧ x ≤ 2 ^ w.toNat - 1 := by
  unfold chkC at h
  split at h
  · cases h
  · split at h
    · cases h
    · split at h
      · cases h
      · split at h
        · cases h
        · rename_i h1 h2 h3 h4
          have h5 : stepOk k s w = true := by
            cases hs : stepOk k s w with
            | true => rfl
            | false => exact absurd (.inr (by rw [hs]; simp)) h4
          have h6 : (l.all fun x => decide (0 ≤ x ∧ x ≤ 2 ^ w.toNat - 1)) = true := by
            cases hs : (l.all fun x => decide (0 ≤ x ∧ x ≤ 2 ^ w.toNat - 1)) with
            | true => rfl
            | false => exact absurd (.inl (by rw [hs]; simp)) h4
          refine ⟨by omega, by omega, by omega, ?_, h5, fun x hx => ?_⟩
          · have h7 := h5
            unfold stepOk at h7
            split at h7 <;> simp at h7 <;> omega
          · have := List.all_eq_true.1 h6 x hx
            simpa using this

theorem getD_mem {l : List Int} {i : Nat} (hi : i < l.length) : l.getD i 0 ∈ l := by
  rw [List.getD_eq_getElem?_getD, List.getElem?_eq_getElem hi]
  exact List.getElem_mem hi

theorem tmodN (a b : Nat) : (a : Int).tmod b = ((a % b : Nat) : Int) := rfl
theorem tdivN (a b : Nat) : (a : Int).tdiv b = ((a / b : Nat) : Int) := rfl

/-! ### The taker -/
def takF (k n : Int) (i : Nat) : AVal := if k = 2 then .fn 113 [] [.ptr (some ⟨i, 0, 0⟩), .ptr (some ⟨i + 1, 0, 0⟩), .ptr (some ⟨i + 2, 0, 0⟩)] else if k = 1 ∧ n > 1 then .fn 114 [] [.ptr (some ⟨i, 0, 0⟩)] else .fn 115 [] [.ptr (some ⟨i, 0, 0⟩)]
theorem takV_eq {k n : Int} {i : Nat} : takV k n i = .agg [takF k n i] := by
  unfold takV takF
  split
  · rfl
  · split <;> rfl
theorem takF_one {k n : Int} {i : Nat} : One (takF k n i) := by
  unfold takF
  split
  · exact ⟨rfl, rfl, rfl⟩
  · split <;> exact ⟨rfl, rfl, rfl⟩
theorem run97' {base : Nat} {h : Heap} {k n s w : Int} : callL prog raw base (.fn 97 [] []) [pln k n s, .int .i64 w] h = some (.agg [takF k n h.length], h ++ takH k n s w) := by
  rw [← takV_eq]; exact run97
theorem fl137 {v : AVal} : fieldA prog 137 (.agg [v]) 0 = some v := by
  have h : fld prog 137 0 = some (0, false, 1) := by kernel_rfl
  simp [fieldA, h, partQ]

/-- The taker's variables lie here. -/
def TakAt (H : Heap) (i : Nat) (k n s w : Int) : Prop := H[i]? = some (intB n) ∧ (k = 2 → H[i + 1]? = some (plnB k n s) ∧ H[i + 2]? = some (intB w))
theorem asTak {H : Heap} {i : Nat} {k n s w : Int} (x : TakAt H i k n s w) : TakAt H i k n s w := x
theorem TakAt.app {H T : Heap} {i : Nat} {k n s w : Int} (h : TakAt H i k n s w) : TakAt (H ++ T) i k n s w := by
  have ap : ∀ {j : Nat} {b : ABlk}, H[j]? = some b → (H ++ T)[j]? = some b := fun hb => by rw [List.getElem?_append_left (lt_of_get hb)]; exact hb
  exact ⟨ap h.1, fun hk => ⟨ap (h.2 hk).1, ap (h.2 hk).2⟩⟩
theorem TakAt.new {H : Heap} {i : Nat} {k n s w : Int} (hi : i = H.length) : TakAt (H ++ takH k n s w) i k n s w := by
  subst hi
  unfold TakAt takH
  by_cases hk : k = 2
  · rw [if_pos hk]
    refine ⟨by simp, fun _ => ⟨by simp, by simp⟩⟩
  · rw [if_neg hk]
    exact ⟨by simp, fun h => absurd h hk⟩

theorem runTak {base i : Nat} {H : Heap} {k n s w t : Int} (hT : TakAt H i k n s w) (hk : 0 ≤ k ∧ k ≤ 2) (hn : 1 ≤ n ∧ n ≤ 1000) (hs : 0 ≤ s ∧ s ≤ 1000) (hw : 1 ≤ w ∧ w ≤ 1000) (ht : 0 ≤ t ∧ t ≤ 10000000) :
    callL prog raw base (takF k n i) [.int .i64 t] H = some (.tuple [.int .i64 ((cardN k.toNat n.toNat t.toNat : Nat) : Int), .int .i64 ((moveN k.toNat n.toNat s.toNat w.toNat t.toNat : Nat) : Int)], H) := by
  obtain ⟨n, rfl⟩ := Int.eq_ofNat_of_zero_le (show 0 ≤ n by omega)
  obtain ⟨t, rfl⟩ := Int.eq_ofNat_of_zero_le ht.1
  obtain ⟨s, rfl⟩ := Int.eq_ofNat_of_zero_le hs.1
  obtain ⟨w, rfl⟩ := Int.eq_ofNat_of_zero_le (show 0 ≤ w by omega)
  unfold takF
  by_cases h2 : k = 2
  · subst h2
    rw [if_pos rfl, run113 hT.1 (hT.2 rfl).1 (hT.2 rfl).2 (by omega) (by omega)]
    have h1 : t / n ≤ 10000000 := Nat.le_trans (Nat.div_le_self _ _) (by omega)
    have e : moveN 2 n s w t = t / n * s % w := by simp [moveN]
    have e' : cardN 2 n t = t % n := by simp [cardN]
    have e2 : (2 : Int).toNat = 2 := rfl
    simp only [Int.toNat_natCast, e2]
    rw [e, e', tdivN]
    obtain ⟨q, hq⟩ : ∃ q, t / n = q := ⟨_, rfl⟩
    rw [hq] at h1 ⊢
    have h3 : q * s ≤ 10000000 * 1000 := Nat.mul_le_mul h1 (by omega)
    have e3 : (q : Int) * (s : Int) = ((q * s : Nat) : Int) := by rw [Int.natCast_mul]
    generalize hr : q * s = r at h3 e3
    rw [wrap64 (n := (q : Int)) (by omega) (by omega), e3, wrap64 (n := (r : Int)) (by omega) (by omega), tmodN, tmodN]
  · rw [if_neg h2]
    have hk2 : k.toNat ≠ 2 := by omega
    by_cases h1 : k = 1 ∧ (n : Int) > 1
    · have hk1 : k.toNat = 1 := by omega
      have ec : cardN k.toNat n t = min (t % (2 * n - 2)) (2 * n - 2 - t % (2 * n - 2)) := by unfold cardN; rw [if_neg hk2, if_pos ⟨hk1, by omega⟩]
      have em : moveN k.toNat n s w t = 0 := by unfold moveN; rw [if_neg hk2]
      rw [if_pos h1, run114 hT.1 (by omega) (by omega)]
      simp only [Int.toNat_natCast, ec, em]
      have e : (2 * (n : Int) - 2) = ((2 * n - 2 : Nat) : Int) := by omega
      have h3 := Nat.mod_lt t (show 2 * n - 2 > 0 by omega)
      rw [e, tmodN]
      generalize t % (2 * n - 2) = u at h3
      have e4 : min (u : Int) (((2 * n - 2 : Nat) : Int) - u) = ((min u (2 * n - 2 - u) : Nat) : Int) := by
        rw [Int.min_def, Nat.min_def]
        split <;> split <;> omega
      rw [e4]
      rfl
    · have ec : cardN k.toNat n t = t % n := by unfold cardN; rw [if_neg hk2, if_neg (by omega)]
      have em : moveN k.toNat n s w t = 0 := by unfold moveN; rw [if_neg hk2]
      rw [if_neg h1, run115 hT.1 (by omega)]
      simp only [Int.toNat_natCast, ec, em, tmodN]
      rfl

theorem mv_rot {x b w : Nat} (hw : 1 ≤ w) (hw8 : w ≤ 8) (hx : x < 2 ^ w) (hb : b < w) : mv x b w = ((rotN x b w : Nat) : Int) := by
  have h1 := mvOk_true
  unfold mvOk at h1
  have h2 := List.all_eq_true.1 h1 (w - 1) (by simp; omega)
  have ew : w - 1 + 1 = w := by omega
  rw [ew] at h2
  have h3 := List.all_eq_true.1 h2 x (by simpa using hx)
  have h4 := List.all_eq_true.1 h3 b (by simpa using hb)
  simpa [rotN] using h4

theorem pow_nat {w : Int} (h : 0 ≤ w) : (2 : Int) ^ w.toNat = ((2 ^ w.toNat : Nat) : Int) := by simp

theorem pow_256 {w : Int} (h0 : 1 ≤ w) (h1 : w ≤ 8) : (2 : Int) ^ w.toNat ≤ 256 := by
  rw [pow_nat (by omega)]
  have : (2 : Nat) ^ w.toNat ≤ 2 ^ 8 := Nat.pow_le_pow_right (by decide) (by omega)
  omega

theorem run100' {base : Nat} {h : Heap} {x b w : Int} (hw : 1 ≤ w ∧ w ≤ 8) (hx : 0 ≤ x ∧ x ≤ 2 ^ w.toNat - 1) (hb : 0 ≤ b ∧ b < w) :
    callL prog raw base (.fn 100 [] []) [.int .i64 x, .int .i64 b, .int .i64 w] h = some (.int .i64 ((rotN x.toNat b.toNat w.toNat : Nat) : Int), h) := by
  have := pow_256 hw.1 hw.2
  have h8 := pow_nat (w := w) (by omega)
  rw [run100 hx.1 (by omega) hb.1 (by omega) (by omega)]
  obtain ⟨x, rfl⟩ := Int.eq_ofNat_of_zero_le hx.1
  obtain ⟨b, rfl⟩ := Int.eq_ofNat_of_zero_le hb.1
  obtain ⟨w, rfl⟩ := Int.eq_ofNat_of_zero_le (show 0 ≤ w by omega)
  simp only [Int.toNat_natCast] at hx h8 ⊢
  rw [mv_rot (by omega) (by omega) (by omega) (by omega)]

attribute [go_sem] run97' fl137 runTak run100'

theorem run93 {base : Nat} {h : Heap} {v : AVal} {l : List Int} {w k s t : Int} (hI : Ints h v l) (hc : chkC w l k s = 0) (ht : 0 ≤ t ∧ t ≤ 10000000) :
    callL prog raw base (.fn 93 [] []) [chn w v k s, .int .i64 t] h = some (.int .i64 ((liftN w.toNat l k.toNat s.toNat t.toNat : Nat) : Int), h) := by
  obtain ⟨hw, hn, hk, hs, _, hx⟩ := chkC_ok hc
  have c1 := cardN_lt (k := k.toNat) (n := l.length) (t := t.toNat) (by omega)
  have c2 := moveN_lt (k := k.toNat) (n := l.length) (s := s.toNat) (w := w.toNat) (t := t.toNat) (by omega)
  have c3 := hx _ (getD_mem c1)
  have c4 : (0 : Int) ≤ (moveN k.toNat l.length s.toNat w.toNat t.toNat : Nat) ∧ ((moveN k.toNat l.length s.toNat w.toNat t.toNat : Nat) : Int) < w := by omega
  have c5 : 1 ≤ (l.length : Int) ∧ (l.length : Int) ≤ 1000 := by omega
  have c6 : 0 ≤ s ∧ s ≤ 1000 := by omega
  have c7 : 1 ≤ w ∧ w ≤ 1000 := by omega
  refine callL_run func93 rfl rfl ?_
  have hsp := @Nat.succ_ne_zero; repeat' (first | simp (disch := first | exact dschD2 | fail) only [go_sem, hsp, chn, Int.toNat_natCast] | refine WP_drw ?_ | refine cnd_intro (fun hsp => ?_) fun hsp => ?_)
  all_goals (first | refine fI ?_ | refine fB ?_ | refine fII ?_ ?_ | refine fBI ?_ ?_ | refine fIII ?_ ?_ ?_ | refine fIIB ?_ ?_ ?_ | skip); all_goals (try dsimp only); all_goals (try with_reducible rfl); all_goals (try omega)
  all_goals rfl
attribute [go_sem] run93
end Go.AM
/-
  Contracts: what a chain weaves.
-/
namespace Go.AM
open Go.Proofs.Try
theorem dschD3 {p : Prop} (h : p := by first | exact Nat.ne_of_beq_eq_false rfl | assumption | (apply asOne; (first | exact One.int | exact One.bool | exact newV_one | exact grV_one | exact cloneV_one | exact takF_one | assumption | exact Ints.one (by assumption) | exact One.lit ⟨rfl, rfl, rfl⟩)) | (apply asInts; (repeat first | assumption | (apply newV_ints' <;> first | assumption | (first | rfl | (simp only [List.length_append, List.length_cons, List.length_nil, List.length_set]; done) | (simp only [List.length_append, List.length_cons, List.length_nil, List.length_set]; omega))) | (apply grV_ints <;> first | assumption | (first | rfl | (simp only [List.length_append, List.length_cons, List.length_nil, List.length_set]; done) | (simp only [List.length_append, List.length_cons, List.length_nil, List.length_set]; omega))) | apply Ints.app); done) | (apply asTak; (repeat first | assumption | (refine TakAt.new ?_; (first | rfl | (simp only [List.length_append, List.length_cons, List.length_nil, List.length_set]; done) | (simp only [List.length_append, List.length_cons, List.length_nil, List.length_set]; omega))) | apply TakAt.app); done) | (apply asScal; (first | apply allS1 | apply allS2 | apply allS3 | apply allS4) <;> (first | exact One.int | exact One.bool | exact newV_one | exact grV_one | exact cloneV_one | exact takF_one | assumption | exact Ints.one (by assumption) | exact One.lit ⟨rfl, rfl, rfl⟩)) | exact litT rfl | exact litF rfl | omega | (simp only [List.length_append, List.length_cons, List.length_nil, lst_len, List.length_set, ints_length, List.length_reverse]; first | done | omega) | fail) : p := h

/-- card.Card. -/
def cardS (w : Int) (l : List Int) (k s t : Int) : Int × Int × Int :=
  if chkC w l k s ≠ 0 then (0, 0, chkC w l k s) else if ¬ (0 ≤ t ∧ t ≤ 1000000) then (0, 0, 3) else ((cardN k.toNat l.length t.toNat : Nat), (moveN k.toNat l.length s.toNat w.toNat t.toNat : Nat), 0)
def tup3 (x : Int × Int × Int) : AVal := .tuple [.int .i64 x.1, .int .i64 x.2.1, .int .i64 x.2.2]

theorem run42 {base : Nat} {h : Heap} {v : AVal} {l : List Int} {w k s t : Int} (hI : Ints h v l) :
    callL prog raw base (.fn 42 [] []) [chn w v k s, .int .i64 t] h = some (tup3 (cardS w l k s t), h) := by
  refine callL_run func42 rfl rfl ?_
  by_cases hc : chkC w l k s = 0
  · obtain ⟨hw, hn, hk, hs, _, hx⟩ := chkC_ok hc
    have c5 : 1 ≤ (l.length : Int) ∧ (l.length : Int) ≤ 1000 := by omega
    have c6 : 0 ≤ s ∧ s ≤ 1000 := by omega
    have c7 : 1 ≤ w ∧ w ≤ 1000 := by omega
    by_cases ht : 0 ≤ t ∧ t ≤ 1000000
    · have ht' : 0 ≤ t ∧ t ≤ 10000000 := by omega
      have hsp := @Nat.succ_ne_zero; repeat' (first | simp (disch := first | exact dschD3 | fail) only [go_sem, hsp, chn, hc, ht] | refine WP_drw ?_ | refine cnd_intro (fun hsp => ?_) fun hsp => ?_)
      all_goals (unfold tup3 cardS; rw [if_neg (by simp [hc]), if_neg (by simp [ht])])
      all_goals (first | refine fI ?_ | refine fB ?_ | refine fII ?_ ?_ | refine fBI ?_ ?_ | refine fIII ?_ ?_ ?_ | refine fIIB ?_ ?_ ?_ | skip); all_goals (try dsimp only); all_goals (try with_reducible rfl); all_goals (try omega)
    · have hsp := @Nat.succ_ne_zero; repeat' (first | simp (disch := first | exact dschD3 | fail) only [go_sem, hsp, chn, hc, ht] | refine WP_drw ?_ | refine cnd_intro (fun hsp => ?_) fun hsp => ?_)
      all_goals (unfold tup3 cardS; rw [if_neg (by simp [hc]), if_pos ht])
      all_goals (first | refine fI ?_ | refine fB ?_ | refine fII ?_ ?_ | refine fBI ?_ ?_ | refine fIII ?_ ?_ ?_ | refine fIIB ?_ ?_ ?_ | skip); all_goals (try dsimp only); all_goals (try with_reducible rfl); all_goals (try omega)
  · have hsp := @Nat.succ_ne_zero; repeat' (first | simp (disch := first | exact dschD3 | fail) only [go_sem, hsp, chn, hc] | refine WP_drw ?_ | refine cnd_intro (fun hsp => ?_) fun hsp => ?_)
    all_goals (unfold tup3 cardS; rw [if_pos hc])
    all_goals (first | refine fI ?_ | refine fB ?_ | refine fII ?_ ?_ | refine fBI ?_ ?_ | refine fIII ?_ ?_ ?_ | refine fIIB ?_ ?_ ?_ | skip); all_goals (try dsimp only); all_goals (try with_reducible rfl); all_goals (try omega)

/-- card.Weaves. -/
def weavesS (w : Int) (l : List Int) (k s : Int) (w' : Int) (p : List Int) : Bool × Int :=
  if chkC w l k s ≠ 0 then (false, chkC w l k s) else if chk w' p ≠ 0 then (false, chk w' p) else if w ≠ w' then (false, 7) else
  (decide (∀ t, t < p.length → ((liftN w.toNat l k.toNat s.toNat t : Nat) : Int) = p.getD t 0), 0)
def tupBI (x : Bool × Int) : AVal := .tuple [.bool x.1, .int .i64 x.2]

theorem run68 {base : Nat} {h : Heap} {v v' : AVal} {l p : List Int} {w k s w' : Int} (hI : Ints h v l) (hI' : Ints h v' p) :
    callL prog raw base (.fn 68 [] []) [chn w v k s, pap w' v'] h = some (tupBI (weavesS w l k s w' p), h) := by
  refine callL_run func68 rfl rfl ?_
  by_cases hc : chkC w l k s = 0
  · by_cases hc' : chk w' p = 0
    · by_cases hw : w = w'
      · subst hw
        have hp := (chk_ok hc').2.1
        have hsp := @Nat.succ_ne_zero; repeat' (first | simp (disch := first | exact dschD3 | fail) only [go_sem, hsp, chn, pap, hc, hc'] | refine WP_drw ?_ | refine cnd_intro (fun hsp => ?_) fun hsp => ?_)
        · refine WP_loop (fun σ => ∃ t : Nat, σ.fr 28 = .int .i64 (t : Int) ∧ σ.fr 2 = .ptr (some ⟨h.length, 0, 0⟩) ∧ σ.fr 26 = v' ∧ σ.fr 27 = .int .i64 p.length ∧ σ.h = h ++ [⟨.cells [.int .i64 w, v, .int .i64 k, .int .i64 s] 34 false false, 0⟩] ++ [⟨.cells [.int .i64 w, v'] 24 false false, 0⟩] ∧ t ≤ p.length ∧ (∀ j, j < t → ((liftN w.toNat l k.toNat s.toNat j : Nat) : Int) = p.getD j 0)) (fun σ => match σ.fr 28 with | .int _ x => (((p.length : Nat) : Int) - x).toNat | _ => 0) ?_ ?_
          · refine ⟨0, ?_, ?_, ?_, ?_, ?_, by omega, ?_⟩
            iterate 5 focus (first | rfl | (simp (disch := first | exact dschD3 | fail) only [go_sem, Int.natCast_zero]; first | done | rfl))
            intro j hj; omega
          · rintro ⟨fr, hp⟩ ⟨t, r28, r2, r26, r27, rh, hi, hP⟩
            dsimp only at r28 r2 r26 r27 rh hi hP
            subst rh
            have hsp := @Nat.succ_ne_zero; repeat' (first | simp (disch := first | exact dschD3 | fail) only [go_sem, hsp, r28, r2, r26, r27, chn] | refine WP_drw ?_ | refine cnd_intro (fun hsp => ?_) fun hsp => ?_)
            all_goals (try (unfold tupBI weavesS; rw [if_neg (by simp [hc]), if_neg (by simp [hc']), if_neg (by simp)]))
            all_goals (first | refine fI ?_ | refine fB ?_ | refine fII ?_ ?_ | refine fBI ?_ ?_ | refine fIII ?_ ?_ ?_ | refine fIIB ?_ ?_ ?_ | skip); all_goals (try dsimp only); all_goals (try with_reducible rfl); all_goals (try omega)
            · refine ⟨⟨t + 1, by simp, by omega, fun j hj => ?_⟩, by omega⟩
              by_cases e : j = t
              · subst e; assumption
              · exact hP j (by omega)
            · exact (decide_eq_false fun e => absurd (e t (by omega)) (by assumption)).symm
            · exact (decide_eq_true fun j hj => hP j (by omega)).symm
      · have hsp := @Nat.succ_ne_zero; repeat' (first | simp (disch := first | exact dschD3 | fail) only [go_sem, hsp, chn, pap, hc, hc', hw] | refine WP_drw ?_ | refine cnd_intro (fun hsp => ?_) fun hsp => ?_)
        all_goals (unfold tupBI weavesS; rw [if_neg (by simp [hc]), if_neg (by simp [hc']), if_pos hw])
        all_goals (first | refine fI ?_ | refine fB ?_ | refine fII ?_ ?_ | refine fBI ?_ ?_ | refine fIII ?_ ?_ ?_ | refine fIIB ?_ ?_ ?_ | skip); all_goals (try dsimp only); all_goals (try with_reducible rfl); all_goals (try omega)
    · have hsp := @Nat.succ_ne_zero; repeat' (first | simp (disch := first | exact dschD3 | fail) only [go_sem, hsp, chn, pap, hc, hc'] | refine WP_drw ?_ | refine cnd_intro (fun hsp => ?_) fun hsp => ?_)
      all_goals (unfold tupBI weavesS; rw [if_neg (by simp [hc]), if_pos hc'])
      all_goals (first | refine fI ?_ | refine fB ?_ | refine fII ?_ ?_ | refine fBI ?_ ?_ | refine fIII ?_ ?_ ?_ | refine fIIB ?_ ?_ ?_ | skip); all_goals (try dsimp only); all_goals (try with_reducible rfl); all_goals (try omega)
  · have hsp := @Nat.succ_ne_zero; repeat' (first | simp (disch := first | exact dschD3 | fail) only [go_sem, hsp, chn, pap, hc] | refine WP_drw ?_ | refine cnd_intro (fun hsp => ?_) fun hsp => ?_)
    all_goals (unfold tupBI weavesS; rw [if_pos hc])
    all_goals (first | refine fI ?_ | refine fB ?_ | refine fII ?_ ?_ | refine fBI ?_ ?_ | refine fIII ?_ ?_ ?_ | refine fIIB ?_ ?_ ?_ | skip); all_goals (try dsimp only); all_goals (try with_reducible rfl); all_goals (try omega)
attribute [go_sem] run42 run68
end Go.AM
/-
  Contracts: patterns that are woven, and turned.
-/
namespace Go.AM
open Go.Proofs.Try
theorem dschD4 {p : Prop} (h : p := by first | exact Nat.ne_of_beq_eq_false rfl | assumption | (apply asOne; (first | exact One.int | exact One.bool | exact newV_one | exact grV_one | exact cloneV_one | exact takF_one | assumption | exact Ints.one (by assumption) | exact One.lit ⟨rfl, rfl, rfl⟩)) | (apply asInts; (repeat first | assumption | (apply newV_ints' <;> first | assumption | (first | rfl | (simp only [List.length_append, List.length_cons, List.length_nil, List.length_set]; done) | (simp only [List.length_append, List.length_cons, List.length_nil, List.length_set]; omega))) | (apply grV_ints <;> first | assumption | (first | rfl | (simp only [List.length_append, List.length_cons, List.length_nil, List.length_set]; done) | (simp only [List.length_append, List.length_cons, List.length_nil, List.length_set]; omega))) | apply Ints.app); done) | (apply asTak; (repeat first | assumption | (refine TakAt.new ?_; (first | rfl | (simp only [List.length_append, List.length_cons, List.length_nil, List.length_set]; done) | (simp only [List.length_append, List.length_cons, List.length_nil, List.length_set]; omega))) | apply TakAt.app); done) | (apply asScal; (first | apply allS1 | apply allS2 | apply allS3 | apply allS4) <;> (first | exact One.int | exact One.bool | exact newV_one | exact grV_one | exact cloneV_one | exact takF_one | assumption | exact Ints.one (by assumption) | exact One.lit ⟨rfl, rfl, rfl⟩)) | exact litT rfl | exact litF rfl | omega | (simp only [List.length_append, List.length_cons, List.length_nil, lst_len, List.length_set, ints_length, List.length_reverse]; first | done | omega) | fail) : p := h

/-- A fresh row; nil where it is empty. -/
def nlV (n : Nat) (l : List Int) : AVal := if l = [] then .slice none 0 0 else newV n l
/-- card.Weave: the first throws of a ribbon. -/
def wov (w : Int) (l : List Int) (k s : Int) (n : Nat) : List Int := lst (fun t => ((liftN w.toNat l k.toNat s.toNat t : Nat) : Int)) n
def weaveS (w : Int) (l : List Int) (k s n : Int) : Int × List Int × Int :=
  if chkC w l k s ≠ 0 then (0, [], chkC w l k s) else if ¬ (1 ≤ n ∧ n ≤ 48) then (0, [], 2) else (w, wov w l k s n.toNat, 0)

theorem fin_pap {h H : Heap} {w e w' e' : Int} (ew : w = w') (ee : e = e') (hE : Ext h H) :
    compact h.length (.tuple [pap w (.slice none 0 0), .int .i64 e]) H = some (.tuple [pap w' (nlV h.length []), .int .i64 e'], h ++ newH []) := by
  subst ew ee
  simp only [newH, List.append_nil, nlV, if_true]
  exact fin_pl rfl rfl hE

theorem run69 {base : Nat} {h : Heap} {v : AVal} {l : List Int} {w k s n : Int} (hI : Ints h v l) :
    callL prog raw base (.fn 69 [] []) [chn w v k s, .int .i64 n] h = some (.tuple [pap (weaveS w l k s n).1 (nlV h.length (weaveS w l k s n).2.1), .int .i64 (weaveS w l k s n).2.2], h ++ newH (weaveS w l k s n).2.1) := by
  refine callL_run func69 rfl rfl ?_
  by_cases hc : chkC w l k s = 0
  · by_cases hn : 1 ≤ n ∧ n ≤ 48
    · have e : weaveS w l k s n = (w, wov w l k s n.toNat, 0) := by unfold weaveS; rw [if_neg (by simp [hc]), if_neg (by simp [hn])]
      rw [e]
      have hsp := @Nat.succ_ne_zero; repeat' (first | simp (disch := first | exact dschD4 | fail) only [go_sem, hsp, chn, pap, hc, hn] | refine WP_drw ?_ | refine cnd_intro (fun hsp => ?_) fun hsp => ?_)
      · refine WP_loop (fun σ => ∃ t : Nat, σ.fr 23 = .int .i64 (t : Int) ∧ σ.fr 2 = .ptr (some ⟨h.length, 0, 0⟩) ∧ σ.fr 4 = .ptr (some ⟨h.length + 1, 0, 0⟩) ∧ σ.fr 7 = .ptr (some ⟨h.length + 2, 0, 0⟩) ∧ σ.fr 22 = .int .i64 n ∧ σ.h = h ++ [⟨.cells [.int .i64 w, v, .int .i64 k, .int .i64 s] 34 false false, 0⟩] ++ [⟨.cells [.int .i64 0, .slice none 0 0] 24 false false, 0⟩] ++ [⟨.cells [.int .i64 w, grV (h.length + 3) (wov w l k s t)] 24 false false, 0⟩] ++ grH (wov w l k s t) ∧ t ≤ n.toNat ∧ (True)) (fun σ => match σ.fr 23 with | .int _ x => (((n.toNat : Nat) : Int) - x).toNat | _ => 0) ?_ ?_
        · refine ⟨0, ?_, ?_, ?_, ?_, ?_, ?_, by omega, trivial⟩
          iterate 5 focus (first | rfl | (simp (disch := first | exact dschD4 | fail) only [go_sem, Int.natCast_zero]; first | done | rfl))
          dsimp only
          rw [show wov w l k s 0 = [] from rfl, grV_nil, grH_nil, List.append_nil]
        · rintro ⟨fr, hp⟩ ⟨t, r23, r2, r4, r7, r22, rh, hi, hP⟩
          dsimp only at r23 r2 r4 r7 r22 rh hi hP
          subst rh
          have hl : (wov w l k s t).length < 1073741824 := by rw [wov, lst_len]; omega
          have hsp := @Nat.succ_ne_zero; repeat' (first | simp (disch := first | exact dschD4 | fail) only [go_sem, hsp, r23, r2, r4, r7, r22, chn] | refine WP_drw ?_ | refine cnd_intro (fun hsp => ?_) fun hsp => ?_)
          · refine ⟨⟨t + 1, by simp, ?_, by omega⟩, by omega⟩
            rw [show wov w l k s (t + 1) = wov w l k s t ++ [((liftN w.toNat l k.toNat s.toNat t : Nat) : Int)] from lst_succ]
          · have et : wov w l k s t = wov w l k s n.toNat := by rw [show t = n.toNat by omega]
            rw [et]
            exact fin_gr (f := fun x => .tuple [pap w x, .int .i64 0]) (j := 3) (fun x => by simp [AVal.refs, refsL]) (fun _ => rfl) (fun g x => by simp [AVal.ren, renL]) rfl (by simp) (.app (.app (.app .refl))) rfl rfl
    · have e : weaveS w l k s n = (0, [], 2) := by unfold weaveS; rw [if_neg (by simp [hc]), if_pos hn]
      rw [e]
      have hsp := @Nat.succ_ne_zero; repeat' (first | simp (disch := first | exact dschD4 | fail) only [go_sem, hsp, chn, pap, hc, hn] | refine WP_drw ?_ | refine cnd_intro (fun hsp => ?_) fun hsp => ?_)
      exact fin_pap rfl rfl (.app (.app .refl))
  · have e : weaveS w l k s n = (0, [], chkC w l k s) := by unfold weaveS; rw [if_pos hc]
    rw [e]
    have hsp := @Nat.succ_ne_zero; repeat' (first | simp (disch := first | exact dschD4 | fail) only [go_sem, hsp, chn, pap, hc] | refine WP_drw ?_ | refine cnd_intro (fun hsp => ?_) fun hsp => ?_)
    exact fin_pap rfl rfl (.app (.app .refl))
attribute [go_sem] run69

/-! ### Rows turned -/
theorem rev_get {l : List Int} {i : Nat} (h : i < l.length) : l.reverse.getD i 0 = l.getD (l.length - 1 - i) 0 := by
  simp only [List.getD_eq_getElem?_getD]
  rw [List.getElem?_reverse h]

/-- slices.Reverse of a row that is one's own. -/
theorem run110 {base n : Nat} {A : Heap} {l : List Int} (hn : n = A.length) (hl : l.length < 1073741824) :
    callL prog raw base (.fn 110 [] []) [.slice (some ⟨n, 0, 0⟩) l.length l.length] (A ++ [rowB l 0]) = some (.tuple [], A ++ [rowB l.reverse 0]) := by
  subst hn
  have len : ∀ {H : Heap} {o m k : Nat}, lenOpA prog H 22 (.slice (some ⟨o, 0, 0⟩) m k) = some (.int .i64 (m : Int)) := fun {H o m k} => by simp [lenOpA, Fc.el22, lenA]
  have adr : ∀ {o m k : Nat} {i : Int}, 0 ≤ i → i < m → indexAddrA prog 22 (.slice (some ⟨o, 0, 0⟩) m k) (.int .i64 i) = some (.ptr (some ⟨o, 0, i.toNat⟩)) := fun {o m k i} h0 h1 => by
    simp [indexAddrA, Fc.ar22, Fc.el22, h0, h1, ARef.add]
  refine callL_run func110 rfl rfl ?_
  have hsp := @Nat.succ_ne_zero; repeat' (first | simp (disch := first | exact dschD4 | fail) only [go_sem, hsp, len] | refine WP_drw ?_ | refine cnd_intro (fun hsp => ?_) fun hsp => ?_)
  refine WP_loop (fun σ => ∃ i : Nat, σ.fr 2 = .int .i64 (i : Int) ∧ σ.fr 3 = .int .i64 ((l.length : Int) - 1 - i) ∧ σ.fr 0 = .slice (some ⟨A.length, 0, 0⟩) l.length l.length ∧
    σ.h = A ++ [rowB (lst (fun j => if j < i ∨ l.length - 1 - i < j then l.getD (l.length - 1 - j) 0 else l.getD j 0) l.length) 0] ∧ 2 * i ≤ l.length + 1) (fun σ => match σ.fr 3 with | .int _ x => (x + 1).toNat | _ => 0) ?_ ?_
  · refine ⟨0, by simp (disch := first | exact dschD4 | fail) only [go_sem, Int.natCast_zero], by simp (disch := first | exact dschD4 | fail) only [go_sem, Int.natCast_zero, Int.sub_zero], by simp (disch := first | exact dschD4 | fail) only [go_sem], ?_, by omega⟩
    dsimp only
    rw [show lst (fun j => if j < 0 ∨ l.length - 1 - 0 < j then l.getD (l.length - 1 - j) 0 else l.getD j 0) l.length = l from ?_]
    rw [lst_self l, lst_len]
    refine lst_congr fun i hi => ?_
    rw [if_neg (by omega), lst_get hi]
  · rintro ⟨fr, hp⟩ ⟨i, r2, r3, r0, rh, hi⟩
    dsimp only at r2 r3 r0 rh hi
    subst rh
    have hsp := @Nat.succ_ne_zero; repeat' (first | simp (disch := first | exact dschD4 | fail) only [go_sem, hsp, r2, r3, r0, len, adr] | refine WP_drw ?_ | refine cnd_intro (fun hsp => ?_) fun hsp => ?_)
    · have ej : ((l.length : Int) - 1 - i).toNat = l.length - 1 - i := by omega
      refine ⟨⟨i + 1, by simp, by omega, ?_, by omega⟩, by omega⟩
      rw [ej, if_neg (by omega), if_neg (by omega)]
      congr 3
      refine lst_congr fun j hj => ?_
      by_cases e1 : j = l.length - 1 - i
      · rw [if_pos e1, if_pos (by omega), e1, show l.length - 1 - (l.length - 1 - i) = i by omega]
      · rw [if_neg e1]
        by_cases e2 : j = i
        · rw [if_pos e2, if_pos (by omega), e2]
        · rw [if_neg e2]
          by_cases e3 : j < i ∨ l.length - 1 - i < j
          · rw [if_pos e3, if_pos (by omega)]
          · rw [if_neg e3, if_neg (by omega)]
    · have e : lst (fun j => if j < i ∨ l.length - 1 - i < j then l.getD (l.length - 1 - j) 0 else l.getD j 0) l.length = l.reverse := by
        refine lst_ext (by simp [lst_len]) fun j hj => ?_
        rw [lst_len] at hj
        rw [lst_get hj, rev_get hj]
        by_cases e3 : j < i ∨ l.length - 1 - i < j
        · rw [if_pos e3]
        · rw [if_neg e3, show l.length - 1 - j = j by omega]
      rw [e, show A.length + 1 = (A ++ [rowB l.reverse 0]).length by simp]
      exact compact_plain' rfl
attribute [go_sem] run110

/-- card.Turned. -/
def turnS (w : Int) (l : List Int) : Int × List Int × Int := if chk w l ≠ 0 then (0, [], chk w l) else (w, l.reverse, 0)
theorem nil_of_nilB {h : Heap} {v : AVal} {l : List Int} (hI : Ints h v l) (hl : l ≠ []) : nilB v = false := by
  cases hn : nilB v with
  | false => rfl
  | true => exact absurd (hI.nilB_nil hn).2 hl

theorem run74 {base : Nat} {h : Heap} {v : AVal} {l : List Int} {w : Int} (hI : Ints h v l) (hs : Small l) :
    callL prog raw base (.fn 74 [] []) [pap w v] h = some (.tuple [pap (turnS w l).1 (nlV h.length (turnS w l).2.1), .int .i64 (turnS w l).2.2], h ++ newH (turnS w l).2.1) := by
  refine callL_run func74 rfl rfl ?_
  by_cases hc : chk w l = 0
  · have hp := (chk_ok hc).2.1
    have hne : l ≠ [] := by rintro rfl; simp at hp
    have hne' : l.reverse ≠ [] := by simpa using hne
    have e : turnS w l = (w, l.reverse, 0) := by unfold turnS; rw [if_neg (by simp [hc])]
    have hcl : ∀ {base : Nat} {H : Heap}, Ints H v l → callL prog raw base (.fn 86 [] []) [v] H = some (.slice (some ⟨H.length, 0, 0⟩) l.length l.length, H ++ [rowB l 0]) := fun {base H} hI' => by
      rw [run86 hI' hs, cloneV, cloneH, nil_of_nilB hI' hne]
      simp [newV_ne hne, newH_ne hne]
    have hl : l.length < 1073741824 := by omega
    rw [e]
    have hsp := @Nat.succ_ne_zero; repeat' (first | simp (disch := first | exact dschD4 | fail) only [go_sem, hsp, pap, hc, hcl] | refine WP_drw ?_ | refine cnd_intro (fun hsp => ?_) fun hsp => ?_)
    rw [show l.length = l.reverse.length by simp]
    refine fin_nw (f := fun x => .tuple [pap w x, .int .i64 0]) (l := l.reverse) (j := 2) (fun x => by simp [AVal.refs, refsL]) (fun g x => by simp [AVal.ren, renL]) hne' (.app (.app (.app .refl))) (by simp (disch := first | exact dschD4 | fail) only [go_sem]) ?_ rfl
    simp [nlV, hne]
  · have e : turnS w l = (0, [], chk w l) := by unfold turnS; rw [if_pos hc]
    rw [e]
    have hsp := @Nat.succ_ne_zero; repeat' (first | simp (disch := first | exact dschD4 | fail) only [go_sem, hsp, pap, hc] | refine WP_drw ?_ | refine cnd_intro (fun hsp => ?_) fun hsp => ?_)
    exact fin_pap rfl rfl (.app (.app .refl))
attribute [go_sem] run74
end Go.AM
