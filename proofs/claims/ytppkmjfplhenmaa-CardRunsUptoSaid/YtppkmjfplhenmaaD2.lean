/-
  Contracts: how a plan takes its cards, what a chain weaves.
-/
import Derived.Test.YtppkmjfplhenmaaD1
set_option linter.unusedSimpArgs false
set_option linter.unusedVariables false
namespace Go.AM
open Go.Proofs.Try
theorem dschD2 {p : Prop} (h : p := by first | exact Nat.ne_of_beq_eq_false rfl | assumption | (apply asOne; (first | exact One.int | exact One.bool | exact newV_one | exact grV_one | exact cloneV_one | exact takF_one | assumption | exact Ints.one (by assumption) | exact One.lit ⟨rfl, rfl, rfl⟩)) | (apply asInts; (repeat first | assumption | (apply newV_ints' <;> first | assumption | (first | rfl | (simp only [List.length_append, List.length_cons, List.length_nil, List.length_set]; done) | (simp only [List.length_append, List.length_cons, List.length_nil, List.length_set]; omega))) | (apply grV_ints <;> first | assumption | (first | rfl | (simp only [List.length_append, List.length_cons, List.length_nil, List.length_set]; done) | (simp only [List.length_append, List.length_cons, List.length_nil, List.length_set]; omega))) | apply Ints.app); done) | (apply asTak; (repeat first | assumption | (refine TakAt.new ?_; (first | rfl | (simp only [List.length_append, List.length_cons, List.length_nil, List.length_set]; done) | (simp only [List.length_append, List.length_cons, List.length_nil, List.length_set]; omega))) | apply TakAt.app); done) | (apply asScal; (first | apply allS1 | apply allS2 | apply allS3 | apply allS4) <;> (first | exact One.int | exact One.bool | exact newV_one | exact grV_one | exact cloneV_one | exact takF_one | assumption | exact Ints.one (by assumption) | exact One.lit ⟨rfl, rfl, rfl⟩)) | exact litT rfl | exact litF rfl | omega | (simp only [List.length_append, List.length_cons, List.length_nil, lst_len, List.length_set, ints_length, List.length_reverse]; first | done | omega) | fail) : p := h
attribute [go_sem] bin_or bin_and

/-! ### Plain numbers -/
/-- The card of a throw, and how far it is moved. -/
def cardN (k n t : Nat) : Nat := if k = 2 then t % n else if k = 1 ∧ 1 < n then min (t % (2 * n - 2)) (2 * n - 2 - t % (2 * n - 2)) else t % n
def moveN (k n s w t : Nat) : Nat := if k = 2 then t / n * s % w else 0
/-- A lift moved. -/
def rotN (x b w : Nat) : Nat := x * 2 ^ b % 2 ^ w + x / 2 ^ (w - b)
/-- What a chain weaves at a throw. -/
def liftN (w : Nat) (l : List Int) (k s t : Nat) : Nat := rotN (l.getD (cardN k l.length t) 0).toNat (moveN k l.length s w t) w

theorem cardN_lt {k n t : Nat} (hn : 1 ≤ n) : cardN k n t < n := by
  unfold cardN
  split
  · exact Nat.mod_lt _ hn
  · split
    · rename_i h2
      have := Nat.mod_lt t (show 2 * n - 2 > 0 by omega)
      omega
    · exact Nat.mod_lt _ hn
theorem moveN_lt {k n s w t : Nat} (hw : 1 ≤ w) : moveN k n s w t < w := by
  unfold moveN
  split
  · exact Nat.mod_lt _ hw
  · omega

theorem chkC_ok {w k s : Int} {l : List Int} (h : chkC w l k s = 0) : (1 ≤ w ∧ w ≤ 8) ∧ (1 ≤ l.length ∧ l.length ≤ 48) ∧ (0 ≤ k ∧ k ≤ 2) ∧ (0 ≤ s ∧ s ≤ 7) ∧ stepOk k s w = true ∧ ∀ x ∈ l, 0 ≤ x ∧ x ≤ 2 ^ w.toNat - 1 := by
  unfold chkC at h
  split at h
  · cases h
  · split at h
    · cases h
    · split at h
      · cases h
      · split at h
        · cases h
        · rename_i h1 h2 h3 h4
          have h5 : stepOk k s w = true := by
            cases hs : stepOk k s w with
            | true => rfl
            | false => exact absurd (.inr (by rw [hs]; simp)) h4
          have h6 : (l.all fun x => decide (0 ≤ x ∧ x ≤ 2 ^ w.toNat - 1)) = true := by
            cases hs : (l.all fun x => decide (0 ≤ x ∧ x ≤ 2 ^ w.toNat - 1)) with
            | true => rfl
            | false => exact absurd (.inl (by rw [hs]; simp)) h4
          refine ⟨by omega, by omega, by omega, ?_, h5, fun x hx => ?_⟩
          · have h7 := h5
            unfold stepOk at h7
            split at h7 <;> simp at h7 <;> omega
          · have := List.all_eq_true.1 h6 x hx
            simpa using this

theorem getD_mem {l : List Int} {i : Nat} (hi : i < l.length) : l.getD i 0 ∈ l := by
  rw [List.getD_eq_getElem?_getD, List.getElem?_eq_getElem hi]
  exact List.getElem_mem hi

theorem tmodN (a b : Nat) : (a : Int).tmod b = ((a % b : Nat) : Int) := rfl
theorem tdivN (a b : Nat) : (a : Int).tdiv b = ((a / b : Nat) : Int) := rfl

/-! ### The taker -/
def takF (k n : Int) (i : Nat) : AVal := if k = 2 then .fn 113 [] [.ptr (some ⟨i, 0, 0⟩), .ptr (some ⟨i + 1, 0, 0⟩), .ptr (some ⟨i + 2, 0, 0⟩)] else if k = 1 ∧ n > 1 then .fn 114 [] [.ptr (some ⟨i, 0, 0⟩)] else .fn 115 [] [.ptr (some ⟨i, 0, 0⟩)]
theorem takV_eq {k n : Int} {i : Nat} : takV k n i = .agg [takF k n i] := by
  unfold takV takF
  split
  · rfl
  · split <;> rfl
theorem takF_one {k n : Int} {i : Nat} : One (takF k n i) := by
  unfold takF
  split
  · exact ⟨rfl, rfl, rfl⟩
  · split <;> exact ⟨rfl, rfl, rfl⟩
theorem run97' {base : Nat} {h : Heap} {k n s w : Int} : callL prog raw base (.fn 97 [] []) [pln k n s, .int .i64 w] h = some (.agg [takF k n h.length], h ++ takH k n s w) := by
  rw [← takV_eq]; exact run97
theorem fl137 {v : AVal} : fieldA prog 137 (.agg [v]) 0 = some v := by
  have h : fld prog 137 0 = some (0, false, 1) := by kernel_rfl
  simp [fieldA, h, partQ]

/-- The taker's variables lie here. -/
def TakAt (H : Heap) (i : Nat) (k n s w : Int) : Prop := H[i]? = some (intB n) ∧ (k = 2 → H[i + 1]? = some (plnB k n s) ∧ H[i + 2]? = some (intB w))
theorem asTak {H : Heap} {i : Nat} {k n s w : Int} (x : TakAt H i k n s w) : TakAt H i k n s w := x
theorem TakAt.app {H T : Heap} {i : Nat} {k n s w : Int} (h : TakAt H i k n s w) : TakAt (H ++ T) i k n s w := by
  have ap : ∀ {j : Nat} {b : ABlk}, H[j]? = some b → (H ++ T)[j]? = some b := fun hb => by rw [List.getElem?_append_left (lt_of_get hb)]; exact hb
  exact ⟨ap h.1, fun hk => ⟨ap (h.2 hk).1, ap (h.2 hk).2⟩⟩
theorem TakAt.new {H : Heap} {i : Nat} {k n s w : Int} (hi : i = H.length) : TakAt (H ++ takH k n s w) i k n s w := by
  subst hi
  unfold TakAt takH
  by_cases hk : k = 2
  · rw [if_pos hk]
    refine ⟨by simp, fun _ => ⟨by simp, by simp⟩⟩
  · rw [if_neg hk]
    exact ⟨by simp, fun h => absurd h hk⟩

theorem runTak {base i : Nat} {H : Heap} {k n s w t : Int} (hT : TakAt H i k n s w) (hk : 0 ≤ k ∧ k ≤ 2) (hn : 1 ≤ n ∧ n ≤ 1000) (hs : 0 ≤ s ∧ s ≤ 1000) (hw : 1 ≤ w ∧ w ≤ 1000) (ht : 0 ≤ t ∧ t ≤ 10000000) :
    callL prog raw base (takF k n i) [.int .i64 t] H = some (.tuple [.int .i64 ((cardN k.toNat n.toNat t.toNat : Nat) : Int), .int .i64 ((moveN k.toNat n.toNat s.toNat w.toNat t.toNat : Nat) : Int)], H) := by
  obtain ⟨n, rfl⟩ := Int.eq_ofNat_of_zero_le (show 0 ≤ n by omega)
  obtain ⟨t, rfl⟩ := Int.eq_ofNat_of_zero_le ht.1
  obtain ⟨s, rfl⟩ := Int.eq_ofNat_of_zero_le hs.1
  obtain ⟨w, rfl⟩ := Int.eq_ofNat_of_zero_le (show 0 ≤ w by omega)
  unfold takF
  by_cases h2 : k = 2
  · subst h2
    rw [if_pos rfl, run113 hT.1 (hT.2 rfl).1 (hT.2 rfl).2 (by omega) (by omega)]
    have h1 : t / n ≤ 10000000 := Nat.le_trans (Nat.div_le_self _ _) (by omega)
    have e : moveN 2 n s w t = t / n * s % w := by simp [moveN]
    have e' : cardN 2 n t = t % n := by simp [cardN]
    have e2 : (2 : Int).toNat = 2 := rfl
    simp only [Int.toNat_natCast, e2]
    rw [e, e', tdivN]
    obtain ⟨q, hq⟩ : ∃ q, t / n = q := ⟨_, rfl⟩
    rw [hq] at h1 ⊢
    have h3 : q * s ≤ 10000000 * 1000 := Nat.mul_le_mul h1 (by omega)
    have e3 : (q : Int) * (s : Int) = ((q * s : Nat) : Int) := by rw [Int.natCast_mul]
    generalize hr : q * s = r at h3 e3
    rw [wrap64 (n := (q : Int)) (by omega) (by omega), e3, wrap64 (n := (r : Int)) (by omega) (by omega), tmodN, tmodN]
  · rw [if_neg h2]
    have hk2 : k.toNat ≠ 2 := by omega
    by_cases h1 : k = 1 ∧ (n : Int) > 1
    · have hk1 : k.toNat = 1 := by omega
      have ec : cardN k.toNat n t = min (t % (2 * n - 2)) (2 * n - 2 - t % (2 * n - 2)) := by unfold cardN; rw [if_neg hk2, if_pos ⟨hk1, by omega⟩]
      have em : moveN k.toNat n s w t = 0 := by unfold moveN; rw [if_neg hk2]
      rw [if_pos h1, run114 hT.1 (by omega) (by omega)]
      simp only [Int.toNat_natCast, ec, em]
      have e : (2 * (n : Int) - 2) = ((2 * n - 2 : Nat) : Int) := by omega
      have h3 := Nat.mod_lt t (show 2 * n - 2 > 0 by omega)
      rw [e, tmodN]
      generalize t % (2 * n - 2) = u at h3
      have e4 : min (u : Int) (((2 * n - 2 : Nat) : Int) - u) = ((min u (2 * n - 2 - u) : Nat) : Int) := by
        rw [Int.min_def, Nat.min_def]
        split <;> split <;> omega
      rw [e4]
      rfl
    · have ec : cardN k.toNat n t = t % n := by unfold cardN; rw [if_neg hk2, if_neg (by omega)]
      have em : moveN k.toNat n s w t = 0 := by unfold moveN; rw [if_neg hk2]
      rw [if_neg h1, run115 hT.1 (by omega)]
      simp only [Int.toNat_natCast, ec, em, tmodN]
      rfl

theorem mv_rot {x b w : Nat} (hw : 1 ≤ w) (hw8 : w ≤ 8) (hx : x < 2 ^ w) (hb : b < w) : mv x b w = ((rotN x b w : Nat) : Int) := by
  have h1 := mvOk_true
  unfold mvOk at h1
  have h2 := List.all_eq_true.1 h1 (w - 1) (by simp; omega)
  have ew : w - 1 + 1 = w := by omega
  rw [ew] at h2
  have h3 := List.all_eq_true.1 h2 x (by simpa using hx)
  have h4 := List.all_eq_true.1 h3 b (by simpa using hb)
  simpa [rotN] using h4

theorem pow_nat {w : Int} (h : 0 ≤ w) : (2 : Int) ^ w.toNat = ((2 ^ w.toNat : Nat) : Int) := by simp

theorem pow_256 {w : Int} (h0 : 1 ≤ w) (h1 : w ≤ 8) : (2 : Int) ^ w.toNat ≤ 256 := by
  rw [pow_nat (by omega)]
  have : (2 : Nat) ^ w.toNat ≤ 2 ^ 8 := Nat.pow_le_pow_right (by decide) (by omega)
  omega

theorem run100' {base : Nat} {h : Heap} {x b w : Int} (hw : 1 ≤ w ∧ w ≤ 8) (hx : 0 ≤ x ∧ x ≤ 2 ^ w.toNat - 1) (hb : 0 ≤ b ∧ b < w) :
    callL prog raw base (.fn 100 [] []) [.int .i64 x, .int .i64 b, .int .i64 w] h = some (.int .i64 ((rotN x.toNat b.toNat w.toNat : Nat) : Int), h) := by
  have := pow_256 hw.1 hw.2
  have h8 := pow_nat (w := w) (by omega)
  rw [run100 hx.1 (by omega) hb.1 (by omega) (by omega)]
  obtain ⟨x, rfl⟩ := Int.eq_ofNat_of_zero_le hx.1
  obtain ⟨b, rfl⟩ := Int.eq_ofNat_of_zero_le hb.1
  obtain ⟨w, rfl⟩ := Int.eq_ofNat_of_zero_le (show 0 ≤ w by omega)
  simp only [Int.toNat_natCast] at hx h8 ⊢
  rw [mv_rot (by omega) (by omega) (by omega) (by omega)]

attribute [go_sem] run97' fl137 runTak run100'

theorem run93 {base : Nat} {h : Heap} {v : AVal} {l : List Int} {w k s t : Int} (hI : Ints h v l) (hc : chkC w l k s = 0) (ht : 0 ≤ t ∧ t ≤ 10000000) :
    callL prog raw base (.fn 93 [] []) [chn w v k s, .int .i64 t] h = some (.int .i64 ((liftN w.toNat l k.toNat s.toNat t.toNat : Nat) : Int), h) := by
  obtain ⟨hw, hn, hk, hs, _, hx⟩ := chkC_ok hc
  have c1 := cardN_lt (k := k.toNat) (n := l.length) (t := t.toNat) (by omega)
  have c2 := moveN_lt (k := k.toNat) (n := l.length) (s := s.toNat) (w := w.toNat) (t := t.toNat) (by omega)
  have c3 := hx _ (getD_mem c1)
  have c4 : (0 : Int) ≤ (moveN k.toNat l.length s.toNat w.toNat t.toNat : Nat) ∧ ((moveN k.toNat l.length s.toNat w.toNat t.toNat : Nat) : Int) < w := by omega
  have c5 : 1 ≤ (l.length : Int) ∧ (l.length : Int) ≤ 1000 := by omega
  have c6 : 0 ≤ s ∧ s ≤ 1000 := by omega
  have c7 : 1 ≤ w ∧ w ≤ 1000 := by omega
  refine callL_run func93 rfl rfl ?_
  have hsp := @Nat.succ_ne_zero; repeat' (first | simp (disch := first | exact Nat.ne_of_beq_eq_false rfl | assumption | exact dschD2 | fail) only [go_sem, hsp, chn, Int.toNat_natCast] | refine WP_draw (by kernel_rfl) ?_ | refine cnd_intro (fun hsp => ?_) (fun hsp => ?_))
  all_goals (first | (refine fin_pl (int_eq ?_) rfl ?_; rotate_left; (repeat' first | exact Ext.refl | refine Ext.app ?_)) | (refine fin_pl (bool_eq ?_) rfl ?_; rotate_left; (repeat' first | exact Ext.refl | refine Ext.app ?_)) | (refine fin_pl (tup2_eq (int_eq ?_) (int_eq ?_)) rfl ?_; rotate_left; rotate_left; (repeat' first | exact Ext.refl | refine Ext.app ?_)) | (refine fin_pl (tup2_eq (bool_eq ?_) (int_eq ?_)) rfl ?_; rotate_left; rotate_left; (repeat' first | exact Ext.refl | refine Ext.app ?_)) | (refine fin_pl (tup3_eq (int_eq ?_) (int_eq ?_) (int_eq ?_)) rfl ?_; rotate_left; rotate_left; rotate_left; (repeat' first | exact Ext.refl | refine Ext.app ?_)) | (refine fin_pl (tup3_eq (int_eq ?_) (int_eq ?_) (bool_eq ?_)) rfl ?_; rotate_left; rotate_left; rotate_left; (repeat' first | exact Ext.refl | refine Ext.app ?_)) | skip); all_goals (try dsimp only); all_goals (try with_reducible rfl); all_goals (try omega)
  all_goals rfl
attribute [go_sem] run93
end Go.AM
