/-
  Contracts of the reference: cards, lifts, what excludes.
-/
import Derived.Test.YtppkmjfplhenmaaD12
set_option linter.unusedSimpArgs false
set_option linter.unusedVariables false
namespace Go.AM
open Go.Proofs.Try
theorem dschR2 {p : Prop} (h : p := by first | exact Nat.ne_of_beq_eq_false rfl | assumption | (apply asOne; (first | exact One.int | exact One.bool | exact newV_one | exact grV_one | exact cloneV_one | exact takF_one | assumption | exact Ints.one (by assumption) | exact One.lit ⟨rfl, rfl, rfl⟩)) | (apply asInts; (repeat first | assumption | (apply newV_ints' <;> first | assumption | (first | rfl | (simp only [List.length_append, List.length_cons, List.length_nil, List.length_set]; done) | (simp only [List.length_append, List.length_cons, List.length_nil, List.length_set]; omega))) | (apply grV_ints <;> first | assumption | (first | rfl | (simp only [List.length_append, List.length_cons, List.length_nil, List.length_set]; done) | (simp only [List.length_append, List.length_cons, List.length_nil, List.length_set]; omega))) | apply Ints.app); done) | (apply asScal; (first | apply allS1 | apply allS2 | apply allS3 | apply allS4) <;> (first | exact One.int | exact One.bool | exact newV_one | exact grV_one | exact cloneV_one | exact takF_one | assumption | exact Ints.one (by assumption) | exact One.lit ⟨rfl, rfl, rfl⟩)) | exact litT rfl | exact litF rfl | omega | (simp only [List.length_append, List.length_cons, List.length_nil, lst_len, List.length_set, ints_length, List.length_reverse]; first | done | omega) | fail) : p := h

theorem tup2N {a b c d : Nat} (h : a = c) (h' : b = d) : AVal.tuple [.int .i64 (a : Int), .int .i64 (b : Int)] = AVal.tuple [.int .i64 (c : Int), .int .i64 (d : Int)] := by rw [h, h']

theorem run76 {base : Nat} {h : Heap} {w k n s t : Int} (hk : 0 ≤ k ∧ k ≤ 2) (hn : 1 ≤ n ∧ n ≤ 1000) (hs : 0 ≤ s ∧ s ≤ 1000) (hw : 1 ≤ w ∧ w ≤ 1000) (ht : 0 ≤ t ∧ t ≤ 10000000) :
    callL prog raw base (.fn 76 [] []) [.int .i64 w, .int .i64 k, .int .i64 n, .int .i64 s, .int .i64 t] h =
      some (.tuple [.int .i64 ((cardN k.toNat n.toNat t.toNat : Nat) : Int), .int .i64 ((moveN k.toNat n.toNat s.toNat w.toNat t.toNat : Nat) : Int)], h) := by
  obtain ⟨k, rfl⟩ := Int.eq_ofNat_of_zero_le hk.1
  obtain ⟨n, rfl⟩ := Int.eq_ofNat_of_zero_le (show 0 ≤ n by omega)
  obtain ⟨t, rfl⟩ := Int.eq_ofNat_of_zero_le ht.1
  obtain ⟨s, rfl⟩ := Int.eq_ofNat_of_zero_le hs.1
  obtain ⟨w, rfl⟩ := Int.eq_ofNat_of_zero_le (show 0 ≤ w by omega)
  have hn0 : (n : Int) ≠ 0 := by omega
  have hw0 : (w : Int) ≠ 0 := by omega
  refine callL_run func76 rfl rfl ?_
  by_cases h2 : k = 2
  · subst h2
    have q1 : t / n ≤ 10000000 := Nat.le_trans (Nat.div_le_self _ _) (by omega)
    have q2 : t / n % w < w := Nat.mod_lt _ (by omega)
    have q3 : t / n % w * s ≤ 1000 * 1000 := Nat.mul_le_mul (by omega) (by omega)
    have q4 : ((t / n % w : Nat) : Int) * (s : Int) = ((t / n % w * s : Nat) : Int) := by rw [Int.natCast_mul]
    have q5 : moveN 2 n s w t = t / n % w * s % w := by simp [moveN, Nat.mul_mod]
    have q6 : cardN 2 n t = t % n := by simp [cardN]
    generalize hq : t / n % w * s = r at *
    generalize hq2 : t / n % w = r2 at *
    generalize hq3 : t / n = r3 at *
    have e1 : ((2 : Nat) : Int) = 2 := rfl
    have hsp := @Nat.succ_ne_zero; repeat' (first | simp (disch := first | exact dschR2 | fail) only [go_sem, hsp, tmodN, tdivN, hq3, hq2, q4, hq, e1] | refine WP_drw ?_ | refine cnd_intro (fun hsp => ?_) fun hsp => ?_)
    refine fin_pl ?_ rfl .refl
    exact tup2N q6.symm q5.symm
  · have hk2 : ((k : Int) = 2) = False := eq_false (by omega)
    have em : moveN k n s w t = 0 := by unfold moveN; rw [if_neg h2]
    by_cases h1 : k = 1 ∧ 1 < n
    · obtain ⟨rfl, h1⟩ := h1
      have ec : cardN 1 n t = min (t % (2 * n - 2)) (2 * n - 2 - t % (2 * n - 2)) := by unfold cardN; rw [if_neg (by omega), if_pos ⟨rfl, h1⟩]
      have e2 : (2 * (n : Int) - 2) = ((2 * n - 2 : Nat) : Int) := by omega
      have e3 : ((2 * n - 2 : Nat) : Int) ≠ 0 := by omega
      have h3 := Nat.mod_lt t (show 2 * n - 2 > 0 by omega)
      have e1 : ((1 : Nat) : Int) = 1 := rfl
      have h1' : ((n : Int) > 1) = True := eq_true (by omega)
      generalize hu : t % (2 * n - 2) = u at *
      have hsp := @Nat.succ_ne_zero; repeat' (first | simp (disch := first | exact dschR2 | fail) only [go_sem, hsp, tmodN, hk2, e1, h1', e2, hu, Int.reduceEq] | refine WP_drw ?_ | refine cnd_intro (fun hsp => ?_) fun hsp => ?_)
      all_goals (refine fin_pl ?_ rfl .refl)
      · rw [em, ec]
        exact tup2_eq (int_eq (by omega)) rfl
      · rw [em, ec]
        exact tup2_eq (int_eq (by omega)) rfl
    · have ec : cardN k n t = t % n := by unfold cardN; rw [if_neg h2, if_neg h1]
      by_cases hk1 : k = 1
      · have h1' : ((n : Int) > 1) = False := eq_false (by omega)
        subst hk1
        have e1 : ((1 : Nat) : Int) = 1 := rfl
        have hsp := @Nat.succ_ne_zero; repeat' (first | simp (disch := first | exact dschR2 | fail) only [go_sem, hsp, tmodN, hk2, e1, h1', Int.reduceEq] | refine WP_drw ?_ | refine cnd_intro (fun hsp => ?_) fun hsp => ?_)
        refine fin_pl ?_ rfl .refl
        rw [em, ec]; rfl
      · have h1' : ((k : Int) = 1) = False := eq_false (by omega)
        have hsp := @Nat.succ_ne_zero; repeat' (first | simp (disch := first | exact dschR2 | fail) only [go_sem, hsp, tmodN, hk2, h1'] | refine WP_drw ?_ | refine cnd_intro (fun hsp => ?_) fun hsp => ?_)
        refine fin_pl ?_ rfl .refl
        rw [em, ec]; rfl
attribute [go_sem] run76

/-- Thread by thread. -/
def rmN (x b w : Nat) : Nat → Nat
  | 0 => 0
  | k + 1 => rmN x b w k + (if x / 2 ^ ((k + w - b) % w) % 2 = 1 then 2 ^ k else 0)
def rmOk : Bool := (List.range 8).all fun w' => (List.range (2 ^ (w' + 1))).all fun a => (List.range (w' + 1)).all fun b => rmN a b (w' + 1) (w' + 1) == rotN a b (w' + 1)
theorem rmOk_true : rmOk = true := by kernel_rfl
theorem rm_rot {x b w : Nat} (hw : 1 ≤ w) (hw8 : w ≤ 8) (hx : x < 2 ^ w) (hb : b < w) : rmN x b w w = rotN x b w := by
  have h1 := rmOk_true
  unfold rmOk at h1
  have h2 := List.all_eq_true.1 h1 (w - 1) (by simp; omega)
  have ew : w - 1 + 1 = w := by omega
  rw [ew] at h2
  have h3 := List.all_eq_true.1 h2 x (by simpa using hx)
  have h4 := List.all_eq_true.1 h3 b (by simpa using hb)
  simpa using h4
theorem rmN_lt {x b w : Nat} : ∀ k, rmN x b w k < 2 ^ k
  | 0 => by simp [rmN]
  | k + 1 => by
    have := rmN_lt (x := x) (b := b) (w := w) k
    simp only [rmN, Nat.pow_succ]
    split <;> omega

theorem run98 {base : Nat} {h : Heap} {x b w : Int} (hw : 1 ≤ w ∧ w ≤ 8) (hx : 0 ≤ x ∧ x ≤ 2 ^ w.toNat - 1) (hb : 0 ≤ b ∧ b ≤ 1000) :
    callL prog raw base (.fn 98 [] []) [.int .i64 x, .int .i64 b, .int .i64 w] h = some (.int .i64 ((rotN x.toNat (b.toNat % w.toNat) w.toNat : Nat) : Int), h) := by
  obtain ⟨x, rfl⟩ := Int.eq_ofNat_of_zero_le hx.1
  obtain ⟨b, rfl⟩ := Int.eq_ofNat_of_zero_le hb.1
  obtain ⟨w, rfl⟩ := Int.eq_ofNat_of_zero_le (show 0 ≤ w by omega)
  simp only [Int.toNat_natCast] at hx ⊢
  have h8 : (2 : Int) ^ w = ((2 ^ w : Nat) : Int) := by simp
  have hbw := Nat.mod_lt b (show w > 0 by omega)
  rw [← rm_rot (by omega) (by omega) (by omega) hbw]
  have h256 : 2 ^ w ≤ 2 ^ 8 := Nat.pow_le_pow_right (by decide) (by omega)
  generalize hr : b % w = r at *
  have hw0 : (w : Int) ≠ 0 := by omega
  refine callL_run func98 rfl rfl ?_
  have hsp := @Nat.succ_ne_zero; repeat' (first | simp (disch := first | exact dschR2 | fail) only [go_sem, hsp] | refine WP_drw ?_ | refine cnd_intro (fun hsp => ?_) fun hsp => ?_)
  refine WP_loop (fun σ => ∃ k : Nat, σ.fr 9 = .int .i64 (k : Int) ∧ σ.fr 0 = .int .i64 x ∧ σ.fr 1 = .int .i64 b ∧ σ.fr 2 = .int .i64 w ∧ σ.fr 7 = .int .i64 (rmN x r w k : Nat) ∧ σ.fr 8 = .int .i64 (2 ^ k : Nat) ∧ σ.h = h ∧ k ≤ w ∧ (True)) (fun σ => match σ.fr 9 with | .int _ x => (((w : Nat) : Int) - x).toNat | _ => 0) ?_ ?_
  · refine ⟨0, ?_, ?_, ?_, ?_, ?_, ?_, ?_, by omega, trivial⟩
    iterate 7 focus (first | rfl | (simp (disch := first | exact dschR2 | fail) only [go_sem, Int.natCast_zero]; first | done | rfl))
  · rintro ⟨fr, hp⟩ ⟨k, r9, r0, r1, r2, r7, r8, rh, hi, hP⟩
    dsimp only at r9 r0 r1 r2 r7 r8 rh hi hP
    subst rh
    have hlt := rmN_lt (x := x) (b := r) (w := w) k
    have hk2 : 2 ^ k ≤ 2 ^ w := Nat.pow_le_pow_right (by decide) hi
    have e1 : ((k : Int) - (r : Int)) + w = ((k + w - r : Nat) : Int) := by omega
    have hm := Nat.mod_lt (k + w - r) (show w > 0 by omega)
    have h84 : (2 : Int) ^ ((k + w - r) % w) = ((2 ^ ((k + w - r) % w) : Nat) : Int) := by simp
    have hp0 : ((2 ^ ((k + w - r) % w) : Nat) : Int) ≠ 0 := by
      have := Nat.two_pow_pos ((k + w - r) % w)
      omega
    have hdiv : x / 2 ^ ((k + w - r) % w) ≤ x := Nat.div_le_self _ _
    have hwr : IntKind.i64.wrap ((x / 2 ^ ((k + w - r) % w) : Nat) : Int) = ((x / 2 ^ ((k + w - r) % w) : Nat) : Int) := by
      generalize x / 2 ^ ((k + w - r) % w) = q at hdiv
      exact wrap64 (by omega) (by omega)
    have h20 : (2 : Int) = ((2 : Nat) : Int) := rfl
    have e5 : (((x / 2 ^ ((k + w - r) % w) : Nat) : Int)).tmod 2 = ((x / 2 ^ ((k + w - r) % w) % 2 : Nat) : Int) := by rw [h20, tmodN]
    have e6 : (((x / 2 ^ ((k + w - r) % w) % 2 : Nat) : Int) = 1) = (x / 2 ^ ((k + w - r) % w) % 2 = 1) := propext (by omega)
    have e7 : (2 : Int) * ((2 ^ k : Nat) : Int) = ((2 ^ (k + 1) : Nat) : Int) := by rw [Nat.pow_succ]; omega
    have hk3 : 2 ^ (k + 1) ≤ 512 := by rw [Nat.pow_succ]; omega
    have hsp := @Nat.succ_ne_zero; repeat' (first | simp (disch := first | exact dschR2 | fail) only [go_sem, hsp, r9, r0, r1, r2, r7, r8, tmodN, tdivN, hr, e1, h84, hwr, e5, e6, e7] | refine WP_drw ?_ | refine cnd_intro (fun hsp => ?_) fun hsp => ?_)
    · refine ⟨⟨k + 1, by simp, ?_, by omega⟩, by omega⟩
      rw [rmN, if_pos hsp]
      exact (Int.natCast_add _ _).symm
    · refine ⟨⟨k + 1, by simp, ?_, by omega⟩, by omega⟩
      rw [rmN, if_neg hsp, Nat.add_zero]
    · have ek : k = w := by omega
      subst ek
      exact compact_plain' rfl
attribute [go_sem] run98

theorem run77 {base : Nat} {h : Heap} {v : AVal} {l : List Int} {w k s t : Int} (hI : Ints h v l) (hc : chkC w l k s = 0) (ht : 0 ≤ t ∧ t ≤ 10000000) :
    callL prog raw base (.fn 77 [] []) [chn w v k s, .int .i64 t] h = some (.int .i64 ((liftN w.toNat l k.toNat s.toNat t.toNat : Nat) : Int), h) := by
  obtain ⟨hw, hn, hk, hs, _, hx⟩ := chkC_ok hc
  have c1 := cardN_lt (k := k.toNat) (n := l.length) (t := t.toNat) (by omega)
  have c2 := moveN_lt (k := k.toNat) (n := l.length) (s := s.toNat) (w := w.toNat) (t := t.toNat) (by omega)
  have c3 := hx _ (getD_mem c1)
  have c4 : (0 : Int) ≤ (moveN k.toNat l.length s.toNat w.toNat t.toNat : Nat) ∧ ((moveN k.toNat l.length s.toNat w.toNat t.toNat : Nat) : Int) ≤ 1000 := by omega
  have c5 : 1 ≤ (l.length : Int) ∧ (l.length : Int) ≤ 1000 := by omega
  have c6 : 0 ≤ s ∧ s ≤ 1000 := by omega
  have c7 : 1 ≤ w ∧ w ≤ 1000 := by omega
  refine callL_run func77 rfl rfl ?_
  have hsp := @Nat.succ_ne_zero; repeat' (first | simp (disch := first | exact dschR2 | fail) only [go_sem, hsp, chn] | refine WP_drw ?_ | refine cnd_intro (fun hsp => ?_) fun hsp => ?_)
  all_goals (first | refine fI ?_ | refine fB ?_ | refine fII ?_ ?_ | refine fBI ?_ ?_ | refine fIII ?_ ?_ ?_ | refine fIIB ?_ ?_ ?_ | skip); all_goals (try dsimp only); all_goals (try with_reducible rfl); all_goals (try omega)
  rw [Nat.mod_eq_of_lt c2]
  rfl
attribute [go_sem] run77

/-- Does a chain weave a pattern? -/
def weaveB (w : Nat) (l : List Int) (k s : Nat) (p : List Int) : Bool := decide (∀ t, t < p.length → ((liftN w l k s t : Nat) : Int) = p.getD t 0)
theorem run78 {base : Nat} {h : Heap} {v v' : AVal} {l p : List Int} {w k s w' : Int} (hI : Ints h v l) (hI' : Ints h v' p) (hc : chkC w l k s = 0) (hp : p.length ≤ 1000) :
    callL prog raw base (.fn 78 [] []) [chn w v k s, pap w' v'] h = some (.bool (weaveB w.toNat l k.toNat s.toNat p), h) := by
  refine callL_run func78 rfl rfl ?_
  have hsp := @Nat.succ_ne_zero; repeat' (first | simp (disch := first | exact dschR2 | fail) only [go_sem, hsp, chn, pap] | refine WP_drw ?_ | refine cnd_intro (fun hsp => ?_) fun hsp => ?_)
  refine WP_loop (fun σ => ∃ t : Nat, σ.fr 5 = .int .i64 (t : Int) ∧ σ.fr 2 = .ptr (some ⟨h.length, 0, 0⟩) ∧ σ.fr 3 = .ptr (some ⟨h.length + 1, 0, 0⟩) ∧ σ.h = h ++ [⟨.cells [.int .i64 w, v, .int .i64 k, .int .i64 s] 40 false false, 0⟩] ++ [⟨.cells [.int .i64 w', v'] 29 false false, 0⟩] ∧ t ≤ p.length ∧ (∀ j, j < t → ((liftN w.toNat l k.toNat s.toNat j : Nat) : Int) = p.getD j 0)) (fun σ => match σ.fr 5 with | .int _ x => (((p.length : Nat) : Int) - x).toNat | _ => 0) ?_ ?_
  · refine ⟨0, ?_, ?_, ?_, ?_, by omega, ?_⟩
    iterate 4 focus (first | rfl | (simp (disch := first | exact dschR2 | fail) only [go_sem, Int.natCast_zero]; first | done | rfl))
    intro j hj; omega
  · rintro ⟨fr, hp⟩ ⟨t, r5, r2, r3, rh, hi, hP⟩
    dsimp only at r5 r2 r3 rh hi hP
    subst rh
    have hsp := @Nat.succ_ne_zero; repeat' (first | simp (disch := first | exact dschR2 | fail) only [go_sem, hsp, r5, r2, r3, chn, pap] | refine WP_drw ?_ | refine cnd_intro (fun hsp => ?_) fun hsp => ?_)
    all_goals (first | refine fI ?_ | refine fB ?_ | refine fII ?_ ?_ | refine fBI ?_ ?_ | refine fIII ?_ ?_ ?_ | refine fIIB ?_ ?_ ?_ | skip); all_goals (try dsimp only); all_goals (try with_reducible rfl); all_goals (try omega)
    · refine ⟨⟨t + 1, by simp, by omega, fun j hj => ?_⟩, by omega⟩
      by_cases e : j = t
      · subst e; exact hsp
      · exact hP j (by omega)
    · exact (decide_eq_false fun e => hsp (e t (by omega))).symm
    · exact (decide_eq_true fun j hj => hP j (by omega)).symm
attribute [go_sem] run78

theorem run48 {base : Nat} {h : Heap} {v : AVal} {l : List Int} {w k n s a b : Int} (hI : Ints h v l) (hc : chk w l = 0) (hk : 0 ≤ k ∧ k ≤ 2) (hn : 1 ≤ n ∧ n ≤ l.length) (hs : 0 ≤ s ∧ s ≤ 1000) (ha : 0 ≤ a ∧ a < l.length) (hb : 0 ≤ b ∧ b < l.length) :
    callL prog raw base (.fn 48 [] []) [pap w v, .int .i64 k, .int .i64 n, .int .i64 s, .int .i64 a, .int .i64 b] h = some (.bool (exclsB w.toNat l k.toNat n.toNat s.toNat a.toNat b.toNat), h) := by
  obtain ⟨hw, hp, hx⟩ := chk_ok hc
  have hw' : 1 ≤ w ∧ w ≤ 1000 := by omega
  have hn' : 1 ≤ n ∧ n ≤ 1000 := by omega
  have ha' : 0 ≤ a ∧ a ≤ 10000000 := by omega
  have hb' : 0 ≤ b ∧ b ≤ 10000000 := by omega
  have c1 := moveN_lt (k := k.toNat) (n := n.toNat) (s := s.toNat) (w := w.toNat) (t := a.toNat) (by omega)
  have c2 := moveN_lt (k := k.toNat) (n := n.toNat) (s := s.toNat) (w := w.toNat) (t := b.toNat) (by omega)
  have e5 : ((moveN k.toNat n.toNat s.toNat w.toNat b.toNat : Nat) : Int) - ((moveN k.toNat n.toNat s.toNat w.toNat a.toNat : Nat) : Int) + w = ((moveN k.toNat n.toNat s.toNat w.toNat b.toNat + w.toNat - moveN k.toNat n.toNat s.toNat w.toNat a.toNat : Nat) : Int) := by omega
  have e7 := hx _ (getD_mem (l := l) (i := a.toNat) (by omega))
  have e8 : (0 : Int) ≤ ((moveN k.toNat n.toNat s.toNat w.toNat b.toNat + w.toNat - moveN k.toNat n.toNat s.toNat w.toNat a.toNat : Nat) : Int) ∧ ((moveN k.toNat n.toNat s.toNat w.toNat b.toNat + w.toNat - moveN k.toNat n.toNat s.toNat w.toNat a.toNat : Nat) : Int) ≤ 1000 := by omega
  refine callL_run func48 rfl rfl ?_
  have hsp := @Nat.succ_ne_zero; repeat' (first | simp (disch := first | exact dschR2 | fail) only [go_sem, hsp, pap, e5] | refine WP_drw ?_ | refine cnd_intro (fun hsp => ?_) fun hsp => ?_)
  all_goals (first | refine fI ?_ | refine fB ?_ | refine fII ?_ ?_ | refine fBI ?_ ?_ | refine fIII ?_ ?_ ?_ | refine fIIB ?_ ?_ ?_ | skip); all_goals (try dsimp only); all_goals (try with_reducible rfl); all_goals (try omega)
  all_goals unfold exclsB
  · exact (decide_eq_false fun hh => by omega).symm
  · exact dec_eq ⟨fun hh => ⟨by omega, by omega, hh⟩, fun hh => hh.2.2⟩
  · exact (decide_eq_false fun hh => by omega).symm
attribute [go_sem] run48
end Go.AM
