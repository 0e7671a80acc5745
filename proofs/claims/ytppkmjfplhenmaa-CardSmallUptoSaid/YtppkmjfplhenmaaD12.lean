/-
  Contracts: changed squares.
-/
import Derived.Test.YtppkmjfplhenmaaD11
set_option linter.unusedSimpArgs false
set_option linter.unusedVariables false
namespace Go.AM
open Go.Proofs.Try
theorem dschD12 {p : Prop} (h : p := by first | exact Nat.ne_of_beq_eq_false rfl | assumption | (apply asOne; (first | exact One.int | exact One.bool | exact newV_one | exact grV_one | exact cloneV_one | exact takF_one | assumption | exact Ints.one (by assumption) | exact One.lit ⟨rfl, rfl, rfl⟩)) | (apply asInts; (repeat first | assumption | (apply newV_ints' <;> first | assumption | (first | rfl | (simp only [List.length_append, List.length_cons, List.length_nil, List.length_set]; done) | (simp only [List.length_append, List.length_cons, List.length_nil, List.length_set]; omega))) | (apply grV_ints <;> first | assumption | (first | rfl | (simp only [List.length_append, List.length_cons, List.length_nil, List.length_set]; done) | (simp only [List.length_append, List.length_cons, List.length_nil, List.length_set]; omega))) | apply Ints.app); done) | (apply asScal; (first | apply allS1 | apply allS2 | apply allS3 | apply allS4) <;> (first | exact One.int | exact One.bool | exact newV_one | exact grV_one | exact cloneV_one | exact takF_one | assumption | exact Ints.one (by assumption) | exact One.lit ⟨rfl, rfl, rfl⟩)) | exact litT rfl | exact litF rfl | omega | (simp only [List.length_append, List.length_cons, List.length_nil, lst_len, List.length_set, ints_length, List.length_reverse]; first | done | omega) | fail) : p := h

theorem xor_N {t : TypeId} {a b : Nat} (ha : a < 9223372036854775808) (hb : b < 9223372036854775808) : binA prog .xor t (.int .i64 a) (.int .i64 b) = some (.int .i64 ((a ^^^ b : Nat) : Int)) := by
  have hx : a ^^^ b < 2 ^ 63 := Nat.xor_lt_two_pow (by omega) (by omega)
  have e : BitVec.ofInt 64 (a : Int) ^^^ BitVec.ofInt 64 (b : Int) = BitVec.ofNat 64 (a ^^^ b) := by
    apply BitVec.eq_of_toNat_eq
    simp [BitVec.toNat_xor, BitVec.toNat_ofInt]
  have h1 : (BitVec.ofNat 64 (a ^^^ b)).toNat = a ^^^ b := by rw [BitVec.toNat_ofNat, Nat.mod_eq_of_lt (by omega)]
  show some (AVal.int .i64 (IntKind.i64.wrap ((BitVec.ofInt 64 (a : Int) ^^^ BitVec.ofInt 64 (b : Int)).toNat : Int))) = _
  rw [e, h1, wrap64 (by omega) (by omega)]

theorem mk22 {h : Heap} {n : Nat} (h0 : 0 < n) (h1 : n < 1073741824) : makeSliceA prog h 22 (.int .i64 (n : Int)) (.int .i64 (n : Int)) = some (.slice (some ⟨h.length, 0, 0⟩) n n, h ++ [rowB (lst (fun _ => 0) n) 0]) := by
  have hrep : ∀ m, repCells [AVal.int .i64 0] m = ints (lst (fun _ => 0) m) := fun m => by
    induction m with
    | zero => rfl
    | succ m ih =>
      rw [repCells, ih]
      simp [ints, lst, List.range_succ_eq_map, List.map_map]
  simp only [makeSliceA, Fc.el22]
  rw [if_pos ⟨by omega, by omega, by omega⟩, if_neg (by omega)]
  simp only [Int.toNat_natCast, rowB, hrep]
theorem splice_all : ∀ (vs c pre : List AVal), vs.length = c.length → splice (pre ++ c) pre.length vs = pre ++ vs
  | [], c, pre, hc => by
    have := List.eq_nil_of_length_eq_zero hc.symm
    subst this; simp [splice]
  | y :: ys, [], pre, hc => by simp at hc
  | y :: ys, z :: cs, pre, hc => by
    simp only [splice]
    have e : (pre ++ z :: cs).set pre.length y = (pre ++ [y]) ++ cs := by simp
    rw [e]
    have := splice_all ys cs (pre ++ [y]) (by simpa using hc)
    rw [List.length_append] at this
    simpa using this
theorem cp22 {base n k : Nat} {A : Heap} {v : AVal} {l m : List Int} (hI : Ints (A ++ [rowB m 0]) v l) (hn : n = A.length) (hb : base ≤ A.length) (hl : k = l.length) (hm : m.length = l.length) :
    copyA prog base (A ++ [rowB m 0]) 22 (.slice (some ⟨n, 0, 0⟩) k k) v = some (.int .i64 (l.length : Int), A ++ [rowB l 0]) := by
  subst hn hl
  have hsp := splice_all (ints l) (ints m) [] (by simp [ints_length, hm])
  simp only [List.nil_append, List.length_nil] at hsp
  simp only [copyA, Fc.el22, hI.lenA', Nat.min_self, hI.firstN' rfl]
  have hget : (A ++ [rowB m 0])[A.length]? = some ⟨.cells (ints m) 3 true false, 0⟩ := by simp [rowB]
  simp only [storeN, hget]
  rw [if_pos ⟨trivial, by simp [ints_length, hm], ints_scalar l, .inl hb⟩]
  simp only [hsp]
  rw [List.set_append_right _ _ (Nat.le_refl _)]
  simp [rowB]
attribute [go_sem] mk22 cp22
attribute [go_sem 2000] xor_N

/-- A pattern's throws with a changed square. -/
def chgL (l : List Int) (t k : Nat) : List Int := l.set t (((l.getD t 0).toNat ^^^ 2 ^ k : Nat) : Int)
theorem chgL_len {l : List Int} {t k : Nat} : (chgL l t k).length = l.length := by simp [chgL]

theorem run106 {base : Nat} {h : Heap} {v : AVal} {l : List Int} {w t k : Int} (hI : Ints h v l) (hc : sqr w l t k = 0) :
    callL prog raw base (.fn 106 [] []) [pap w v, .int .i64 t, .int .i64 k] h = some (pap w (newV h.length (chgL l t.toNat k.toNat)), h ++ newH (chgL l t.toNat k.toNat)) := by
  have hq : chk w l = 0 ∧ (0 ≤ t ∧ t < l.length) ∧ (0 ≤ k ∧ k < w) := by
    unfold sqr at hc
    by_cases h1 : chk w l = 0
    · rw [if_neg (by simp [h1])] at hc
      split at hc
      · cases hc
      · exact ⟨h1, by omega, by omega⟩
    · rw [if_pos h1] at hc
      exact absurd hc h1
  obtain ⟨h1, h2, h3⟩ := hq
  obtain ⟨hw, hp, hx⟩ := chk_ok h1
  have hne : chgL l t.toNat k.toNat ≠ [] := by
    intro e
    have := congrArg List.length e
    rw [chgL_len, List.length_nil] at this
    omega
  have h0 := hx _ (getD_mem (l := l) (i := t.toNat) (by omega))
  have h256 := pow_256 hw.1 hw.2
  have hk : (2 : Int) ^ k.toNat = ((2 ^ k.toNat : Nat) : Int) := by simp
  have hk2 : 2 ^ k.toNat ≤ 2 ^ 8 := Nat.pow_le_pow_right (by decide) (by omega)
  have hl0 : 0 < l.length := by omega
  have hl1 : l.length < 1073741824 := by omega
  have e1 : binA prog .shl 3 (.int .i64 1) (.int .i64 k) = some (.int .i64 ((2 ^ k.toNat : Nat) : Int)) := by rw [shl_one (by omega) (by omega), hk]
  have e2 : l.getD t.toNat 0 = (((l.getD t.toNat 0).toNat : Nat) : Int) := by omega
  have e3 : binA prog .xor 3 (.int .i64 (l.getD t.toNat 0)) (.int .i64 ((2 ^ k.toNat : Nat) : Int)) = some (.int .i64 (((l.getD t.toNat 0).toNat ^^^ 2 ^ k.toNat : Nat) : Int)) := by
    rw [e2, xor_N (by omega) (by omega), ← e2]
  refine callL_run func106 rfl rfl ?_
  have hsp := @Nat.succ_ne_zero; repeat' (first | simp (disch := first | exact dschD12 | fail) only [go_sem, hsp, pap, Fc.as22, Fc.ln22, e1, e3] | refine WP_drw ?_ | refine cnd_intro (fun hsp => ?_) fun hsp => ?_)
  have el : l.length = (chgL l t.toNat k.toNat).length := chgL_len.symm
  rw [show l.set t.toNat (((l.getD t.toNat 0).toNat ^^^ 2 ^ k.toNat : Nat) : Int) = chgL l t.toNat k.toNat from rfl, el]
  refine fin_nw (f := fun x => pap w x) (l := chgL l t.toNat k.toNat) (j := 2) (fun x => by simp [AVal.refs, refsL]) (fun g x => by simp [AVal.ren, renL]) hne (.app (.app (.app .refl))) ?_ rfl rfl
  simp
attribute [go_sem] run106

/-- card.Change, card.Cost. -/
def changeS (w : Int) (l : List Int) (t k : Int) : Int × List Int × Int := if sqr w l t k ≠ 0 then (0, [], sqr w l t k) else (w, chgL l t.toNat k.toNat, 0)
def costS (w : Int) (l : List Int) (t k : Int) : Int × Int := if sqr w l t k ≠ 0 then (0, sqr w l t k) else ((fewestS w.toNat (chgL l t.toNat k.toNat)).2.1 - (fewestS w.toNat l).2.1, 0)

theorem sqr_ok {w t k : Int} {l : List Int} (hc : sqr w l t k = 0) : chk w l = 0 ∧ (0 ≤ t ∧ t < l.length) ∧ (0 ≤ k ∧ k < w) := by
  unfold sqr at hc
  by_cases h1 : chk w l = 0
  · rw [if_neg (by simp [h1])] at hc
    split at hc
    · cases hc
    · exact ⟨h1, by omega, by omega⟩
  · rw [if_pos h1] at hc
    exact absurd hc h1
theorem chk_iff {w : Int} {l : List Int} (h1 : 1 ≤ w ∧ w ≤ 8) (h2 : 1 ≤ l.length ∧ l.length ≤ 48) (h3 : ∀ x ∈ l, 0 ≤ x ∧ x ≤ 2 ^ w.toNat - 1) : chk w l = 0 := by
  unfold chk
  rw [if_neg (by omega), if_neg (by omega), if_neg]
  simpa using h3
theorem chg_ok {w t k : Int} {l : List Int} (hc : sqr w l t k = 0) : chk w (chgL l t.toNat k.toNat) = 0 := by
  obtain ⟨h1, h2, h3⟩ := sqr_ok hc
  obtain ⟨hw, hp, hx⟩ := chk_ok h1
  refine chk_iff hw (by rw [chgL_len]; exact hp) fun x hm => ?_
  unfold chgL at hm
  rcases List.mem_or_eq_of_mem_set hm with h | h
  · exact hx x h
  · subst h
    have h0 := hx _ (getD_mem (l := l) (i := t.toNat) (by omega))
    have hk : (2 : Int) ^ w.toNat = ((2 ^ w.toNat : Nat) : Int) := by simp
    have := Nat.xor_lt_two_pow (x := (l.getD t.toNat 0).toNat) (y := 2 ^ k.toNat) (n := w.toNat) (by omega) (Nat.pow_lt_pow_right (by omega) (by omega))
    omega
theorem small_chg {w t k : Int} {l : List Int} (hc : sqr w l t k = 0) : Small (chgL l t.toNat k.toNat) := small_of (chg_ok hc)

theorem run64 {base : Nat} {h : Heap} {v : AVal} {l : List Int} {w t k : Int} (hI : Ints h v l) :
    callL prog raw base (.fn 64 [] []) [pap w v, .int .i64 t, .int .i64 k] h = some (.tuple [pap (changeS w l t k).1 (nlV h.length (changeS w l t k).2.1), .int .i64 (changeS w l t k).2.2], h ++ newH (changeS w l t k).2.1) := by
  refine callL_run func64 rfl rfl ?_
  by_cases hc : sqr w l t k = 0
  · have e : changeS w l t k = (w, chgL l t.toNat k.toNat, 0) := by unfold changeS; rw [if_neg (by simp [hc])]
    obtain ⟨h1, h2, h3⟩ := sqr_ok hc
    have hne : chgL l t.toNat k.toNat ≠ [] := by
      intro e
      have := congrArg List.length e
      rw [chgL_len, List.length_nil] at this
      omega
    have hch : ∀ {base : Nat} {H : Heap}, Ints H v l → callL prog raw base (.fn 106 [] []) [pap w v, .int .i64 t, .int .i64 k] H = some (pap w (.slice (some ⟨H.length, 0, 0⟩) (chgL l t.toNat k.toNat).length (chgL l t.toNat k.toNat).length), H ++ [rowB (chgL l t.toNat k.toNat) 0]) := fun {base H} hI' => by
      rw [run106 hI' hc, newV_ne hne, newH_ne hne]
    rw [e]
    have hsp := @Nat.succ_ne_zero; repeat' (first | simp (disch := first | exact dschD12 | fail) only [go_sem, hsp, pap, hc, hch] | refine WP_drw ?_ | refine cnd_intro (fun hsp => ?_) fun hsp => ?_)
    refine fin_nw (f := fun x => .tuple [pap w x, .int .i64 0]) (l := chgL l t.toNat k.toNat) (j := 2) (fun x => by simp [AVal.refs, refsL]) (fun g x => by simp [AVal.ren, renL]) hne (.app (.app (.app .refl))) ?_ ?_ rfl
    · simp
    · simp [nlV, hne]
  · have e : changeS w l t k = (0, [], sqr w l t k) := by unfold changeS; rw [if_pos hc]
    rw [e]
    have hsp := @Nat.succ_ne_zero; repeat' (first | simp (disch := first | exact dschD12 | fail) only [go_sem, hsp, pap, hc] | refine WP_drw ?_ | refine cnd_intro (fun hsp => ?_) fun hsp => ?_)
    exact fin_pap rfl rfl (.app (.app .refl))
attribute [go_sem] run64

theorem run65 {base : Nat} {h : Heap} {v : AVal} {l : List Int} {w t k : Int} (hI : Ints h v l) :
    callL prog raw base (.fn 65 [] []) [pap w v, .int .i64 t, .int .i64 k] h = some (tup2 (costS w l t k), h) := by
  refine callL_run func65 rfl rfl ?_
  by_cases hc : sqr w l t k = 0
  · obtain ⟨h1, h2, h3⟩ := sqr_ok hc
    obtain ⟨hw, hp, hx⟩ := chk_ok h1
    have hc2 := chg_ok hc
    have hs := small_chg hc
    have b1 := (fewest_bd h1).2
    have b2 := (fewest_bd hc2).2
    rw [chgL_len] at b2
    have hIc : ∀ {H : Heap} {n : Nat}, n = H.length → Ints (H ++ newH (chgL l t.toNat k.toNat)) (newV n (chgL l t.toNat k.toNat)) (chgL l t.toNat k.toNat) := fun hn => newV_ints' hn hs
    unfold tup2
    rw [costS, if_neg (by simp [hc])]
    have hsp := @Nat.succ_ne_zero; repeat' (first | simp (disch := first | exact dschD12 | fail) only [go_sem, hsp, pap, pln, hc, hc2, h1] | refine WP_drw ?_ | refine cnd_intro (fun hsp => ?_) fun hsp => ?_)
    all_goals (first | refine fI ?_ | refine fB ?_ | refine fII ?_ ?_ | refine fBI ?_ ?_ | refine fIII ?_ ?_ ?_ | refine fIIB ?_ ?_ ?_ | skip); all_goals (try dsimp only); all_goals (try with_reducible rfl); all_goals (try omega)
  · unfold tup2
    rw [costS, if_pos hc]
    have hsp := @Nat.succ_ne_zero; repeat' (first | simp (disch := first | exact dschD12 | fail) only [go_sem, hsp, pap, hc] | refine WP_drw ?_ | refine cnd_intro (fun hsp => ?_) fun hsp => ?_)
    all_goals (first | refine fI ?_ | refine fB ?_ | refine fII ?_ ?_ | refine fBI ?_ ?_ | refine fIII ?_ ?_ ?_ | refine fIIB ?_ ?_ ?_ | skip); all_goals (try dsimp only); all_goals (try with_reducible rfl); all_goals (try omega)
attribute [go_sem] run65
end Go.AM
