/-
  What a weaver pays; plain: the truths that the reference lists.
-/
import Derived.Test.YtlhmeoeamcgcmaaGreatE64
set_option linter.unusedSimpArgs false
set_option linter.unusedVariables false
namespace Go.AM
open Go.Proofs.Tryz
theorem dschE65 {p : Prop} (h : p := by first | exact Nat.ne_of_beq_eq_false rfl | assumption | (apply asOne; (first | exact One.int | exact One.bool | assumption | exact Ints.one (by assumption) | exact Rows.one (by assumption) | exact Own.one (by assumption) | exact One.lit ⟨rfl, rfl, rfl⟩)) | (apply asInts; (repeat first | assumption | exact ints_nil | apply Ints.app); done) | (apply asRows; (repeat first | assumption | exact Rows.nil | apply Rows.app); done) | (apply asScal; (first | apply allS1 | apply allS2 | apply allS3 | apply allS4) <;> (first | exact One.int | exact One.bool | assumption | exact Ints.one (by assumption) | exact Rows.one (by assumption) | exact Own.one (by assumption) | exact One.lit ⟨rfl, rfl, rfl⟩)) | exact litT rfl | exact litF rfl | omega | (simp only [List.length_append, List.length_cons, List.length_nil, List.length_set, List.length_reverse]; first | done | omega) | fail) : p := h
attribute [-go_sem] put_ne put_same
attribute [local go_sem ↓] put_if

/-! ### How many truths there are -/
theorem toN_tri {k : Int} {T : Nat} {rest : List (List Brk)} : ∀ n, n ≤ T → 2 * (frN k T rest n).length = n * (2 * T + 1 - n) * rest.length
  | 0, _ => by simp [frN]
  | n + 1, h => by
    have ih := toN_tri (k := k) (T := T) (rest := rest) n (by omega)
    rw [frN, List.length_append, toN_len, Nat.mul_add, ih, ← Nat.mul_assoc, ← Nat.add_mul]
    congr 1
    obtain ⟨d, rfl⟩ : ∃ d, T = n + 1 + d := ⟨T - (n + 1), by omega⟩
    rw [show 2 * (n + 1 + d) + 1 - n = n + 2 * d + 3 by omega, show n + 1 + d - n = d + 1 by omega, show 2 * (n + 1 + d) + 1 - (n + 1) = n + 2 * d + 2 by omega]
    simp only [Nat.mul_add, Nat.add_mul, Nat.mul_one, Nat.one_mul]
    omega
theorem allR_count {T : Nat} : ∀ (m k : Nat), (allR T k m).length = (T * (T + 1) / 2 + 1) ^ m
  | 0, k => by simp [allR]
  | m + 1, k => by
    have ih := allR_count (T := T) m (k + 1)
    have ht := toN_tri (k := (k : Int)) (T := T) (rest := allR T (k + 1) m) T (Nat.le_refl _)
    rw [show 2 * T + 1 - T = T + 1 by omega] at ht
    have hev : 2 * (T * (T + 1) / 2) = T * (T + 1) := by
      have : T * (T + 1) % 2 = 0 := by
        rcases Nat.mod_two_eq_zero_or_one T with e | e
        · rw [Nat.mul_mod, e, Nat.zero_mul]
        · rw [Nat.mul_mod, show (T + 1) % 2 = 0 by omega, Nat.mul_zero]
      omega
    rw [← hev, Nat.mul_assoc] at ht
    rw [allR, List.length_append, Nat.pow_succ, ← ih, Nat.mul_add, Nat.mul_one, Nat.mul_comm (allR T (k + 1) m).length]
    omega
theorem waysN_nat {L : Lom} {T : Nat} (e : L.T = (T : Int)) (m k : Nat) : waysN L m = ((allR T k m).length : Int) := by
  rw [allR_count]
  unfold waysN
  rw [e, Int.tdiv_eq_ediv_of_nonneg (by exact Int.mul_nonneg (by omega) (by omega))]
  push_cast
  rfl
/-! ### The truths -/
def trsR (L : Lom) : List (List Brk) := (allR L.T.toNat 0 L.ps.length).filter (xplM L)
theorem allR_ok {L : Lom} (hc : chkM L = 0) {t : List Brk} : t ∈ allR L.T.toNat 0 L.ps.length ↔ truOk L t := by
  obtain ⟨k1, k2, _⟩ := chkM_ok hc
  rw [allR_mem]
  unfold truOk brkOk
  refine and_congr_right fun _ => forall_congr' fun b => imp_congr_right fun _ => ?_
  constructor
  · intro h; omega
  · intro h; omega
theorem trsR_mem {L : Lom} (hc : chkM L = 0) {t : List Brk} : t ∈ trsR L ↔ XpA L t := by
  unfold trsR
  rw [List.mem_filter, allR_ok hc, xplM_iff hc]
  exact ⟨fun h => h.2, fun h => ⟨h.1, h⟩⟩
/-! ### Fine -/
def finM (L : Lom) (p : Int) : Int × Int := if chkM L ≠ 0 then (0, chkM L) else if ¬ (0 ≤ p ∧ p ≤ 1000) then (0, 3) else if (wvrM L).2 ≠ 0 then (0, (wvrM L).2) else (p * ((wvrM L).1.length : Int), 0)
theorem wvrM_len {L : Lom} : (wvrM L).1.length ≤ (deskA L).1.length := by
  unfold wvrM
  split
  · simp
  · exact selN_len _
set_option maxHeartbeats 1000000 in
theorem run_fine {base : Nat} {h : Heap} {v : AVal} {L : Lom} {p : Int} (hL : LomAt h v L) (hok : LomOk L) :
    callL prog raw base (.fn 40 [] []) [v, .int .i64 p] h = some (.tuple [.int .i64 (finM L p).1, .int .i64 (finM L p).2], h) := by
  have x1 : ∀ {a : ABlk}, Ext h (h ++ [a]) := fun {a} => .app .refl
  have ck : ∀ {base : Nat} {a : ABlk}, callL prog raw base (.fn 59 [] []) [v] (h ++ [a]) = some (.int .i64 (chkM L), h ++ [a]) := fun {base a} => run_check' (hL.ext x1) hok
  obtain ⟨pv, sv, rfl, hP, hS⟩ := id hL
  obtain ⟨_, H2, e2, y2, u, rfl, oU⟩ := run_weavers (base := h.length) (h := h ++ [(⟨.cells [.int .i64 L.R, .int .i64 L.T, pv, sv] 25 false false, 0⟩ : ABlk)]) (by simp) (hL.ext x1) hok
  have hu := oU.one
  have xx := x1.trans y2
  have hh := xx.len
  by_cases c1 : chkM L = 0
  · have t1 : (chkM L = 0) = True := eq_true c1
    obtain ⟨k1, k2, k3, k4, k5, k6⟩ := chkM_ok c1
    rw [c1] at ck
    by_cases c2 : 0 ≤ p ∧ p ≤ 1000
    · have t2 : (0 ≤ p ∧ p ≤ 1000) = True := eq_true c2
      by_cases c3 : (wvrM L).2 = 0
      · have t3 : ((wvrM L).2 = 0) = True := eq_true c3
        have r : finM L p = (p * ((wvrM L).1.length : Int), 0) := by unfold finM; rw [if_neg (by simp [c1]), if_neg (fun q => q c2), if_neg (by simp [c3])]
        have wl := wvrM_len (L := L)
        have dl := (deskL_A c1 hok).2.1
        have lu := own_len oU Fc.el36 (by omega)
        rw [c3] at e2
        have mb : p * ((wvrM L).1.length : Int) ≤ 1000 * 1000 := Int.mul_le_mul c2.2 (by omega) (by omega) (by decide)
        have m0 : 0 ≤ p * ((wvrM L).1.length : Int) := Int.mul_nonneg c2.1 (by omega)
        have ml : binA prog .mul 3 (.int .i64 p) (.int .i64 ((wvrM L).1.length : Int)) = some (.int .i64 (p * ((wvrM L).1.length : Int))) := by rw [bin_mul, wrap64 (by omega) (by omega)]
        rw [r]
        refine callL_run func40 rfl rfl ?_
        have hsp := @Nat.succ_ne_zero; repeat' (first | simp (disch := first | exact dschE65 | fail) only [go_sem, ↓reduceIte, hsp, ck, t2, e2, lu, ml, eq_self, not_true, decide_false] | refine WP_drw ?_ | refine cnd_intro (fun hsp => ?_) fun hsp => ?_)
        exact fII rfl rfl xx
      · have t3 : ((wvrM L).2 = 0) = False := eq_false c3
        have r : finM L p = (0, (wvrM L).2) := by unfold finM; rw [if_neg (by simp [c1]), if_neg (fun q => q c2), if_pos c3]
        rw [r]
        refine callL_run func40 rfl rfl ?_
        have hsp := @Nat.succ_ne_zero; repeat' (first | simp (disch := first | exact dschE65 | fail) only [go_sem, ↓reduceIte, hsp, ck, t2, e2, t3, eq_self, not_true, decide_false, not_false_iff, decide_true] | refine WP_drw ?_ | refine cnd_intro (fun hsp => ?_) fun hsp => ?_)
        exact fII rfl rfl xx
    · have t2 : (0 ≤ p ∧ p ≤ 1000) = False := eq_false c2
      have r : finM L p = (0, 3) := by unfold finM; rw [if_neg (by simp [c1]), if_pos c2]
      rw [r]
      refine callL_run func40 rfl rfl ?_
      have hsp := @Nat.succ_ne_zero; repeat' (first | simp (disch := first | exact dschE65 | fail) only [go_sem, ↓reduceIte, hsp, ck, t2, eq_self, not_true, decide_false, not_false_iff, decide_true] | refine WP_drw ?_ | refine cnd_intro (fun hsp => ?_) fun hsp => ?_)
      exact fII rfl rfl
  · have t1 : (chkM L = 0) = False := eq_false c1
    have r : finM L p = (0, chkM L) := by unfold finM; rw [if_pos c1]
    rw [r]
    refine callL_run func40 rfl rfl ?_
    have hsp := @Nat.succ_ne_zero; repeat' (first | simp (disch := first | exact dschE65 | fail) only [go_sem, ↓reduceIte, hsp, ck, t1, not_false_iff, decide_true] | refine WP_drw ?_ | refine cnd_intro (fun hsp => ?_) fun hsp => ?_)
    exact fII rfl rfl
end Go.AM
