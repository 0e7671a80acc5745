/-
  Contracts: the sights that are the weaver's in all truths, as the reference says it.
-/
import Derived.Test.YtlhmeoeamcgcmaaGreatE61
set_option linter.unusedSimpArgs false
set_option linter.unusedVariables false
namespace Go.AM
open Go.Proofs.Tryz
attribute [-go_sem] put_ne put_same
attribute [local go_sem ↓] put_if
def wvsB (L : Lom) (ts : List (List Brk)) (s : Sgt) : Bool := s.bad && ts.all fun t => wvB L t s
def wvsR (L : Lom) (ts : List (List Brk)) (n : Nat) : List Int := (upto n).filter fun i => wvsB L ts (L.ss.getD i.toNat sgt0)
end Go.AM
/-
  What a weaver pays; plain: the truths that the reference lists.
-/
namespace Go.AM
open Go.Proofs.Tryz
theorem dschE65 {p : Prop} (h : p := by first | exact Nat.ne_of_beq_eq_false rfl | assumption | (apply asOne; (first | exact One.int | exact One.bool | assumption | exact Ints.one (by assumption) | exact Rows.one (by assumption) | exact Own.one (by assumption) | exact One.lit ⟨rfl, rfl, rfl⟩)) | (apply asInts; (repeat first | assumption | exact ints_nil | apply Ints.app); done) | (apply asRows; (repeat first | assumption | exact Rows.nil | apply Rows.app); done) | (apply asScal; (first | apply allS1 | apply allS2 | apply allS3 | apply allS4) <;> (first | exact One.int | exact One.bool | assumption | exact Ints.one (by assumption) | exact Rows.one (by assumption) | exact Own.one (by assumption) | exact One.lit ⟨rfl, rfl, rfl⟩)) | exact litT rfl | exact litF rfl | omega | (simp only [List.length_append, List.length_cons, List.length_nil, List.length_set, List.length_reverse]; first | done | omega) | fail) : p := h
attribute [-go_sem] put_ne put_same
attribute [local go_sem ↓] put_if
/-! ### How many truths there are -/
/-! ### The truths -/
def trsR (L : Lom) : List (List Brk) := (allR L.T.toNat 0 L.ps.length).filter (xplM L)
/-! ### Fine -/
def finM (L : Lom) (p : Int) : Int × Int := if chkM L ≠ 0 then (0, chkM L) else if ¬ (0 ≤ p ∧ p ≤ 1000) then (0, 3) else if (wvrM L).2 ≠ 0 then (0, (wvrM L).2) else (p * ((wvrM L).1.length : Int), 0)
theorem wvrM_len {L : Lom} : (wvrM L).1.length ≤ (deskA L).1.length := by
  unfold wvrM
  split
  · simp
  · exact selN_len _
set_option maxHeartbeats 1000000 in
theorem run_fine {base : Nat} {h : Heap} {v : AVal} {L : Lom} {p : Int} (hL : LomAt h v L) (hok : LomOk L) :
    callL prog raw base (.fn 40 [] []) [v, .int .i64 p] h = some (.tuple [.int .i64 (finM L p).1, .int .i64 (finM L p).2], h) := by
  have x1 : ∀ {a : ABlk}, Ext h (h ++ [a]) := fun {a} => .app .refl
  have ck : ∀ {base : Nat} {a : ABlk}, callL prog raw base (.fn 59 [] []) [v] (h ++ [a]) = some (.int .i64 (chkM L), h ++ [a]) := fun {base a} => run_check' (hL.ext x1) hok
  obtain ⟨pv, sv, rfl, hP, hS⟩ := id hL
  obtain ⟨_, H2, e2, y2, u, rfl, oU⟩ := run_weavers (base := h.length) (h := h ++ [(⟨.cells [.int .i64 L.R, .int .i64 L.T, pv, sv] 25 false false, 0⟩ : ABlk)]) (by simp) (hL.ext x1) hok
  have hu := oU.one
  have xx := x1.trans y2
  have hh := xx.len
  by_cases c1 : chkM L = 0
  · have t1 : (chkM L = 0) = True := eq_true c1
    obtain ⟨k1, k2, k3, k4, k5, k6⟩ := chkM_ok c1
    rw [c1] at ck
    by_cases c2 : 0 ≤ p ∧ p ≤ 1000
    · have t2 : (0 ≤ p ∧ p ≤ 1000) = True := eq_true c2
      by_cases c3 : (wvrM L).2 = 0
      · have t3 : ((wvrM L).2 = 0) = True := eq_true c3
        have r : finM L p = (p * ((wvrM L).1.length : Int), 0) := by unfold finM; rw [if_neg (by simp [c1]), if_neg (fun q => q c2), if_neg (by simp [c3])]
        have wl := wvrM_len (L := L)
        have dl := (deskL_A c1 hok).2.1
        have lu := own_len oU Fc.el36 (by omega)
        rw [c3] at e2
        have mb : p * ((wvrM L).1.length : Int) ≤ 1000 * 1000 := Int.mul_le_mul c2.2 (by omega) (by omega) (by decide)
        have m0 : 0 ≤ p * ((wvrM L).1.length : Int) := Int.mul_nonneg c2.1 (by omega)
        have ml : binA prog .mul 3 (.int .i64 p) (.int .i64 ((wvrM L).1.length : Int)) = some (.int .i64 (p * ((wvrM L).1.length : Int))) := by rw [bin_mul, wrap64 (by omega) (by omega)]
        rw [r]
        refine callL_run func40 rfl rfl ?_
        have hsp := @Nat.succ_ne_zero; repeat' (first | simp (disch := first | exact dschE65 | fail) only [go_sem, ↓reduceIte, hsp, ck, t2, e2, lu, ml, eq_self, not_true, decide_false] | refine WP_drw ?_ | refine cnd_intro (fun hsp => ?_) fun hsp => ?_)
        exact fII rfl rfl xx
      · have t3 : ((wvrM L).2 = 0) = False := eq_false c3
        have r : finM L p = (0, (wvrM L).2) := by unfold finM; rw [if_neg (by simp [c1]), if_neg (fun q => q c2), if_pos c3]
        rw [r]
        refine callL_run func40 rfl rfl ?_
        have hsp := @Nat.succ_ne_zero; repeat' (first | simp (disch := first | exact dschE65 | fail) only [go_sem, ↓reduceIte, hsp, ck, t2, e2, t3, eq_self, not_true, decide_false, not_false_iff, decide_true] | refine WP_drw ?_ | refine cnd_intro (fun hsp => ?_) fun hsp => ?_)
        exact fII rfl rfl xx
    · have t2 : (0 ≤ p ∧ p ≤ 1000) = False := eq_false c2
      have r : finM L p = (0, 3) := by unfold finM; rw [if_neg (by simp [c1]), if_pos c2]
      rw [r]
      refine callL_run func40 rfl rfl ?_
      have hsp := @Nat.succ_ne_zero; repeat' (first | simp (disch := first | exact dschE65 | fail) only [go_sem, ↓reduceIte, hsp, ck, t2, eq_self, not_true, decide_false, not_false_iff, decide_true] | refine WP_drw ?_ | refine cnd_intro (fun hsp => ?_) fun hsp => ?_)
      exact fII rfl rfl
  · have t1 : (chkM L = 0) = False := eq_false c1
    have r : finM L p = (0, chkM L) := by unfold finM; rw [if_pos c1]
    rw [r]
    refine callL_run func40 rfl rfl ?_
    have hsp := @Nat.succ_ne_zero; repeat' (first | simp (disch := first | exact dschE65 | fail) only [go_sem, ↓reduceIte, hsp, ck, t1, not_false_iff, decide_true] | refine WP_drw ?_ | refine cnd_intro (fun hsp => ?_) fun hsp => ?_)
    exact fII rfl rfl
end Go.AM
/-
  Plain: the weaver's sights, as the reference says them.
-/
namespace Go.AM
/-- The error of Other, as the reference says it. -/
def othR (L : Lom) (i : Int) : Int := if ¬ (0 ≤ i ∧ i < (L.ss.length : Int)) then 1 else if badI L i = false then 8 else if (wvrM L).2 ≠ 0 then (wvrM L).2 else if i ∈ (wvrM L).1 then 6 else 0
end Go.AM
