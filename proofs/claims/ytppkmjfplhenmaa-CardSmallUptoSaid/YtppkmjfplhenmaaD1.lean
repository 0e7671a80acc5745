/-
  Contracts: steps, plans, squares, chains of the reference.
-/
import Derived.Test.YtppkmjfplhenmaaC1
import Derived.Test.YtppkmjfplhenmaaFCard
set_option linter.unusedSimpArgs false
set_option linter.unusedVariables false
namespace Go.AM
open Go.Proofs.Try
theorem dschD1 {p : Prop} (h : p := by first | exact Nat.ne_of_beq_eq_false rfl | assumption | (apply asOne; (first | exact One.int | exact One.bool | exact newV_one | exact grV_one | exact cloneV_one | exact takF_one | assumption | exact Ints.one (by assumption) | exact One.lit ⟨rfl, rfl, rfl⟩)) | (apply asInts; (repeat first | assumption | (apply newV_ints' <;> first | assumption | (first | rfl | (simp only [List.length_append, List.length_cons, List.length_nil, List.length_set]; done) | (simp only [List.length_append, List.length_cons, List.length_nil, List.length_set]; omega))) | (apply grV_ints <;> first | assumption | (first | rfl | (simp only [List.length_append, List.length_cons, List.length_nil, List.length_set]; done) | (simp only [List.length_append, List.length_cons, List.length_nil, List.length_set]; omega))) | apply Ints.app); done) | (apply asScal; (first | apply allS1 | apply allS2 | apply allS3 | apply allS4) <;> (first | exact One.int | exact One.bool | exact newV_one | exact grV_one | exact cloneV_one | exact takF_one | assumption | exact Ints.one (by assumption) | exact One.lit ⟨rfl, rfl, rfl⟩)) | exact litT rfl | exact litF rfl | omega | (simp only [List.length_append, List.length_cons, List.length_nil, lst_len, List.length_set, ints_length, List.length_reverse]; first | done | omega) | fail) : p := h
theorem lenI {h : Heap} {v : AVal} {l : List Int} (hI : Ints h v l) : lenOpA prog h 22 v = some (.int .i64 (l.length : Int)) := hI.len el22
theorem adrI {h : Heap} {v : AVal} {l : List Int} {i : Int} (h0 : 0 ≤ i) (hI : Ints h v l) (h1 : i < l.length) : indexAddrA prog 22 v (.int .i64 i) = some (elAddr v i.toNat) := hI.addr el22 ar22 h0 h1
theorem loadI {h : Heap} {v : AVal} {l : List Int} {i : Nat} (hI : Ints h v l) (h1 : i < l.length) : loadP prog h 3 (elAddr v i) = some (.int .i64 (l.getD i 0)) :=
  hI.load ty3 (by rw [List.getD_eq_getElem?_getD, List.getElem?_eq_getElem h1]; rfl)
section
variable {h A : Heap} {base n : Nat} {lit : Bool} {x : Int} {l : List Int}
theorem bsl22 (hl : lit = true) : bsA prog lit h 22 1 [(0, .int .i64 x)] = some (.vals [.int .i64 x], h) := bs_lit hl el22
theorem bsr22 (hl : lit = false) : bsA prog lit h 22 1 [(0, .int .i64 x)] = some (.slice (some ⟨h.length, 0, 0⟩) 1 1, h ++ [rowB [x] 0]) := bs_row hl el22
theorem app22 (hn : n = A.length) (hb : base ≤ A.length) (hl : l.length < 1073741824) : appendA prog base (A ++ grH l) 22 (grV n l) (.vals [.int .i64 x]) = some (grV n (l ++ [x]), A ++ grH (l ++ [x])) := app_gr el22 hn hb hl
end
attribute [go_sem] lenI adrI loadI bsl22 bsr22 app22 run83 run84 run95 run87 run88 run67 run75 run44 run19 run96 run23 run92
theorem run27 {base : Nat} {h : Heap} {k s w : Int} (h0 : -1000 ≤ w) (h1 : w ≤ 1000) : callL prog raw base (.fn 27 [] []) [.int .i64 w, .int .i64 k, .int .i64 s] h = some (.bool (stepOk k s w), h) := by
  refine callL_run func27 rfl rfl ?_
  have hsp := @Nat.succ_ne_zero; repeat' (first | simp (disch := first | exact dschD1 | fail) only [go_sem, hsp] | refine WP_drw ?_ | refine cnd_intro (fun hsp => ?_) fun hsp => ?_)
  all_goals (first | refine fI ?_ | refine fB ?_ | refine fII ?_ ?_ | refine fBI ?_ ?_ | refine fIII ?_ ?_ ?_ | refine fIIB ?_ ?_ ?_ | skip); all_goals (try dsimp only); all_goals (try with_reducible rfl); all_goals (try omega)
  · rw [stepOk, if_pos rfl, ← decide_not]
    exact dec_eq (by omega)
  · rw [stepOk, if_neg (by assumption)]
attribute [go_sem] run27
theorem all_of {p : Int → Bool} {l : List Int} (h : ∀ i, i < l.length → p (l.getD i 0) = true) : l.all p = true := by
  refine List.all_eq_true.2 fun x hx => ?_
  obtain ⟨i, hi, rfl⟩ := List.getElem_of_mem hx
  have := h i hi
  rwa [List.getD_eq_getElem?_getD, List.getElem?_eq_getElem hi] at this
theorem not_all {p : Int → Bool} {l : List Int} {i : Nat} (hi : i < l.length) (h : ¬ p (l.getD i 0) = true) : ¬ l.all p = true := fun ha => by
  refine h (List.all_eq_true.1 ha _ ?_)
  rw [List.getD_eq_getElem?_getD, List.getElem?_eq_getElem hi]
  exact List.getElem_mem hi

theorem run51 {base : Nat} {h : Heap} {v : AVal} {l : List Int} {w k s : Int} (hI : Ints h v l) : callL prog raw base (.fn 51 [] []) [chn w v k s] h = some (.int .i64 (chkC w l k s), h) := by
  refine callL_run func51 rfl rfl ?_
  have hsp := @Nat.succ_ne_zero; repeat' (first | simp (disch := first | exact dschD1 | fail) only [go_sem, hsp, chn] | refine WP_drw ?_ | refine cnd_intro (fun hsp => ?_) fun hsp => ?_)
  all_goals (first | refine fI ?_ | refine fB ?_ | refine fII ?_ ?_ | refine fBI ?_ ?_ | refine fIII ?_ ?_ ?_ | refine fIIB ?_ ?_ ?_ | skip); all_goals (try dsimp only); all_goals (try with_reducible rfl); all_goals (try omega)
  · rw [chkC, if_pos (by omega)]
  · rw [chkC, if_neg (by omega), if_pos (by omega)]
  · rw [chkC, if_neg (by omega), if_neg (by omega), if_pos (by omega)]
  · refine WP_loop (fun σ => ∃ i : Nat, σ.fr 3 = .int .i64 (i : Int) ∧ σ.fr 1 = .ptr (some ⟨h.length, 0, 0⟩) ∧ σ.h = h ++ [⟨.cells [.int .i64 w, v, .int .i64 k, .int .i64 s] 40 false false, 0⟩] ∧ i ≤ l.length ∧ (∀ j, j < i → (0 ≤ l.getD j 0 ∧ l.getD j 0 ≤ 2 ^ w.toNat - 1))) (fun σ => match σ.fr 3 with | .int _ x => (((l.length : Nat) : Int) - x).toNat | _ => 0) ?_ ?_
    · refine ⟨0, ?_, ?_, ?_, by omega, ?_⟩
      iterate 3 focus (first | rfl | (simp (disch := first | exact dschD1 | fail) only [go_sem, Int.natCast_zero]; first | done | rfl))
      intro j hj; omega
    · rintro ⟨fr, hp⟩ ⟨i, r3, r1, rh, hi, hP⟩
      dsimp only at r3 r1 rh hi hP
      subst rh
      have hpw := pow_le (w := w) (by omega) (by omega)
      have hsp := @Nat.succ_ne_zero; repeat' (first | simp (disch := first | exact dschD1 | fail) only [go_sem, hsp, r3, r1, Int.toNat_natCast] | refine WP_drw ?_ | refine cnd_intro (fun hsp => ?_) fun hsp => ?_)
      all_goals (first | refine fI ?_ | refine fB ?_ | refine fII ?_ ?_ | refine fBI ?_ ?_ | refine fIII ?_ ?_ ?_ | refine fIIB ?_ ?_ ?_ | skip); all_goals (try dsimp only); all_goals (try with_reducible rfl); all_goals (try omega)
      · rw [chkC, if_neg (by omega), if_neg (by omega), if_neg (by omega), if_pos (.inl (not_all (i := i) (by omega) (by simp only [decide_eq_true_eq]; omega)))]
      · refine ⟨⟨i + 1, by simp, by omega, fun j hj => ?_⟩, by omega⟩
        by_cases e : j = i
        · subst e; omega
        · exact hP j (by omega)
      all_goals have hall : (l.all fun x => decide (0 ≤ x ∧ x ≤ 2 ^ w.toNat - 1)) = true := all_of fun j hj => by simpa using hP j (by omega)
      · rw [chkC, if_neg (by omega), if_neg (by omega), if_neg (by omega), if_pos (.inr (by simpa using ‹_›))]
      · rw [chkC, if_neg (by omega), if_neg (by omega), if_neg (by omega), if_neg]
        rintro (e | e)
        · exact e hall
        · simp_all

theorem run47 {base : Nat} {h : Heap} {b : Bool} : callL prog raw base (.fn 47 [] []) [.bool b] h = some (.int .i64 (if b = true then 0 else 6), h) := by
  refine callL_run func47 rfl rfl ?_
  have hsp := @Nat.succ_ne_zero; repeat' (first | simp (disch := first | exact dschD1 | fail) only [go_sem, hsp] | refine WP_drw ?_ | refine cnd_intro (fun hsp => ?_) fun hsp => ?_)
  all_goals (first | refine fI ?_ | refine fB ?_ | refine fII ?_ ?_ | refine fBI ?_ ?_ | refine fIII ?_ ?_ ?_ | refine fIIB ?_ ?_ ?_ | skip); all_goals (try dsimp only); all_goals (try with_reducible rfl); all_goals (try omega)
  all_goals simp

theorem run99 {base : Nat} {h : Heap} {v : AVal} {l : List Int} {w t : Int} (hI : Ints h v l) : callL prog raw base (.fn 99 [] []) [pap w v, .int .i64 t] h = some (.bool (decide (0 ≤ t ∧ t < l.length)), h) := by
  refine callL_run func99 rfl rfl ?_
  have := hI.1.1
  have hsp := @Nat.succ_ne_zero; repeat' (first | simp (disch := first | exact dschD1 | fail) only [go_sem, hsp, pap] | refine WP_drw ?_ | refine cnd_intro (fun hsp => ?_) fun hsp => ?_)
  all_goals (first | refine fI ?_ | refine fB ?_ | refine fII ?_ ?_ | refine fBI ?_ ?_ | refine fIII ?_ ?_ ?_ | refine fIIB ?_ ?_ ?_ | skip); all_goals (try dsimp only); all_goals (try with_reducible rfl); all_goals (try omega)
  exact dec_eq (by omega)
attribute [go_sem] run99

/-- What card.square says. -/
def sqr (w : Int) (l : List Int) (t k : Int) : Int := if chk w l ≠ 0 then chk w l else if ¬ (0 ≤ t ∧ t < l.length) ∨ ¬ (0 ≤ k ∧ k < w) then 1 else 0
theorem chk_ok {w : Int} {l : List Int} (h : chk w l = 0) : (1 ≤ w ∧ w ≤ 8) ∧ (1 ≤ l.length ∧ l.length ≤ 48) ∧ ∀ x ∈ l, 0 ≤ x ∧ x ≤ 2 ^ w.toNat - 1 := by
  unfold chk at h
  split at h
  · cases h
  · split at h
    · cases h
    · split at h
      · cases h
      · rename_i h1 h2 h3
        refine ⟨by omega, by omega, fun x hx => ?_⟩
        have := List.all_eq_true.1 (Classical.not_not.1 h3) x hx
        simpa using this
theorem run105 {base : Nat} {h : Heap} {v : AVal} {l : List Int} {w t k : Int} (hI : Ints h v l) : callL prog raw base (.fn 105 [] []) [pap w v, .int .i64 t, .int .i64 k] h = some (.int .i64 (sqr w l t k), h) := by
  refine callL_run func105 rfl rfl ?_
  by_cases hc : chk w l = 0
  · have hw := (chk_ok hc).1
    have hsp := @Nat.succ_ne_zero; repeat' (first | simp (disch := first | exact dschD1 | fail) only [go_sem, hsp, pap, hc] | refine WP_drw ?_ | refine cnd_intro (fun hsp => ?_) fun hsp => ?_)
    all_goals (first | refine fI ?_ | refine fB ?_ | refine fII ?_ ?_ | refine fBI ?_ ?_ | refine fIII ?_ ?_ ?_ | refine fIIB ?_ ?_ ?_ | skip); all_goals (try dsimp only); all_goals (try with_reducible rfl); all_goals (try omega)
    all_goals (simp only [sqr, hc]; simp_all; try omega)
  · have hsp := @Nat.succ_ne_zero; repeat' (first | simp (disch := first | exact dschD1 | fail) only [go_sem, hsp, pap, hc] | refine WP_drw ?_ | refine cnd_intro (fun hsp => ?_) fun hsp => ?_)
    all_goals (first | refine fI ?_ | refine fB ?_ | refine fII ?_ ?_ | refine fBI ?_ ?_ | refine fIII ?_ ?_ ?_ | refine fIIB ?_ ?_ ?_ | skip); all_goals (try dsimp only); all_goals (try with_reducible rfl); all_goals (try omega)
    all_goals (simp only [sqr]; simp_all)

theorem run61 {base : Nat} {h : Heap} {v : AVal} {l : List Int} {w t k : Int} (hI : Ints h v l) (h0 : 0 ≤ w) (h1 : w ≤ 100) :
    callL prog raw base (.fn 61 [] []) [pap w v, .int .i64 t, .int .i64 k] h = some (.int .i64 (if ¬ (0 ≤ t ∧ t < l.length) ∨ ¬ (0 ≤ k ∧ k < w) then 1 else 0), h) := by
  refine callL_run func61 rfl rfl ?_
  have := hI.1.1
  have hsp := @Nat.succ_ne_zero; repeat' (first | simp (disch := first | exact dschD1 | fail) only [go_sem, hsp, pap] | refine WP_drw ?_ | refine cnd_intro (fun hsp => ?_) fun hsp => ?_)
  all_goals (first | refine fI ?_ | refine fB ?_ | refine fII ?_ ?_ | refine fBI ?_ ?_ | refine fIII ?_ ?_ ?_ | refine fIIB ?_ ?_ ?_ | skip); all_goals (try dsimp only); all_goals (try with_reducible rfl); all_goals (try omega)
  all_goals simp_all
  all_goals omega
attribute [go_sem] run51 run47 run105 run61
end Go.AM
