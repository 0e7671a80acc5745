/-
  What all texts of a seat use.
-/
import Derived.Test.YtlhmeoeamcgcmaaGreatA8
import Derived.Test.YtlhmeoeamcgcmaaGreatF1
set_option linter.unusedSimpArgs false
set_option linter.unusedVariables false
namespace Go.AM
open Go.Proofs.Tryz
section
variable {h A : Heap} {v : AVal} {l : List Int} {base n : Nat} {lit : Bool} {x : Int}
theorem lenI (hI : Ints h v l) : lenOpA prog h 36 v = some (.int .i64 (l.length : Int)) := hI.len Fc.el36
theorem adrI {i : Int} (h0 : 0 ≤ i) (hI : Ints h v l) (h1 : i < l.length) : indexAddrA prog 36 v (.int .i64 i) = some (elAddr v i.toNat) := hI.addr Fc.el36 Fc.ar36 h0 h1
theorem loadI {i : Nat} (hI : Ints h v l) (h1 : i < l.length) : loadP prog h 3 (elAddr v i) = some (.int .i64 (l.getD i 0)) :=
  hI.load Fc.ty3 (by rw [List.getD_eq_getElem?_getD, List.getElem?_eq_getElem h1]; rfl)
theorem bslI (hl : lit = true) : bsA prog lit h 36 1 [(0, .int .i64 x)] = some (.vals [.int .i64 x], h) := bs_lit hl Fc.el36
theorem bsrI (hl : lit = false) : bsA prog lit h 36 1 [(0, .int .i64 x)] = some (.slice (some ⟨h.length, 0, 0⟩) 1 1, h ++ [rowB [x] 0]) := bs_row hl Fc.el36
theorem ints_nil {H : Heap} : Ints H (.slice none 0 0) [] := ⟨⟨by simp, by simp⟩, .inl ⟨rfl, rfl⟩⟩
theorem slice_row {k : Nat} (hn : n = A.length) (hk : k = l.length) (hs : Small l) : Ints (A ++ [rowB l 0]) (.slice (some ⟨n, 0, 0⟩) k k) l := by
  subst hn hk
  exact Ints.fresh_row hs (by simp [rowB]) (Nat.le_refl _)
end
attribute [go_sem] lenI adrI loadI bslI bsrI
theorem extQ_ext {h H : Heap} {A : Prop} (e : Ext h H) : extQ true h H A = A := by
  simp only [extQ, true_imp_iff, and_iff_right_iff_imp, eq_iff_iff]
  exact fun _ => e
attribute [go_sem] extQ_ext
theorem getD_mem {l : List Int} {i : Nat} (hi : i < l.length) : l.getD i 0 ∈ l := by
  rw [List.getD_eq_getElem?_getD, List.getElem?_eq_getElem hi]; exact List.getElem_mem hi
theorem tmodN (a b : Nat) : (a : Int).tmod b = ((a % b : Nat) : Int) := rfl
theorem neB {a b : Bool} : binA prog .neq 4 (.bool a) (.bool b) = some (.bool (decide (a ≠ b))) := by cases a <;> cases b <;> kernel_rfl
end Go.AM
/-
  Contracts: lists of integers that are copied and compared; what is less.
-/
namespace Go.AM
open Go.Proofs.Tryz
theorem dschK3 {p : Prop} (h : p := by first | exact Nat.ne_of_beq_eq_false rfl | assumption | (apply asOne; (first | exact One.int | exact One.bool | assumption | exact Ints.one (by assumption) | exact Rows.one (by assumption) | exact Own.one (by assumption) | exact One.lit ⟨rfl, rfl, rfl⟩)) | (apply asInts; (repeat first | assumption | exact ints_nil | apply Ints.app); done) | (apply asRows; (repeat first | assumption | exact Rows.nil | apply Rows.app); done) | (apply asScal; (first | apply allS1 | apply allS2 | apply allS3 | apply allS4) <;> (first | exact One.int | exact One.bool | assumption | exact Ints.one (by assumption) | exact Rows.one (by assumption) | exact Own.one (by assumption) | exact One.lit ⟨rfl, rfl, rfl⟩)) | exact litT rfl | exact litF rfl | omega | (simp only [List.length_append, List.length_cons, List.length_nil, List.length_set, List.length_reverse]; first | done | omega) | fail) : p := h
theorem run_clone {base : Nat} {h : Heap} {v : AVal} {l : List Int} (hI : Ints h v l) (hs : Small l) : callL prog raw base (.fn 105 [] []) [v] h = some (cloneV v h.length l, h ++ cloneH v l) := by
  have e := hI.eqnil (t := 36) Fc.un36
  have hlen : l.length < 1073741824 := hs.1
  have ha := fun base => append_emp (base := base) hI (by omega) Fc.el36
  refine callL_run func105 rfl rfl ?_
  cases hn : nilB v with
  | true =>
    rw [hn] at e
    have hsp := @Nat.succ_ne_zero; repeat' (first | simp (disch := first | exact dschK3 | fail) only [go_sem, hsp, e] | refine WP_drw ?_ | refine cnd_intro (fun hsp => ?_) fun hsp => ?_)
    rw [cloneV, cloneH, if_pos hn, if_pos hn, List.append_nil]
    exact compact_plain' rfl
  | false =>
    rw [hn] at e
    have hsp := @Nat.succ_ne_zero; repeat' (first | simp (disch := first | exact dschK3 | fail) only [go_sem, hsp, e, bs_emp Fc.el36, ha] | refine WP_drw ?_ | refine cnd_intro (fun hsp => ?_) fun hsp => ?_)
    rw [cloneV, cloneH, if_neg (by simp [hn]), if_neg (by simp [hn])]
    cases l with
    | nil => simp only [newV_nil, newH_nil, List.append_nil]; exact compact_plain' rfl
    | cons x xs =>
      simp only [newV_cons, newH_cons]
      exact fin_row (j := 0) (by simp) rfl (ints_plain _) rfl rfl
theorem run_nan {base : Nat} {h : Heap} {x : Int} : callL prog raw base (.fn 189 [] []) [.int .i64 x] h = some (.bool false, h) := by
  have t1 : (x = x) = True := eq_true rfl
  refine callL_run func189 rfl rfl ?_
  have hsp := @Nat.succ_ne_zero; repeat' (first | simp (disch := first | exact dschK3 | fail) only [go_sem, hsp, t1, decide_not] | refine WP_drw ?_ | refine cnd_intro (fun hsp => ?_) fun hsp => ?_)
  exact fB rfl
attribute [go_sem] run_nan
theorem run_less {base : Nat} {h : Heap} {x y : Int} : callL prog raw base (.fn 170 [] []) [.int .i64 x, .int .i64 y] h = some (.bool (decide (x < y)), h) := by
  refine callL_run func170 rfl rfl ?_
  have hsp := @Nat.succ_ne_zero; repeat' (first | simp (disch := first | exact dschK3 | fail) only [go_sem, hsp] | refine WP_drw ?_ | refine cnd_intro (fun hsp => ?_) fun hsp => ?_)
  exact fB rfl
attribute [go_sem] run_less
theorem run_equal {base : Nat} {h : Heap} {a b : AVal} {l m : List Int} (ha : Ints h a l) (hb : Ints h b m) : callL prog raw base (.fn 89 [] []) [a, b] h = some (.bool (decide (l = m)), h) := by
  have hl := ha.1.1
  refine callL_run func89 rfl rfl ?_
  by_cases hlm : l.length = m.length
  · have t1 : ((l.length : Int) = (m.length : Int)) = True := eq_true (by omega)
    have hsp := @Nat.succ_ne_zero; repeat' (first | simp (disch := first | exact dschK3 | fail) only [go_sem, hsp, t1] | refine WP_drw ?_ | refine cnd_intro (fun hsp => ?_) fun hsp => ?_)
    refine WP_loop (fun σ => ∃ n : Nat, σ.fr 13 = .int .i64 (n : Int) ∧ σ.fr 0 = a ∧ σ.fr 1 = b ∧ σ.fr 12 = .int .i64 (l.length : Int) ∧ σ.h = h ∧ n ≤ l.length ∧ (∀ j, j < n → l.getD j 0 = m.getD j 0)) (fun σ => match σ.fr 13 with | .int _ x => (((l.length : Nat) : Int) - x).toNat | _ => 0) ?_ ?_
    · refine ⟨0, ?_, ?_, ?_, ?_, ?_, by omega, ?_⟩
      iterate 5 focus (first | rfl | (simp (disch := first | exact dschK3 | fail) only [go_sem, Int.natCast_zero]; first | done | rfl))
      intro j hj; omega
    · rintro ⟨fr, hp⟩ ⟨n, r13, r0, r1, r12, rh, hi, hP⟩
      dsimp only at r13 r0 r1 r12 rh hi hP
      subst rh
      by_cases hn : n < l.length
      · have hlt : ((n : Int) < (l.length : Int)) = True := eq_true (by omega)
        have hn2 : n < m.length := by omega
        by_cases he : l.getD n 0 = m.getD n 0
        · have t2 : (l.getD n 0 = m.getD n 0) = True := eq_true he
          have hsp := @Nat.succ_ne_zero; repeat' (first | simp (disch := first | exact dschK3 | fail) only [go_sem, hsp, r13, r0, r1, r12, hlt, t2] | refine WP_drw ?_ | refine cnd_intro (fun hsp => ?_) fun hsp => ?_)
          refine ⟨⟨n + 1, by simp, by omega, fun j hj => ?_⟩, by omega⟩
          by_cases e : j = n
          · subst e; exact he
          · exact hP j (by omega)
        · have t2 : (l.getD n 0 = m.getD n 0) = False := eq_false he
          have hsp := @Nat.succ_ne_zero; repeat' (first | simp (disch := first | exact dschK3 | fail) only [go_sem, hsp, r13, r0, r1, r12, hlt, t2] | refine WP_drw ?_ | refine cnd_intro (fun hsp => ?_) fun hsp => ?_)
          exact fB (decide_eq_false fun e => he (by rw [e])).symm
      · have hlt : ((n : Int) < (l.length : Int)) = False := eq_false (by omega)
        have hsp := @Nat.succ_ne_zero; repeat' (first | simp (disch := first | exact dschK3 | fail) only [go_sem, hsp, r13, r0, r1, r12, hlt] | refine WP_drw ?_ | refine cnd_intro (fun hsp => ?_) fun hsp => ?_)
        refine fB (decide_eq_true ?_).symm
        exact lst_ext hlm fun i hi => hP i (by omega)
  · have t1 : ((l.length : Int) = (m.length : Int)) = False := eq_false (by omega)
    have hsp := @Nat.succ_ne_zero; repeat' (first | simp (disch := first | exact dschK3 | fail) only [go_sem, hsp, t1] | refine WP_drw ?_ | refine cnd_intro (fun hsp => ?_) fun hsp => ?_)
    exact fB (decide_eq_false fun e => hlm (by rw [e])).symm
attribute [go_sem] run_equal
theorem run_eqI {base : Nat} {h : Heap} {a b : AVal} {l m : List Int} (ha : Ints h a l) (hb : Ints h b m) : callL prog raw base (.fn 25 [] []) [a, b] h = some (.bool (decide (l = m)), h) := by
  refine callL_run func25 rfl rfl ?_
  have hsp := @Nat.succ_ne_zero; repeat' (first | simp (disch := first | exact dschK3 | fail) only [go_sem, hsp] | refine WP_drw ?_ | refine cnd_intro (fun hsp => ?_) fun hsp => ?_)
  exact fB rfl
attribute [go_sem] run_eqI
end Go.AM
/-
  Contracts: lists of integers that rise.
-/
namespace Go.AM
open Go.Proofs.Tryz
theorem dschK4 {p : Prop} (h : p := by first | exact Nat.ne_of_beq_eq_false rfl | assumption | (apply asOne; (first | exact One.int | exact One.bool | assumption | exact Ints.one (by assumption) | exact Rows.one (by assumption) | exact Own.one (by assumption) | exact One.lit ⟨rfl, rfl, rfl⟩)) | (apply asInts; (repeat first | assumption | exact ints_nil | apply Ints.app); done) | (apply asRows; (repeat first | assumption | exact Rows.nil | apply Rows.app); done) | (apply asScal; (first | apply allS1 | apply allS2 | apply allS3 | apply allS4) <;> (first | exact One.int | exact One.bool | assumption | exact Ints.one (by assumption) | exact Rows.one (by assumption) | exact Own.one (by assumption) | exact One.lit ⟨rfl, rfl, rfl⟩)) | exact litT rfl | exact litF rfl | omega | (simp only [List.length_append, List.length_cons, List.length_nil, List.length_set, List.length_reverse]; first | done | omega) | fail) : p := h
def sortB (l : List Int) : Bool := decide (∀ i, i < l.length → 0 < i → l.getD (i - 1) 0 ≤ l.getD i 0)
theorem run_sorted {base : Nat} {h : Heap} {v : AVal} {l : List Int} (hI : Ints h v l) : callL prog raw base (.fn 160 [] []) [v] h = some (.bool (sortB l), h) := by
  have hl := hI.1.1
  refine callL_run func160 rfl rfl ?_
  have hsp := @Nat.succ_ne_zero; repeat' (first | simp (disch := first | exact dschK4 | fail) only [go_sem, hsp] | refine WP_drw ?_ | refine cnd_intro (fun hsp => ?_) fun hsp => ?_)
  refine WP_loop (fun σ => ∃ c : Int, σ.fr 3 = .int .i64 c ∧ σ.fr 0 = v ∧ σ.h = h ∧ -1 ≤ c ∧ c < l.length ∧ ∀ i : Nat, c < i → i < l.length → l.getD (i - 1) 0 ≤ l.getD i 0) (fun σ => match σ.fr 3 with | .int _ x => (x + 1).toNat | _ => 0) ?_ ?_
  · refine ⟨(l.length : Int) - 1, ?_, ?_, rfl, by omega, by omega, fun i h1 h2 => by omega⟩
    · simp (disch := first | exact dschK4 | fail) only [go_sem]
    · simp (disch := first | exact dschK4 | fail) only [go_sem]
  · rintro ⟨fr, hp⟩ ⟨c, r3, r0, rh, hc1, hc2, hP⟩
    dsimp only at r3 r0 rh
    subst rh
    by_cases hc : c > 0
    · have hlt : (c > 0) = True := eq_true hc
      obtain ⟨n, rfl⟩ := Int.eq_ofNat_of_zero_le (show 0 ≤ c by omega)
      have e1 : ((n : Int) - 1).toNat = n - 1 := by omega
      by_cases hs : l.getD n 0 < l.getD (n - 1) 0
      · have t2 : (l.getD n 0 < l.getD (n - 1) 0) = True := eq_true hs
        have hsp := @Nat.succ_ne_zero; repeat' (first | simp (disch := first | exact dschK4 | fail) only [go_sem, hsp, r3, r0, hlt, e1, t2] | refine WP_drw ?_ | refine cnd_intro (fun hsp => ?_) fun hsp => ?_)
        refine fB (decide_eq_false fun hh => ?_).symm
        have := hh n (by omega) (by omega)
        omega
      · have t2 : (l.getD n 0 < l.getD (n - 1) 0) = False := eq_false hs
        have hsp := @Nat.succ_ne_zero; repeat' (first | simp (disch := first | exact dschK4 | fail) only [go_sem, hsp, r3, r0, hlt, e1, t2] | refine WP_drw ?_ | refine cnd_intro (fun hsp => ?_) fun hsp => ?_)
        refine ⟨⟨(n : Int) - 1, rfl, by omega, by omega, fun i h1 h2 => ?_⟩, by omega⟩
        by_cases e : i = n
        · subst e; omega
        · exact hP i (by omega) h2
    · have hlt : (c > 0) = False := eq_false hc
      have hsp := @Nat.succ_ne_zero; repeat' (first | simp (disch := first | exact dschK4 | fail) only [go_sem, hsp, r3, r0, hlt] | refine WP_drw ?_ | refine cnd_intro (fun hsp => ?_) fun hsp => ?_)
      exact fB (decide_eq_true fun i h1 h2 => hP i (by omega) h1).symm
attribute [go_sem] run_sorted
end Go.AM
/-
  Contracts: lists of integers whose equal neighbours are put together.
-/
namespace Go.AM
open Go.Proofs.Tryz
theorem dschK5 {p : Prop} (h : p := by first | exact Nat.ne_of_beq_eq_false rfl | assumption | (apply asOne; (first | exact One.int | exact One.bool | assumption | exact Ints.one (by assumption) | exact Rows.one (by assumption) | exact Own.one (by assumption) | exact One.lit ⟨rfl, rfl, rfl⟩)) | (apply asInts; (repeat first | assumption | exact ints_nil | apply Ints.app); done) | (apply asRows; (repeat first | assumption | exact Rows.nil | apply Rows.app); done) | (apply asScal; (first | apply allS1 | apply allS2 | apply allS3 | apply allS4) <;> (first | exact One.int | exact One.bool | assumption | exact Ints.one (by assumption) | exact Rows.one (by assumption) | exact Own.one (by assumption) | exact One.lit ⟨rfl, rfl, rfl⟩)) | exact litT rfl | exact litF rfl | omega | (simp only [List.length_append, List.length_cons, List.length_nil, List.length_set, List.length_reverse]; first | done | omega) | fail) : p := h
theorem splice_ints : ∀ (z : List Int) (m : List Int) (o : Nat), ∃ m', splice (ints m) o (ints z) = ints m' ∧ m'.length = m.length
  | [], m, o => ⟨m, rfl, rfl⟩
  | x :: z, m, o => by
    obtain ⟨m', h1, h2⟩ := splice_ints z (m.set o x) (o + 1)
    refine ⟨m', ?_, by rw [h2, List.length_set]⟩
    show splice ((ints m).set o (.int .i64 x)) (o + 1) (ints z) = ints m'
    rw [ints_set]; exact h1
theorem clr_part {base id o n k : Nat} {H : Heap} {m : List Int} (hg : H[id]? = some (rowB m 0)) (hn : 0 < n) (ho : o + n ≤ m.length) : ∃ m' : List Int, m'.length = m.length ∧ clearA prog base H 36 (.slice (some ⟨id, 0, o⟩) n k) = some (.tuple [], H.set id (rowB m' 0)) := by
  have hrep : ∀ j, repCells [AVal.int .i64 0] j = ints (lst (fun _ => 0) j) := fun j => by
    induction j with
    | zero => rfl
    | succ j ih =>
      rw [repCells, ih]
      simp [ints, lst, List.range_succ_eq_map, List.map_map]
  obtain ⟨m', h1, h2⟩ := splice_ints (lst (fun _ => 0) n) m o
  refine ⟨m', h2, ?_⟩
  cases n with
  | zero => omega
  | succ n =>
    simp only [clearA, Fc.el36, hrep, store_eq, hg, rowB, stQ]
    rw [if_pos ⟨trivial, by rw [ints_length, ints_length, lst_len]; exact ho, ints_scalar _, .inr (ints_bare _)⟩, h1]
theorem sl_from {id ver o n k : Nat} {lo : Int} (h0 : 0 ≤ lo) (h1 : lo ≤ n) (h2 : n ≤ k) : sliceA prog 36 (.slice (some ⟨id, ver, o⟩) n k) (some (.int .i64 lo)) none none = some (.slice (some ⟨id, ver, o + lo.toNat⟩) (n - lo.toNat) (k - lo.toNat)) := by
  have e1 : lo ≤ (n : Int) := h1
  simp [sliceA, Fc.ar36, Fc.el36, optB, boundA, ARef.add, h0, e1]
theorem sl_to {id ver o n k : Nat} {hi : Int} (h0 : 0 ≤ hi) (h1 : hi ≤ k) : sliceA prog 36 (.slice (some ⟨id, ver, o⟩) n k) none (some (.int .i64 hi)) none = some (.slice (some ⟨id, ver, o⟩) hi.toNat k) := by
  have e1 : hi ≤ (k : Int) := h1
  simp [sliceA, Fc.ar36, Fc.el36, optB, boundA, ARef.add, h0, e1]
def nodup (l : List Int) : Prop := ∀ i, i < l.length → 0 < i → l.getD i 0 ≠ l.getD (i - 1) 0
theorem run_compact {base id : Nat} {h : Heap} {l : List Int} (hg : h[id]? = some (rowB l 0)) (hs : Small l) :
    Ret prog raw base (.fn 161 [] []) [.slice (some ⟨id, 0, 0⟩) l.length l.length] h (fun v H => ∃ (k : Nat) (m : List Int), v = .slice (some ⟨id, 0, 0⟩) k l.length ∧ H = h.set id (rowB m 0) ∧ m.length = l.length ∧ k ≤ l.length ∧ (k = l.length ↔ nodup l)) := by
  have hid := lt_of_get hg
  have hl : l.length < 1073741824 := hs.1
  have hself : h = h.set id (rowB l 0) := (set_id hg).symm
  refine ret_raw func161 rfl (by kernel_rfl) ?_
  by_cases h2 : l.length < 2
  · have t1 : ((l.length : Int) < 2) = True := eq_true (by omega)
    have hsp := @Nat.succ_ne_zero; repeat' (first | simp (disch := first | exact dschK5 | fail) only [go_sem, hsp, t1, Fc.ln36] | refine WP_drw ?_ | refine cnd_intro (fun hsp => ?_) fun hsp => ?_)
    exact ⟨l.length, l, rfl, hself, rfl, Nat.le_refl _, ⟨fun _ i h1 h2 => by omega, fun _ => rfl⟩⟩
  · have t1 : ((l.length : Int) < 2) = False := eq_false (by omega)
    have hsp := @Nat.succ_ne_zero; repeat' (first | simp (disch := first | exact dschK5 | fail) only [go_sem, hsp, t1, Fc.ln36] | refine WP_drw ?_ | refine cnd_intro (fun hsp => ?_) fun hsp => ?_)
    refine WP_loop (fun σ => ∃ i : Nat, σ.fr 3 = .int .i64 (i : Int) ∧ σ.fr 0 = .slice (some ⟨id, 0, 0⟩) l.length l.length ∧ σ.h = h ∧ i ≤ l.length ∧ (1 ≤ i ∧ ∀ j, j < i → 0 < j → l.getD j 0 ≠ l.getD (j - 1) 0)) (fun σ => match σ.fr 3 with | .int _ x => (((l.length : Nat) : Int) - x).toNat | _ => 0) ?_ ?_
    · refine ⟨1, ?_, ?_, ?_, by omega, ?_⟩
      iterate 3 focus (first | rfl | (simp (disch := first | exact dschK5 | fail) only [go_sem, Int.natCast_zero]; first | done | rfl))
      exact ⟨Nat.le_refl _, fun j h1 h2 => by omega⟩
    · rintro ⟨fr, hp⟩ ⟨i, r3, r0, rh, hi, hP⟩
      dsimp only at r3 r0 rh hi hP
      subst rh
      obtain ⟨hi1, hP⟩ := hP
      by_cases hn : i < l.length
      · have hlt : ((i : Int) < (l.length : Int)) = True := eq_true (by omega)
        have e1 : ((i : Int) - 1).toNat = i - 1 := by omega
        by_cases he : l.getD i 0 = l.getD (i - 1) 0
        · have t2 : (l.getD i 0 = l.getD (i - 1) 0) = True := eq_true he
          have hsp := @Nat.succ_ne_zero; repeat' (first | simp (disch := first | exact dschK5 | fail) only [go_sem, hsp, r3, r0, hlt, t2, e1, hg, sl_from, Fc.ln36, Fc.as36] | refine WP_drw ?_ | refine cnd_intro (fun hsp => ?_) fun hsp => ?_)
          refine WP_loop (fun σ => ∃ (k2 k : Nat) (m : List Int), σ.fr 5 = .int .i64 (k2 : Int) ∧ σ.fr 3 = .int .i64 (k : Int) ∧ σ.fr 0 = .slice (some ⟨id, 0, 0⟩) l.length l.length ∧ σ.fr 4 = .slice (some ⟨id, 0, i⟩) (l.length - i) (l.length - i) ∧ σ.h = hp.set id (rowB m 0) ∧ m.length = l.length ∧ (1 ≤ k2 ∧ k2 ≤ l.length - i) ∧ (i ≤ k ∧ k + 1 ≤ i + k2)) (fun σ => match σ.fr 5 with | .int _ x => (((l.length - i : Nat) : Int) - x).toNat | _ => 0) ?_ ?_
          · refine ⟨1, i, l, ?_, ?_, ?_, ?_, hself, rfl, by omega, by omega⟩
            · simp (disch := first | exact dschK5 | fail) only [go_sem]
            · simp (disch := first | exact dschK5 | fail) only [go_sem, r3, r0]
            · simp (disch := first | exact dschK5 | fail) only [go_sem, r3, r0]
            · simp (disch := first | exact dschK5 | fail) only [go_sem, r3, r0]
          · rintro ⟨fr2, hp2⟩ ⟨k2, k, m, q5, q3, q0, q4, rh2, hm, hk2, hk⟩
            dsimp only at q5 q3 q0 q4 rh2
            subst rh2
            have hgm : (hp.set id (rowB m 0))[id]? = some (rowB m 0) := by rw [List.getElem?_set_self hid]
            by_cases hn2 : k2 < l.length - i
            · have hlt2 : ((k2 : Int) < ((l.length - i : Nat) : Int)) = True := eq_true (by omega)
              have e2 : ((k2 : Int) - 1).toNat = k2 - 1 := by omega
              by_cases he2 : m.getD (i + k2) 0 = m.getD (i + (k2 - 1)) 0
              · have t3 : (m.getD (i + k2) 0 = m.getD (i + (k2 - 1)) 0) = True := eq_true he2
                have hsp := @Nat.succ_ne_zero; repeat' (first | simp (disch := first | exact dschK5 | fail) only [go_sem, hsp, q5, q3, q0, q4, hlt2, t3, e2, hgm, hid, Fc.ln36, Fc.as36] | refine WP_drw ?_ | refine cnd_intro (fun hsp => ?_) fun hsp => ?_)
                exact ⟨⟨k2 + 1, k, m, by simp, rfl, rfl, hm, by omega, by omega⟩, by omega⟩
              · have t3 : (m.getD (i + k2) 0 = m.getD (i + (k2 - 1)) 0) = False := eq_false he2
                have hsp := @Nat.succ_ne_zero; repeat' (first | simp (disch := first | exact dschK5 | fail) only [go_sem, hsp, q5, q3, q0, q4, hlt2, t3, e2, hgm, hid, Fc.ln36, Fc.as36] | refine WP_drw ?_ | refine cnd_intro (fun hsp => ?_) fun hsp => ?_)
                exact ⟨⟨k2 + 1, k + 1, m.set k (m.getD (i + k2) 0), by simp, by simp, List.set_set .., by rw [List.length_set]; exact hm, by omega, by omega⟩, by omega⟩
            · have hlt2 : ((k2 : Int) < ((l.length - i : Nat) : Int)) = False := eq_false (by omega)
              obtain ⟨m', hm', hcl⟩ := clr_part (base := base) (o := k) (n := l.length - k) (k := l.length - k) hgm (by omega) (by omega)
              have hsp := @Nat.succ_ne_zero; repeat' (first | simp (disch := first | exact dschK5 | fail) only [go_sem, hsp, q5, q3, q0, q4, hlt2, sl_from, sl_to, hcl, Fc.ln36] | refine WP_drw ?_ | refine cnd_intro (fun hsp => ?_) fun hsp => ?_)
              exact ⟨k, m', rfl, List.set_set .., by rw [hm', hm], by omega, ⟨fun e => by omega, fun hd => absurd he (hd i hn (by omega))⟩⟩
        · have t2 : (l.getD i 0 = l.getD (i - 1) 0) = False := eq_false he
          have hsp := @Nat.succ_ne_zero; repeat' (first | simp (disch := first | exact dschK5 | fail) only [go_sem, hsp, r3, r0, hlt, t2, e1, hg, Fc.ln36, Fc.as36] | refine WP_drw ?_ | refine cnd_intro (fun hsp => ?_) fun hsp => ?_)
          refine ⟨⟨i + 1, by simp, by omega, by omega, fun j h1 h2 => ?_⟩, by omega⟩
          by_cases e : j = i
          · subst e; exact he
          · exact hP j (by omega) h2
      · have hlt : ((i : Int) < (l.length : Int)) = False := eq_false (by omega)
        have hsp := @Nat.succ_ne_zero; repeat' (first | simp (disch := first | exact dschK5 | fail) only [go_sem, hsp, r3, r0, hlt, Fc.ln36] | refine WP_drw ?_ | refine cnd_intro (fun hsp => ?_) fun hsp => ?_)
        exact ⟨l.length, l, rfl, hself, rfl, Nat.le_refl _, ⟨fun _ j h1 h2 => hP j (by omega) h2, fun _ => rfl⟩⟩
theorem run_compact0 {base : Nat} {h : Heap} {v : AVal} {l : List Int} (hI : Ints h v l) (h2 : l.length < 2) : Ret prog raw base (.fn 161 [] []) [v] h (fun w H => w = v ∧ H = h) := by
  have t1 : ((l.length : Int) < 2) = True := eq_true (by omega)
  refine ret_raw func161 rfl (by kernel_rfl) ?_
  have hsp := @Nat.succ_ne_zero; repeat' (first | simp (disch := first | exact dschK5 | fail) only [go_sem, hsp, t1, lenI hI] | refine WP_drw ?_ | refine cnd_intro (fun hsp => ?_) fun hsp => ?_)
/-- Strictly increasing. -/
def riseB (l : List Int) : Bool := decide (∀ i, i < l.length → 0 < i → l.getD (i - 1) 0 < l.getD i 0)
end Go.AM
/-
  Contracts: the place of a number in a list, and whether it is there.
-/
namespace Go.AM
open Go.Proofs.Tryz
theorem dschK6 {p : Prop} (h : p := by first | exact Nat.ne_of_beq_eq_false rfl | assumption | (apply asOne; (first | exact One.int | exact One.bool | assumption | exact Ints.one (by assumption) | exact Rows.one (by assumption) | exact Own.one (by assumption) | exact One.lit ⟨rfl, rfl, rfl⟩)) | (apply asInts; (repeat first | assumption | exact ints_nil | apply Ints.app); done) | (apply asRows; (repeat first | assumption | exact Rows.nil | apply Rows.app); done) | (apply asScal; (first | apply allS1 | apply allS2 | apply allS3 | apply allS4) <;> (first | exact One.int | exact One.bool | assumption | exact Ints.one (by assumption) | exact Rows.one (by assumption) | exact Own.one (by assumption) | exact One.lit ⟨rfl, rfl, rfl⟩)) | exact litT rfl | exact litF rfl | omega | (simp only [List.length_append, List.length_cons, List.length_nil, List.length_set, List.length_reverse]; first | done | omega) | fail) : p := h
def ixI (l : List Int) (x : Int) : Int := if x ∈ l then (l.idxOf x : Nat) else -1
theorem ixI_ge {l : List Int} {x : Int} : (ixI l x ≥ 0) = (x ∈ l) := by
  unfold ixI
  by_cases h : x ∈ l
  · rw [if_pos h]; exact propext ⟨fun _ => h, fun _ => by omega⟩
  · rw [if_neg h]; exact propext ⟨fun q => by omega, fun q => absurd q h⟩
theorem ixI_at : ∀ {l : List Int} {x : Int} {n : Nat}, n < l.length → l.getD n 0 = x → (∀ j, j < n → l.getD j 0 ≠ x) → ixI l x = (n : Int) := by
  intro l x n hn he hj
  have hm : x ∈ l := by
    rw [← he, List.getD_eq_getElem?_getD, List.getElem?_eq_getElem hn]
    exact List.getElem_mem hn
  rw [ixI, if_pos hm]
  have h2 := List.getElem_idxOf (List.idxOf_lt_length_of_mem hm)
  have h3 := List.idxOf_lt_length_of_mem hm
  have g : ∀ k, (hk : k < l.length) → l.getD k 0 = l[k] := fun k hk => by rw [List.getD_eq_getElem?_getD, List.getElem?_eq_getElem hk]; rfl
  have a1 : ¬ l.idxOf x < n := fun q => hj _ q (by rw [g _ h3]; exact h2)
  have a2 : ¬ n < l.idxOf x := fun q => by
    have := List.not_of_lt_findIdx (p := (· == x)) (xs := l) (i := n) q
    rw [g _ hn] at he
    simp [he] at this
  omega
theorem ixI_no {l : List Int} {x : Int} (hj : ∀ j, j < l.length → l.getD j 0 ≠ x) : ixI l x = -1 := by
  refine if_neg fun q => ?_
  obtain ⟨i, hi, e⟩ := List.getElem_of_mem q
  exact hj i hi (by rw [List.getD_eq_getElem?_getD, List.getElem?_eq_getElem hi]; exact e)
theorem run_index {base : Nat} {h : Heap} {a : AVal} {l : List Int} {x : Int} (ha : Ints h a l) : callL prog raw base (.fn 100 [] []) [a, .int .i64 x] h = some (.int .i64 (ixI l x), h) := by
  have hl := ha.1.1
  refine callL_run func100 rfl rfl ?_
  have hsp := @Nat.succ_ne_zero; repeat' (first | simp (disch := first | exact dschK6 | fail) only [go_sem, hsp] | refine WP_drw ?_ | refine cnd_intro (fun hsp => ?_) fun hsp => ?_)
  refine WP_loop (fun σ => ∃ n : Nat, σ.fr 8 = .int .i64 (n : Int) ∧ σ.fr 0 = a ∧ σ.fr 1 = .int .i64 x ∧ σ.fr 7 = .int .i64 (l.length : Int) ∧ σ.h = h ∧ n ≤ l.length ∧ (∀ j, j < n → l.getD j 0 ≠ x)) (fun σ => match σ.fr 8 with | .int _ x => (((l.length : Nat) : Int) - x).toNat | _ => 0) ?_ ?_
  · refine ⟨0, ?_, ?_, ?_, ?_, ?_, by omega, ?_⟩
    iterate 5 focus (first | rfl | (simp (disch := first | exact dschK6 | fail) only [go_sem, Int.natCast_zero]; first | done | rfl))
    intro j hj; omega
  · rintro ⟨fr, hp⟩ ⟨n, r8, r0, r1, r7, rh, hi, hP⟩
    dsimp only at r8 r0 r1 r7 rh hi hP
    subst rh
    by_cases hn : n < l.length
    · have hlt : ((n : Int) < (l.length : Int)) = True := eq_true (by omega)
      by_cases he : x = l.getD n 0
      · have t2 : (x = l.getD n 0) = True := eq_true he
        have hsp := @Nat.succ_ne_zero; repeat' (first | simp (disch := first | exact dschK6 | fail) only [go_sem, hsp, r8, r0, r1, r7, hlt, t2] | refine WP_drw ?_ | refine cnd_intro (fun hsp => ?_) fun hsp => ?_)
        exact fI (ixI_at hn he.symm hP).symm
      · have t2 : (x = l.getD n 0) = False := eq_false he
        have hsp := @Nat.succ_ne_zero; repeat' (first | simp (disch := first | exact dschK6 | fail) only [go_sem, hsp, r8, r0, r1, r7, hlt, t2] | refine WP_drw ?_ | refine cnd_intro (fun hsp => ?_) fun hsp => ?_)
        refine ⟨⟨n + 1, by simp, by omega, fun j hj => ?_⟩, by omega⟩
        by_cases e : j = n
        · subst e; exact fun q => he q.symm
        · exact hP j (by omega)
    · have hlt : ((n : Int) < (l.length : Int)) = False := eq_false (by omega)
      have hsp := @Nat.succ_ne_zero; repeat' (first | simp (disch := first | exact dschK6 | fail) only [go_sem, hsp, r8, r0, r1, r7, hlt] | refine WP_drw ?_ | refine cnd_intro (fun hsp => ?_) fun hsp => ?_)
      exact fI (ixI_no fun j hj => hP j (by omega)).symm
theorem run_contains {base : Nat} {h : Heap} {a : AVal} {l : List Int} {x : Int} (ha : Ints h a l) : callL prog raw base (.fn 64 [] []) [a, .int .i64 x] h = some (.bool (decide (x ∈ l)), h) := by
  have e := fun base => @run_index base h a l x ha
  have e2 := @ixI_ge l x
  refine callL_run func64 rfl rfl ?_
  have hsp := @Nat.succ_ne_zero; repeat' (first | simp (disch := first | exact dschK6 | fail) only [go_sem, hsp, e, e2] | refine WP_drw ?_ | refine cnd_intro (fun hsp => ?_) fun hsp => ?_)
  exact fB rfl
end Go.AM
