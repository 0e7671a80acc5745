/-
  Contracts: the reference's parts at work; what a break spoils.
-/
import Derived.Test.YtlhmeoeamcgcmaaE53
import Derived.Test.YtlhmeoeamcgcmaaW9
set_option linter.unusedSimpArgs false
set_option linter.unusedVariables false
namespace Go.AM
open Go.Proofs.Try
theorem dschE54 {p : Prop} (h : p := by first | exact Nat.ne_of_beq_eq_false rfl | assumption | (apply asOne; (first | exact One.int | exact One.bool | assumption | exact Ints.one (by assumption) | exact Rows.one (by assumption) | exact Own.one (by assumption) | exact One.lit ⟨rfl, rfl, rfl⟩)) | (apply asInts; (repeat first | assumption | exact ints_nil | apply Ints.app); done) | (apply asRows; (repeat first | assumption | exact Rows.nil | apply Rows.app); done) | (apply asScal; (first | apply allS1 | apply allS2 | apply allS3 | apply allS4) <;> (first | exact One.int | exact One.bool | assumption | exact Ints.one (by assumption) | exact Rows.one (by assumption) | exact Own.one (by assumption) | exact One.lit ⟨rfl, rfl, rfl⟩)) | exact litT rfl | exact litF rfl | omega | (simp only [List.length_append, List.length_cons, List.length_nil, List.length_set, List.length_reverse]; first | done | omega) | fail) : p := h
attribute [-go_sem] put_ne put_same
attribute [local go_sem ↓] put_if

theorem getD_in {α : Type} {l : List α} {d : α} {i : Nat} (h : i < l.length) : l.getD i d ∈ l := List.mem_of_getElem? (getD_some h)
theorem run_hasR {base : Nat} {h : Heap} {v : AVal} {l : List Int} {n : Int} (hI : Ints h v l) (hl : l.length ≤ 1000) : callL prog raw base (.fn 132 [] []) [v, .int .i64 n] h = some (.bool (decide (n ∈ l)), h) := by
  have ho := hI.one
  refine callL_run func132 rfl rfl ?_
  have hsp := @Nat.succ_ne_zero; repeat' (first | simp (disch := first | exact dschE54 | fail) only [go_sem, ↓reduceIte, hsp] | refine WP_drw ?_ | refine cnd_intro (fun hsp => ?_) fun hsp => ?_)
  refine WP_count [(4, 17)] 0 l.length (Nat.zero_le _) (fun H0 i fr h' => fr 5 = .int .i64 (i : Int) ∧ h' = H0 ∧ ∀ j, j < i → l.getD j 0 ≠ n) ?_ ?_ ?_
  · exact ⟨by (simp (disch := first | exact dschE54 | fail) only [go_sem, ↓reduceIte, Int.natCast_zero]; first | done | rfl), rfl, fun j hj => by omega⟩
  · rintro i fr H hi0 hi hA ⟨r5, eH, hno⟩
    subst eH
    have p0 := hA 0 rfl
    have p1 := hA 1 rfl
    try simp (disch := first | exact dschE54 | fail) only [go_sem, ↓reduceIte] at p0 p1
    have hlt : ((i : Int) < (l.length : Int)) = True := eq_true (by omega)
    by_cases c1 : l.getD i 0 = n
    · have t1 : (l.getD i 0 = n) = True := eq_true c1
      have r : decide (n ∈ l) = true := decide_eq_true (by rw [← c1]; exact getD_in hi)
      rw [r]
      have hsp := @Nat.succ_ne_zero; repeat' (first | simp (disch := first | exact dschE54 | fail) only [go_sem, ↓reduceIte, hsp, r5, p0, p1, hlt, t1] | refine WP_drw ?_ | refine cnd_intro (fun hsp => ?_) fun hsp => ?_)
      exact fB rfl
    · have t1 : (l.getD i 0 = n) = False := eq_false c1
      have hsp := @Nat.succ_ne_zero; repeat' (first | simp (disch := first | exact dschE54 | fail) only [go_sem, ↓reduceIte, hsp, r5, p0, p1, hlt, t1] | refine WP_drw ?_ | refine cnd_intro (fun hsp => ?_) fun hsp => ?_)
      refine ⟨by (repeat first | exact Agree.refl | assumption | refine Agree.put rfl ?_ | refine Agree.put0 ?_ | refine Agree.sub rfl (by assumption) ?_), by omega, fun j hj => ?_⟩
      by_cases e : j = i
      · subst e; exact c1
      · exact hno j (by omega)
  · rintro fr H hA ⟨r5, eH, hno⟩
    subst eH
    have p0 := hA 0 rfl
    have p1 := hA 1 rfl
    try simp (disch := first | exact dschE54 | fail) only [go_sem, ↓reduceIte] at p0 p1
    have hlt : ((l.length : Int) < (l.length : Int)) = False := eq_false (by omega)
    have r : decide (n ∈ l) = false := decide_eq_false fun hm => by
      obtain ⟨j, hj, e⟩ := List.getElem_of_mem hm
      exact hno j hj (by rw [getD_at hj]; exact e)
    rw [r]
    have hsp := @Nat.succ_ne_zero; repeat' (first | simp (disch := first | exact dschE54 | fail) only [go_sem, ↓reduceIte, hsp, r5, p0, p1, hlt] | refine WP_drw ?_ | refine cnd_intro (fun hsp => ?_) fun hsp => ?_)
    exact fB rfl
/-- Does a part work at a spot? -/
def wks (p : Prt) (x : Int × Int) : Bool := decide (x.2.tmod p.each = p.ph ∧ x.1 ∈ p.rib)
theorem run_works {base : Nat} {h : Heap} {w : AVal} {p : Prt} {r t : Int} (hI : Ints h w p.rib) (hl : p.rib.length ≤ 1000) (he : 1 ≤ p.each ∧ p.each ≤ 4) (ht : 0 ≤ t ∧ t ≤ 1000) :
    callL prog raw base (.fn 109 [] []) [.agg [w, .int .i64 p.each, .int .i64 p.ph, .bool p.wv], .agg [.int .i64 r, .int .i64 t]] h = some (.bool (wks p (r, t)), h) := by
  have ho := hI.one
  have e : ∀ {base : Nat} {T : Heap} {n : Int}, callL prog raw base (.fn 132 [] []) [w, .int .i64 n] (h ++ T) = some (.bool (decide (n ∈ p.rib)), h ++ T) := fun {base T n} => run_hasR hI.app hl
  have e2 : ∀ {base : Nat} {a b : ABlk} {n : Int}, callL prog raw base (.fn 132 [] []) [w, .int .i64 n] (h ++ [a] ++ [b]) = some (.bool (decide (n ∈ p.rib)), h ++ [a] ++ [b]) := fun {base a b n} => by rw [List.append_assoc]; exact e
  have hrem : binA prog .rem 3 (.int .i64 t) (.int .i64 p.each) = some (.int .i64 (t.tmod p.each)) := bin_rem (by omega)
  refine callL_run func109 rfl rfl ?_
  by_cases c1 : t.tmod p.each = p.ph
  · have t1 : (t.tmod p.each = p.ph) = True := eq_true c1
    have hsp := @Nat.succ_ne_zero; repeat' (first | simp (disch := first | exact dschE54 | fail) only [go_sem, ↓reduceIte, hsp, hrem, t1, e2] | refine WP_drw ?_ | refine cnd_intro (fun hsp => ?_) fun hsp => ?_)
    refine fB ?_
    simp [wks, c1]
  · have t1 : (t.tmod p.each = p.ph) = False := eq_false c1
    have hsp := @Nat.succ_ne_zero; repeat' (first | simp (disch := first | exact dschE54 | fail) only [go_sem, ↓reduceIte, hsp, hrem, t1] | refine WP_drw ?_ | refine cnd_intro (fun hsp => ?_) fun hsp => ?_)
    refine fB ?_
    simp [wks, c1]
theorem run_brokenR {base : Nat} {h : Heap} {L : Lom} {pv sv : AVal} {b : Int × Int × Int} (hP : Parts h pv L.ps) (hS : One sv) (hl : L.ps.length ≤ 1000) (hT : -1000 ≤ L.T ∧ L.T ≤ 1000) : callL prog raw base (.fn 47 [] []) [lomV L.R L.T pv sv, .agg (encB.cells b)] h = some (.int .i64 (brkM L b), h) := by
  have ho := hP.one
  have hn : ∀ {a c : ABlk}, lenOpA prog (h ++ [a] ++ [c]) 77 pv = some (.int .i64 (L.ps.length : Int)) := fun {a c} => (hP.ext (.app (.app .refl))).lenR
  simp only [encB]
  refine callL_run func47 rfl rfl ?_
  by_cases c1 : 0 ≤ b.1 ∧ b.1 ≤ (L.ps.length : Int) - 1
  · have t1 : (b.1 < 0 ∨ b.1 > (L.ps.length : Int) - 1) = False := eq_false (by omega)
    by_cases c2 : 0 ≤ b.2.1 ∧ b.2.1 ≤ L.T - 1
    · have t2 : (b.2.1 < 0 ∨ b.2.1 > L.T - 1) = False := eq_false (by omega)
      by_cases c3 : 0 ≤ b.2.2 ∧ b.2.2 ≤ L.T - 1
      · have t3 : (b.2.2 < 0 ∨ b.2.2 > L.T - 1) = False := eq_false (by omega)
        by_cases c4 : b.2.1 > b.2.2
        · have t4 : (b.2.1 > b.2.2) = True := eq_true c4
          have r : brkM L b = 3 := by unfold brkM; rw [if_neg (fun q => q c1), if_pos (.inr (.inr c4))]
          rw [r]
          have hsp := @Nat.succ_ne_zero; repeat' (first | simp (disch := first | exact dschE54 | fail) only [go_sem, ↓reduceIte, hsp, run_off, hn, t1, t2, t3, t4] | refine WP_drw ?_ | refine cnd_intro (fun hsp => ?_) fun hsp => ?_)
          exact fI rfl
        · have t4 : (b.2.1 > b.2.2) = False := eq_false c4
          have r : brkM L b = 0 := by unfold brkM; rw [if_neg (fun q => q c1), if_neg (by rintro (q | q | q); exact q c2; exact q c3; exact c4 q)]
          rw [r]
          have hsp := @Nat.succ_ne_zero; repeat' (first | simp (disch := first | exact dschE54 | fail) only [go_sem, ↓reduceIte, hsp, run_off, hn, t1, t2, t3, t4] | refine WP_drw ?_ | refine cnd_intro (fun hsp => ?_) fun hsp => ?_)
          exact fI rfl
      · have t3 : (b.2.2 < 0 ∨ b.2.2 > L.T - 1) = True := eq_true (by omega)
        have r : brkM L b = 3 := by unfold brkM; rw [if_neg (fun q => q c1), if_pos (.inr (.inl c3))]
        rw [r]
        have hsp := @Nat.succ_ne_zero; repeat' (first | simp (disch := first | exact dschE54 | fail) only [go_sem, ↓reduceIte, hsp, run_off, hn, t1, t2, t3] | refine WP_drw ?_ | refine cnd_intro (fun hsp => ?_) fun hsp => ?_)
        exact fI rfl
    · have t2 : (b.2.1 < 0 ∨ b.2.1 > L.T - 1) = True := eq_true (by omega)
      have r : brkM L b = 3 := by unfold brkM; rw [if_neg (fun q => q c1), if_pos (.inl c2)]
      rw [r]
      have hsp := @Nat.succ_ne_zero; repeat' (first | simp (disch := first | exact dschE54 | fail) only [go_sem, ↓reduceIte, hsp, run_off, hn, t1, t2] | refine WP_drw ?_ | refine cnd_intro (fun hsp => ?_) fun hsp => ?_)
      exact fI rfl
  · have t1 : (b.1 < 0 ∨ b.1 > (L.ps.length : Int) - 1) = True := eq_true (by omega)
    have r : brkM L b = 1 := by unfold brkM; rw [if_pos c1]
    rw [r]
    have hsp := @Nat.succ_ne_zero; repeat' (first | simp (disch := first | exact dschE54 | fail) only [go_sem, ↓reduceIte, hsp, run_off, hn, t1] | refine WP_drw ?_ | refine cnd_intro (fun hsp => ?_) fun hsp => ?_)
    exact fI rfl
/-- Does a break spoil a spot? -/
def splR (L : Lom) (b : Int × Int × Int) (x : Int × Int) : Bool := decide (b.2.1 ≤ x.2 ∧ x.2 ≤ b.2.2) && wks (L.ps.getD b.1.toNat prt0) x
theorem run_spoilsR {base : Nat} {h : Heap} {L : Lom} {pv sv : AVal} {b : Int × Int × Int} {r t : Int} (hP : Parts h pv L.ps) (hS : One sv) (hc : chkM L = 0) (hr : ∀ p ∈ L.ps, p.rib.length ≤ 1000) (hb : 0 ≤ b.1 ∧ b.1 < (L.ps.length : Int)) (ht : 0 ≤ t ∧ t ≤ 1000) :
    callL prog raw base (.fn 108 [] []) [lomV L.R L.T pv sv, .agg (encB.cells b), .agg [.int .i64 r, .int .i64 t]] h = some (.bool (splR L b (r, t)), h) := by
  have ho := hP.one
  obtain ⟨k1, k2, k3, k4, k5, k6⟩ := chkM_ok hc
  obtain ⟨k, ek⟩ := Int.eq_ofNat_of_zero_le hb.1
  obtain ⟨q, eq⟩ : ∃ q, q = L.ps.getD b.1.toNat prt0 := ⟨_, rfl⟩
  have hq : L.ps[k]? = some q := by rw [eq, show b.1.toNat = k by omega]; exact getD_some (by omega)
  have hqm := List.mem_of_getElem? hq
  have k5q := k5 q hqm
  have hql := hr q hqm
  obtain ⟨a, w, ad, ld, hI⟩ := hP.atR hq
  have hw := hI.one
  have d3 : ∀ {a1 a2 a3 : ABlk}, loadP prog (h ++ [a1] ++ [a2] ++ [a3]) 146 a = some (.agg [w, .int .i64 q.each, .int .i64 q.ph, .bool q.wv]) := fun {a1 a2 a3} => ld _ (.app (.app (.app .refl)))
  have e3 : ∀ {base : Nat} {a1 a2 a3 : ABlk} {r : Int}, callL prog raw base (.fn 109 [] []) [.agg [w, .int .i64 q.each, .int .i64 q.ph, .bool q.wv], .agg [.int .i64 r, .int .i64 t]] (h ++ [a1] ++ [a2] ++ [a3]) = some (.bool (wks q (r, t)), h ++ [a1] ++ [a2] ++ [a3]) := fun {base a1 a2 a3 r} => run_works (hI.ext (.app (.app (.app .refl)))) hql k5q.2.1 ht
  unfold splR
  rw [← eq]
  simp only [encB]
  refine callL_run func108 rfl rfl ?_
  by_cases c1 : b.2.1 ≤ t ∧ t ≤ b.2.2
  · have t1 : (t < b.2.1 ∨ t > b.2.2) = False := eq_false (by omega)
    have hsp := @Nat.succ_ne_zero; repeat' (first | simp (disch := first | exact dschE54 | fail) only [go_sem, ↓reduceIte, hsp, run_off, t1, ek, ad, d3, e3] | refine WP_drw ?_ | refine cnd_intro (fun hsp => ?_) fun hsp => ?_)
    refine fB ?_
    simp [c1]
  · have t1 : (t < b.2.1 ∨ t > b.2.2) = True := eq_true (by omega)
    have hsp := @Nat.succ_ne_zero; repeat' (first | simp (disch := first | exact dschE54 | fail) only [go_sem, ↓reduceIte, hsp, run_off, t1] | refine WP_drw ?_ | refine cnd_intro (fun hsp => ?_) fun hsp => ?_)
    refine fB ?_
    simp [c1]
end Go.AM
/-
  Contracts: the reference's spots of a break, and where a part is excluded.
-/
namespace Go.AM
open Go.Proofs.Try
theorem dschE55 {p : Prop} (h : p := by first | exact Nat.ne_of_beq_eq_false rfl | assumption | (apply asOne; (first | exact One.int | exact One.bool | assumption | exact Ints.one (by assumption) | exact Rows.one (by assumption) | exact Own.one (by assumption) | exact One.lit ⟨rfl, rfl, rfl⟩)) | (apply asInts; (repeat first | assumption | exact ints_nil | apply Ints.app); done) | (apply asRows; (repeat first | assumption | exact Rows.nil | apply Rows.app); done) | (apply asScal; (first | apply allS1 | apply allS2 | apply allS3 | apply allS4) <;> (first | exact One.int | exact One.bool | assumption | exact Ints.one (by assumption) | exact Rows.one (by assumption) | exact Own.one (by assumption) | exact One.lit ⟨rfl, rfl, rfl⟩)) | exact litT rfl | exact litF rfl | omega | (simp only [List.length_append, List.length_cons, List.length_nil, List.length_set, List.length_reverse]; first | done | omega) | fail) : p := h
attribute [-go_sem] put_ne put_same
attribute [local go_sem ↓] put_if

def rowSp (L : Lom) (b : Int × Int × Int) (r : Int) (n : Nat) : List (Int × Int) := ((upto n).filter fun t => splR L b (r, t)).map fun t => (r, t)
def sptR (L : Lom) (b : Int × Int × Int) (n : Nat) : List (Int × Int) := (upto n).flatMap fun r => rowSp L b r L.T.toNat
theorem rowSp_succ {L : Lom} {b : Int × Int × Int} {r : Int} {n : Nat} : rowSp L b r (n + 1) = rowSp L b r n ++ (if splR L b (r, (n : Int)) = true then [(r, (n : Int))] else []) := by
  unfold rowSp
  rw [upto_succ, List.filter_append, List.map_append]
  congr 1
  simp only [List.filter_cons, List.filter_nil]
  split <;> rfl
theorem rowSp_len {L : Lom} {b : Int × Int × Int} {r : Int} {n : Nat} : (rowSp L b r n).length ≤ n := by
  have := List.length_filter_le (fun t : Int => splR L b (r, t)) (upto n)
  rw [upto_len] at this
  unfold rowSp
  rw [List.length_map]; exact this
theorem sptR_succ {L : Lom} {b : Int × Int × Int} {n : Nat} : sptR L b (n + 1) = sptR L b n ++ rowSp L b (n : Int) L.T.toNat := by
  unfold sptR
  rw [upto_succ, List.flatMap_append]
  simp
theorem sptR_len {L : Lom} {b : Int × Int × Int} : ∀ n, (sptR L b n).length ≤ n * L.T.toNat
  | 0 => by simp [sptR, upto, lst]
  | n + 1 => by
    have := sptR_len (L := L) (b := b) n
    have := rowSp_len (L := L) (b := b) (r := (n : Int)) (n := L.T.toNat)
    rw [sptR_succ, List.length_append, Nat.succ_mul]; omega
theorem bsTR {lit : Bool} {h : Heap} {a b : Int} : bsA prog lit h 84 1 [(0, .agg [.int .i64 a, .int .i64 b])] = some (.slice (some ⟨h.length, 0, 0⟩) 1 1, h ++ [rowE encT 95 [(a, b)] 0]) := by
  simp [bsA, rowOf, Fc.el84, fillA, repCells, AVal.isN, AVal.cells, splice, rowE, flat, encT]

set_option maxHeartbeats 2000000 in
theorem run_spotsR {base : Nat} {h : Heap} {L : Lom} {pv sv : AVal} {b : Int × Int × Int} (hb : base ≤ h.length) (hP : Parts h pv L.ps) (hS : One sv) (hc : chkM L = 0) (hr : ∀ p ∈ L.ps, p.rib.length ≤ 1000) (hk : brkM L b = 0) :
    Ret prog raw base (.fn 48 [] []) [lomV L.R L.T pv sv, .agg (encB.cells b)] h (fun v H => Ext h H ∧ Own encT 95 h.length H v (sptR L b L.R.toNat)) := by
  have ho := hP.one
  obtain ⟨k1, k2, k3, k4, k5, k6⟩ := chkM_ok hc
  obtain ⟨j1, j2, j3, j4⟩ := brkM_ok hk
  obtain ⟨R, eR⟩ := Int.eq_ofNat_of_zero_le (show 0 ≤ L.R by omega)
  obtain ⟨T, eT⟩ := Int.eq_ofNat_of_zero_le (show 0 ≤ L.T by omega)
  have eT2 : L.T.toNat = T := by omega
  have eR2 : L.R.toNat = R := by omega
  rw [eR2]
  have sp : ∀ {base : Nat} {H : Heap} {r t : Int}, Ext h H → 0 ≤ t ∧ t ≤ 1000 → callL prog raw base (.fn 108 [] []) [lomV L.R L.T pv sv, .agg (encB.cells b), .agg [.int .i64 r, .int .i64 t]] H = some (.bool (splR L b (r, t)), H) := fun e ht => run_spoilsR (hP.ext e) hS hc hr j1 ht
  simp only [encB] at sp ⊢
  refine ret_raw func48 rfl (by kernel_rfl) ?_
  have hsp := @Nat.succ_ne_zero; repeat' (first | simp (disch := first | exact dschE55 | fail) only [go_sem, ↓reduceIte, hsp] | refine WP_drw ?_ | refine cnd_intro (fun hsp => ?_) fun hsp => ?_)
  obtain ⟨G, eG⟩ : ∃ G, G = h ++ [(⟨.cells [.int .i64 L.R, .int .i64 L.T, pv, sv] 80 false false, 0⟩ : ABlk)] ++ [(⟨.cells [.int .i64 b.1, .int .i64 b.2.1, .int .i64 b.2.2] 86 false false, 0⟩ : ABlk)] := ⟨_, rfl⟩
  rw [← eG]
  have xG : Ext h G := by rw [eG]; exact .app (.app .refl)
  have hG := xG.len
  have g1 : G[h.length]? = some ⟨.cells [.int .i64 L.R, .int .i64 L.T, pv, sv] 80 false false, 0⟩ := by rw [eG]; exact get_app (get_eq rfl)
  have g2 : G[h.length + 1]? = some ⟨.cells [.int .i64 b.1, .int .i64 b.2.1, .int .i64 b.2.2] 86 false false, 0⟩ := by rw [eG]; exact get_eq (by simp)
  refine WP_count [(5, 31)] 0 R (Nat.zero_le _) (fun _ i fr h' => fr 6 = .int .i64 (i : Int) ∧ Ext G h' ∧ ∃ v, fr 5 = v ∧ Own encT 95 G.length h' v (sptR L b i)) ?_ ?_ ?_
  · exact ⟨by (simp (disch := first | exact dschE55 | fail) only [go_sem, ↓reduceIte, Int.natCast_zero]; first | done | rfl), .refl, .slice none 0 0, by simp (disch := first | exact dschE55 | fail) only [go_sem, ↓reduceIte], by simp only [sptR, upto, lst]; exact Own.nil⟩
  · rintro i fr H hi0 hi hA ⟨r6, xH, v, r5, hO⟩
    have p2 := hA 2 rfl
    have p3 := hA 3 rfl
    have p4 := hA 4 rfl
    try simp (disch := first | exact dschE55 | fail) only [go_sem, ↓reduceIte] at p2 p3 p4
    have hlt : ((i : Int) < L.R) = True := eq_true (by omega)
    have g1H := xH.get g1
    have hsp := @Nat.succ_ne_zero; repeat' (first | simp (disch := first | exact dschE55 | fail) only [go_sem, ↓reduceIte, hsp, r6, r5, p2, p3, p4, hlt, g1H] | refine WP_drw ?_ | refine cnd_intro (fun hsp => ?_) fun hsp => ?_)
    refine WP_count [(5, 5), (7, 31)] 0 T (Nat.zero_le _) (fun _ j fr h' => fr 7 = .int .i64 (j : Int) ∧ Ext G h' ∧ ∃ v, fr 5 = v ∧ Own encT 95 G.length h' v (sptR L b i ++ rowSp L b (i : Int) j)) ?_ ?_ ?_
    · exact ⟨by (simp (disch := first | exact dschE55 | fail) only [go_sem, ↓reduceIte, Int.natCast_zero]; first | done | rfl), xH, v, by simp (disch := first | exact dschE55 | fail) only [go_sem, ↓reduceIte, r5], by simpa [rowSp, upto, lst] using hO⟩
    · rintro j fr2 H2 hj0 hj hA2 ⟨r7, xH2, v2, r52, hO2⟩
      have q2 := hA2 2 rfl
      have q3 := hA2 3 rfl
      have q4 := hA2 4 rfl
      have q6 := hA2 6 rfl
      try simp (disch := first | exact dschE55 | fail) only [go_sem, ↓reduceIte, p2, p3, p4] at q2 q3 q4 q6
      have q6 := hA2 6 rfl
      simp (disch := first | exact dschE55 | fail) only [go_sem, ↓reduceIte, r6] at q6
      have hlt2 : ((j : Int) < L.T) = True := eq_true (by omega)
      have g1K := xH2.get g1
      have g2K := xH2.get g2
      have e := fun base => sp (base := base) (r := (i : Int)) (t := (j : Int)) (xG.trans xH2) (by omega)
      have hl1 := sptR_len (L := L) (b := b) i
      have hl2 := rowSp_len (L := L) (b := b) (r := (i : Int)) (n := j)
      have hl3 : i * L.T.toNat ≤ 6 * 12 := Nat.mul_le_mul (by omega) (by omega)
      rcases Bool.eq_false_or_eq_true (splR L b ((i : Int), (j : Int))) with c1 | c1
      · rw [c1] at e
        obtain ⟨v', h', ea', hO', hle, hE, h1'⟩ := (hO2.app (T := [rowE encT 95 [((i : Int), (j : Int))] 0])).appendR (x := .slice (some ⟨H2.length, 0, 0⟩) 1 1) (m := [((i : Int), (j : Int))]) (base := base) (t := 84) (Rows.own (get_eq rfl) rfl (by simp)) Fc.el84 encT_sc (by omega) (by have := xH2.len; simp; omega) (by simp) (by simp; omega)
        have hsp := @Nat.succ_ne_zero; repeat' (first | simp (disch := first | exact dschE55 | fail) only [go_sem, ↓reduceIte, hsp, r7, r52, q6, q2, q3, q4, q6, hlt2, g1K, g2K, e, bsTR, ea'] | refine WP_drw ?_ | refine cnd_intro (fun hsp => ?_) fun hsp => ?_)
        refine ⟨by (repeat first | exact Agree.refl | assumption | refine Agree.put rfl ?_ | refine Agree.put0 ?_ | refine Agree.sub rfl (by assumption) ?_), by omega, hE G (Nat.le_refl _) (Ext.app xH2), v', rfl, ?_⟩
        rw [rowSp_succ, if_pos c1, ← List.append_assoc]
        exact hO'
      · rw [c1] at e
        have hsp := @Nat.succ_ne_zero; repeat' (first | simp (disch := first | exact dschE55 | fail) only [go_sem, ↓reduceIte, hsp, r7, r52, q6, q2, q3, q4, q6, hlt2, g1K, g2K, e] | refine WP_drw ?_ | refine cnd_intro (fun hsp => ?_) fun hsp => ?_)
        refine ⟨by (repeat first | exact Agree.refl | assumption | refine Agree.put rfl ?_ | refine Agree.put0 ?_ | refine Agree.sub rfl (by assumption) ?_), by omega, xH2, v2, rfl, ?_⟩
        rw [rowSp_succ, if_neg (by rw [c1]; decide), List.append_nil]
        exact hO2
    · rintro fr2 H2 hA2 ⟨r7, xH2, v2, r52, hO2⟩
      have q2 := hA2 2 rfl
      have q3 := hA2 3 rfl
      have q4 := hA2 4 rfl
      have q6 := hA2 6 rfl
      try simp (disch := first | exact dschE55 | fail) only [go_sem, ↓reduceIte, p2, p3, p4] at q2 q3 q4 q6
      have q6 := hA2 6 rfl
      simp (disch := first | exact dschE55 | fail) only [go_sem, ↓reduceIte, r6] at q6
      have hlt2 : ((T : Int) < L.T) = False := eq_false (by omega)
      have g1K := xH2.get g1
      have hsp := @Nat.succ_ne_zero; repeat' (first | simp (disch := first | exact dschE55 | fail) only [go_sem, ↓reduceIte, hsp, r7, r52, q6, q2, q3, q4, q6, hlt2, g1K] | refine WP_drw ?_ | refine cnd_intro (fun hsp => ?_) fun hsp => ?_)
      refine ⟨by (repeat first | exact Agree.refl | assumption | refine Agree.put rfl ?_ | refine Agree.put0 ?_ | refine Agree.sub rfl (by assumption) ?_), by omega, xH2, v2, rfl, ?_⟩
      rw [sptR_succ, eT2]
      exact hO2
  · rintro fr H hA ⟨r6, xH, v, r5, hO⟩
    have p2 := hA 2 rfl
    have p3 := hA 3 rfl
    have p4 := hA 4 rfl
    try simp (disch := first | exact dschE55 | fail) only [go_sem, ↓reduceIte] at p2 p3 p4
    have hlt : ((R : Int) < L.R) = False := eq_false (by omega)
    have g1H := xH.get g1
    have hsp := @Nat.succ_ne_zero; repeat' (first | simp (disch := first | exact dschE55 | fail) only [go_sem, ↓reduceIte, hsp, r6, r5, p2, p3, p4, hlt, g1H] | refine WP_drw ?_ | refine cnd_intro (fun hsp => ?_) fun hsp => ?_)
    exact ⟨xG.trans xH, hO.low hG⟩

/-! ### Excluded -/
def exS (q : Prt) (t : Int) (s : Sgt) : Bool := !s.bad && (decide (s.lo ≤ t ∧ t ≤ s.hi) && wks q (s.rib, t))
def excR (L : Lom) (k : Nat) (n : Nat) : List Int := (upto n).filter fun t => L.ss.any (exS (L.ps.getD k prt0) t)
theorem excR_succ {L : Lom} {k n : Nat} : excR L k (n + 1) = excR L k n ++ (if (L.ss.any (exS (L.ps.getD k prt0) (n : Int))) = true then [(n : Int)] else []) := by
  unfold excR
  rw [upto_succ, List.filter_append]
  congr 1
  simp only [List.filter_cons, List.filter_nil]
theorem excR_len {L : Lom} {k n : Nat} : (excR L k n).length ≤ n := by
  have := List.length_filter_le (fun t : Int => L.ss.any (exS (L.ps.getD k prt0) t)) (upto n)
  rw [upto_len] at this
  exact this
set_option maxHeartbeats 4000000 in
theorem run_excR {base : Nat} {h : Heap} {L : Lom} {pv sv : AVal} {k : Nat} (hb : base ≤ h.length) (hP : Parts h pv L.ps) (hS : Rows encS h sv L.ss) (hc : chkM L = 0) (hr : ∀ p ∈ L.ps, p.rib.length ≤ 1000) (hk : k < L.ps.length) :
    Ret prog raw base (.fn 49 [] []) [lomV L.R L.T pv sv, .int .i64 (k : Int)] h (fun v H => Ext h H ∧ Own encI 3 h.length H v (excR L k L.T.toNat)) := by
  have ho := hP.one
  have ho2 := hS.one
  obtain ⟨k1, k2, k3, k4, k5, k6⟩ := chkM_ok hc
  obtain ⟨T, eT⟩ := Int.eq_ofNat_of_zero_le (show 0 ≤ L.T by omega)
  have eT2 : L.T.toNat = T := by omega
  rw [eT2]
  obtain ⟨q, eq⟩ : ∃ q, q = L.ps.getD k prt0 := ⟨_, rfl⟩
  have hq : L.ps[k]? = some q := by rw [eq]; exact getD_some hk
  have hqm := List.mem_of_getElem? hq
  have k5q := k5 q hqm
  have hql := hr q hqm
  obtain ⟨a1, w1, ad1, ld1, i1⟩ := hP.atR hq
  have hw := i1.one
  refine ret_raw func49 rfl (by kernel_rfl) ?_
  have hsp := @Nat.succ_ne_zero; repeat' (first | simp (disch := first | exact dschE55 | fail) only [go_sem, ↓reduceIte, hsp] | refine WP_drw ?_ | refine cnd_intro (fun hsp => ?_) fun hsp => ?_)
  obtain ⟨G, eG⟩ : ∃ G, G = h ++ [(⟨.cells [.int .i64 L.R, .int .i64 L.T, pv, sv] 80 false false, 0⟩ : ABlk)] := ⟨_, rfl⟩
  rw [← eG]
  have xG : Ext h G := by rw [eG]; exact .app .refl
  have hG := xG.len
  have g1 : G[h.length]? = some ⟨.cells [.int .i64 L.R, .int .i64 L.T, pv, sv] 80 false false, 0⟩ := by rw [eG]; exact get_eq rfl
  refine WP_count [(5, 61)] 0 T (Nat.zero_le _) (fun _ t fr h' => fr 6 = .int .i64 (t : Int) ∧ Ext G h' ∧ ∃ v, fr 5 = v ∧ Own encI 3 G.length h' v (excR L k t)) ?_ ?_ ?_
  · exact ⟨by (simp (disch := first | exact dschE55 | fail) only [go_sem, ↓reduceIte, Int.natCast_zero]; first | done | rfl), .refl, .slice none 0 0, by simp (disch := first | exact dschE55 | fail) only [go_sem, ↓reduceIte], by simp only [excR, upto, lst]; exact Own.nil⟩
  · rintro t fr H ht0 ht hA ⟨r6, xH, v, r5, hO⟩
    have p1 := hA 1 rfl
    have p2 := hA 2 rfl
    have p4 := hA 4 rfl
    try simp (disch := first | exact dschE55 | fail) only [go_sem, ↓reduceIte] at p1 p2 p4
    have pr1 := hA 1 rfl
    simp (disch := first | exact dschE55 | fail) only [go_sem, ↓reduceIte] at pr1
    have hlt : ((t : Int) < L.T) = True := eq_true (by omega)
    have g1H := xH.get g1
    have hsp := @Nat.succ_ne_zero; repeat' (first | simp (disch := first | exact dschE55 | fail) only [go_sem, ↓reduceIte, hsp, r6, r5, p1, p2, p4, hlt, g1H] | refine WP_drw ?_ | refine cnd_intro (fun hsp => ?_) fun hsp => ?_)
    refine WP_count [(7, 56)] 0 L.ss.length (Nat.zero_le _) (fun _ j fr h' => fr 8 = .int .i64 (j : Int) ∧ Ext H h' ∧ ∃ x, fr 7 = .bool x ∧ x = (L.ss.take j).any (exS q (t : Int))) ?_ ?_ ?_
    · exact ⟨by (simp (disch := first | exact dschE55 | fail) only [go_sem, ↓reduceIte, Int.natCast_zero]; first | done | rfl), .refl, false, by simp (disch := first | exact dschE55 | fail) only [go_sem, ↓reduceIte], by simp⟩
    · rintro j fr2 K hj0 hj hA2 ⟨r8, xK, x, r7, ex⟩
      have d1 := hA2 1 rfl
      have d2 := hA2 2 rfl
      have d4 := hA2 4 rfl
      have d5 := hA2 5 rfl
      have d6 := hA2 6 rfl
      try simp (disch := first | exact dschE55 | fail) only [go_sem, ↓reduceIte, p1, p2, p4] at d1 d2 d4 d5 d6
      have d6 := hA2 6 rfl
      simp (disch := first | exact dschE55 | fail) only [go_sem, ↓reduceIte, r6] at d6
      have dr1 := hA2 1 rfl
      simp (disch := first | exact dschE55 | fail) only [go_sem, ↓reduceIte, pr1] at dr1
      have hlt2 : ((j : Int) < (L.ss.length : Int)) = True := eq_true (by omega)
      have xh := (xG.trans xH).trans xK
      have hhl := xh.len
      have g1K := (xH.trans xK).get g1
      have g1K' : ∀ {a : ABlk}, (K ++ [a])[h.length]? = _ := fun {a} => get_app g1K
      have l4 : lenOpA prog K 78 sv = some (.int .i64 (L.ss.length : Int)) := (hS.ext xh).len Fc.el78
      obtain ⟨s, es⟩ : ∃ s, s = L.ss.getD j sgt0 := ⟨_, rfl⟩
      have hs : L.ss[j]? = some s := by rw [es]; exact getD_some hj
      have ad := (hS.ext xh).addr (P := prog) (i := (j : Int)) Fc.el78 Fc.ar78 (by omega) (by omega)
      rw [Int.toNat_natCast] at ad
      have s1 : loadP prog K 147 (elAdr sv encS.z j 0) = some (.agg [.int .i64 s.rib, .int .i64 s.lo, .int .i64 s.hi, .bool s.bad]) := (hS.ext xh).load (P := prog) Fc.ty147 hs
      have s2 : ∀ {T : Heap}, loadP prog (K ++ T) 147 (elAdr sv encS.z j 0) = some (.agg [.int .i64 s.rib, .int .i64 s.lo, .int .i64 s.hi, .bool s.bad]) := fun {T} => (hS.ext (xh.trans (.app .refl))).load (P := prog) Fc.ty147 hs
      have d1 : ∀ {T : Heap}, loadP prog (K ++ T) 146 a1 = some (.agg [w1, .int .i64 q.each, .int .i64 q.ph, .bool q.wv]) := fun {T} => ld1 _ (xh.trans (.app .refl))
      have e := fun (base : Nat) (T : Heap) => run_works (base := base) (h := K ++ T) (w := w1) (p := q) (r := s.rib) (t := (t : Int)) (i1.ext (xh.trans (.app .refl))) hql k5q.2.1 (by omega)
      have fin : ∀ {y : Bool}, y = (x || exS q (t : Int) s) → y = (L.ss.take (j + 1)).any (exS q (t : Int)) := by
        intro y hy
        rw [hy, ex, any_take_succ _ hs]
      rcases Bool.eq_false_or_eq_true x with qx | qx
      · rw [qx] at r7 fin
        have hsp := @Nat.succ_ne_zero; repeat' (first | simp (disch := first | exact dschE55 | fail) only [go_sem, ↓reduceIte, hsp, r8, r7, d6, d1, d2, d4, d5, d6, p1, p2, p4, hlt2, g1K, g1K', l4, ad, s1, s2] | refine WP_drw ?_ | refine cnd_intro (fun hsp => ?_) fun hsp => ?_)
        exact ⟨by (repeat first | exact Agree.refl | assumption | refine Agree.put rfl ?_ | refine Agree.put0 ?_ | refine Agree.sub rfl (by assumption) ?_), by omega, xK.trans (.app .refl), _, rfl, fin (by simp)⟩
      · rw [qx] at r7 fin
        rcases Bool.eq_false_or_eq_true s.bad with qb | qb
        · rw [qb] at s1 s2
          have z : exS q (t : Int) s = false := by unfold exS; rw [qb]; rfl
          have hsp := @Nat.succ_ne_zero; repeat' (first | simp (disch := first | exact dschE55 | fail) only [go_sem, ↓reduceIte, hsp, r8, r7, d6, d1, d2, d4, d5, d6, p1, p2, p4, hlt2, g1K, g1K', l4, ad, s1, s2] | refine WP_drw ?_ | refine cnd_intro (fun hsp => ?_) fun hsp => ?_)
          exact ⟨by (repeat first | exact Agree.refl | assumption | refine Agree.put rfl ?_ | refine Agree.put0 ?_ | refine Agree.sub rfl (by assumption) ?_), by omega, xK.trans (.app .refl), _, rfl, fin (by rw [z]; rfl)⟩
        · rw [qb] at s1 s2
          by_cases c1 : s.lo ≤ (t : Int) ∧ (t : Int) ≤ s.hi
          · have t1 : ((t : Int) < s.lo ∨ (t : Int) > s.hi) = False := eq_false (by omega)
            have z : exS q (t : Int) s = wks q (s.rib, (t : Int)) := by unfold exS; rw [qb, decide_eq_true c1]; simp
            have hsp := @Nat.succ_ne_zero; repeat' (first | simp (disch := first | exact dschE55 | fail) only [go_sem, ↓reduceIte, hsp, r8, r7, d6, d1, d2, d4, d5, d6, p1, p2, p4, hlt2, g1K, g1K', l4, ad, s1, s2, run_off, t1, dr1, ad1, d1, e] | refine WP_drw ?_ | refine cnd_intro (fun hsp => ?_) fun hsp => ?_)
            exact ⟨by (repeat first | exact Agree.refl | assumption | refine Agree.put rfl ?_ | refine Agree.put0 ?_ | refine Agree.sub rfl (by assumption) ?_), by omega, xK.trans (.app .refl), _, rfl, fin (by rw [z]; simp)⟩
          · have t1 : ((t : Int) < s.lo ∨ (t : Int) > s.hi) = True := eq_true (by omega)
            have z : exS q (t : Int) s = false := by unfold exS; rw [decide_eq_false c1]; simp
            have hsp := @Nat.succ_ne_zero; repeat' (first | simp (disch := first | exact dschE55 | fail) only [go_sem, ↓reduceIte, hsp, r8, r7, d6, d1, d2, d4, d5, d6, p1, p2, p4, hlt2, g1K, g1K', l4, ad, s1, s2, run_off, t1] | refine WP_drw ?_ | refine cnd_intro (fun hsp => ?_) fun hsp => ?_)
            exact ⟨by (repeat first | exact Agree.refl | assumption | refine Agree.put rfl ?_ | refine Agree.put0 ?_ | refine Agree.sub rfl (by assumption) ?_), by omega, xK.trans (.app .refl), _, rfl, fin (by rw [z]; rfl)⟩
    · rintro fr2 K hA2 ⟨r8, xK, x, r7, ex⟩
      have d1 := hA2 1 rfl
      have d2 := hA2 2 rfl
      have d4 := hA2 4 rfl
      have d5 := hA2 5 rfl
      have d6 := hA2 6 rfl
      try simp (disch := first | exact dschE55 | fail) only [go_sem, ↓reduceIte, p1, p2, p4] at d1 d2 d4 d5 d6
      have d6 := hA2 6 rfl
      simp (disch := first | exact dschE55 | fail) only [go_sem, ↓reduceIte, r6] at d6
      have d5 := hA2 5 rfl
      simp (disch := first | exact dschE55 | fail) only [go_sem, ↓reduceIte, r5] at d5
      have hlt2 : ((L.ss.length : Int) < (L.ss.length : Int)) = False := eq_false (by omega)
      have xh := (xG.trans xH).trans xK
      have g1K := (xH.trans xK).get g1
      have l4 : lenOpA prog K 78 sv = some (.int .i64 (L.ss.length : Int)) := (hS.ext xh).len Fc.el78
      rw [List.take_length] at ex
      have hel := excR_len (L := L) (k := k) (n := t)
      have hKl := (xH.trans xK).len
      rcases Bool.eq_false_or_eq_true x with qx | qx
      · rw [qx] at r7 ex
        obtain ⟨v', h', ea, hO', hle, hE, h1'⟩ := (hO.ext xK).append1 (y := (t : Int)) (base := base) (t := 32) rfl rfl Fc.el32 encI_sc (by omega) hKl (by omega)
        have hsp := @Nat.succ_ne_zero; repeat' (first | simp (disch := first | exact dschE55 | fail) only [go_sem, ↓reduceIte, hsp, r8, r7, d5, d6, d1, d2, d4, d5, d6, p1, p2, p4, hlt2, g1K, l4, ea] | refine WP_drw ?_ | refine cnd_intro (fun hsp => ?_) fun hsp => ?_)
        refine ⟨by (repeat first | exact Agree.refl | assumption | refine Agree.put rfl ?_ | refine Agree.put0 ?_ | refine Agree.sub rfl (by assumption) ?_), by omega, hE _ (Nat.le_refl _) (xH.trans xK), v', rfl, ?_⟩
        rw [excR_succ, if_pos (by rw [← eq, ← ex])]
        exact hO'
      · rw [qx] at r7 ex
        have hsp := @Nat.succ_ne_zero; repeat' (first | simp (disch := first | exact dschE55 | fail) only [go_sem, ↓reduceIte, hsp, r8, r7, d5, d6, d1, d2, d4, d5, d6, p1, p2, p4, hlt2, g1K, l4] | refine WP_drw ?_ | refine cnd_intro (fun hsp => ?_) fun hsp => ?_)
        refine ⟨by (repeat first | exact Agree.refl | assumption | refine Agree.put rfl ?_ | refine Agree.put0 ?_ | refine Agree.sub rfl (by assumption) ?_), by omega, xH.trans xK, v, rfl, ?_⟩
        rw [excR_succ, if_neg (by rw [← eq, ← ex]; decide), List.append_nil]
        exact hO.ext xK
  · rintro fr H hA ⟨r6, xH, v, r5, hO⟩
    have p1 := hA 1 rfl
    have p2 := hA 2 rfl
    have p4 := hA 4 rfl
    try simp (disch := first | exact dschE55 | fail) only [go_sem, ↓reduceIte] at p1 p2 p4
    have hlt : ((T : Int) < L.T) = False := eq_false (by omega)
    have g1H := xH.get g1
    have hsp := @Nat.succ_ne_zero; repeat' (first | simp (disch := first | exact dschE55 | fail) only [go_sem, ↓reduceIte, hsp, r6, r5, p1, p2, p4, hlt, g1H] | refine WP_drw ?_ | refine cnd_intro (fun hsp => ?_) fun hsp => ?_)
    exact ⟨xG.trans xH, hO.low hG⟩
end Go.AM
/-
  Plain: what the reference says is what fault says.
-/
namespace Go.AM

/-- Rising lists of the same numbers. -/
theorem pair_ext : ∀ {l m : List Int}, l.Pairwise (· < ·) → m.Pairwise (· < ·) → (∀ x, x ∈ l ↔ x ∈ m) → l = m
  | [], [], _, _, _ => rfl
  | [], y :: m, _, _, h => by have := (h y).2 (by simp); cases this
  | x :: l, [], _, _, h => by have := (h x).1 (by simp); cases this
  | x :: l, y :: m, hl, hm, h => by
    have e : x = y := by
      have h1 := (h x).1 (by simp)
      have h2 := (h y).2 (by simp)
      rcases List.mem_cons.1 h1 with q | q
      · exact q
      · rcases List.mem_cons.1 h2 with r | r
        · exact r.symm
        · have := List.rel_of_pairwise_cons hm q
          have := List.rel_of_pairwise_cons hl r
          omega
    subst e
    congr 1
    refine pair_ext (List.pairwise_cons.1 hl).2 (List.pairwise_cons.1 hm).2 fun z => ⟨fun hz => ?_, fun hz => ?_⟩
    · have := List.rel_of_pairwise_cons hl hz
      rcases List.mem_cons.1 ((h z).1 (by simp [hz])) with q | q
      · omega
      · exact q
    · have := List.rel_of_pairwise_cons hm hz
      rcases List.mem_cons.1 ((h z).2 (by simp [hz])) with q | q
      · omega
      · exact q
theorem thr_iff {each ph : Int} {a : Nat} {x : Int} : ∀ n, x ∈ thr each ph a n ↔ ((a : Int) ≤ x ∧ x < ((a + n : Nat) : Int)) ∧ x.tmod each = ph
  | 0 => by simp [thr]; omega
  | n + 1 => by
    simp only [thr, List.mem_append, thr_iff n]
    split
    · rename_i h
      rw [List.mem_singleton]
      constructor
      · rintro (⟨h1, h2⟩ | rfl)
        · exact ⟨by omega, h2⟩
        · exact ⟨by omega, h⟩
      · rintro ⟨h1, h2⟩
        by_cases e : x = ((a + n : Nat) : Int)
        · exact .inr e
        · exact .inl ⟨by omega, h2⟩
    · rename_i h
      constructor
      · rintro (⟨h1, h2⟩ | h1)
        · exact ⟨by omega, h2⟩
        · cases h1
      · rintro ⟨h1, h2⟩
        by_cases e : x = ((a + n : Nat) : Int)
        · subst e; exact absurd h2 h
        · exact .inl ⟨by omega, h2⟩
theorem thr_sorted {each ph : Int} {a : Nat} : ∀ n, (thr each ph a n).Pairwise (· < ·)
  | 0 => List.Pairwise.nil
  | n + 1 => by
    simp only [thr]
    refine List.pairwise_append.2 ⟨thr_sorted n, ?_, fun x hx y hy => ?_⟩
    · split
      · exact List.pairwise_singleton _ _
      · exact List.Pairwise.nil
    · have := (thr_iff n).1 hx
      split at hy
      · rw [List.mem_singleton] at hy; subst hy; omega
      · cases hy
theorem flatMap_if {β : Type} (p : Int → Bool) (g : Int → List β) : ∀ l : List Int, (l.flatMap fun x => if p x = true then g x else []) = (l.filter p).flatMap g
  | [] => rfl
  | x :: l => by
    rw [List.flatMap_cons, List.filter_cons, flatMap_if p g l]
    by_cases h : p x = true
    · rw [if_pos h, if_pos h, List.flatMap_cons]
    · rw [if_neg h, if_neg h, List.nil_append]
theorem sptR_eq {L : Lom} {b : Int × Int × Int} (hc : chkM L = 0) (hk : brkM L b = 0) : sptR L b L.R.toNat = (splM L b).1 := by
  obtain ⟨k1, k2, k3, k4, k5, k6⟩ := chkM_ok hc
  obtain ⟨j1, j2, j3, j4⟩ := brkM_ok hk
  obtain ⟨q, eq⟩ : ∃ q, q = L.ps.getD b.1.toNat prt0 := ⟨_, rfl⟩
  have hqm : q ∈ L.ps := by rw [eq]; exact getD_in (by omega)
  have k5q := k5 q hqm
  unfold splM
  rw [if_neg (by simp [hc]), if_neg (by simp [hk])]
  show _ = spotsN (L.ps.getD b.1.toNat prt0) b.2.1.toNat (b.2.2 + 1 - b.2.1).toNat
  rw [← eq]
  have row : ∀ r, rowSp L b r L.T.toNat = if decide (r ∈ q.rib) = true then (thr q.each q.ph b.2.1.toNat (b.2.2 + 1 - b.2.1).toNat).map fun t => (r, t) else [] := fun r => by
    unfold rowSp splR wks
    rw [← eq]
    by_cases hr : r ∈ q.rib
    · rw [if_pos (decide_eq_true hr)]
      congr 1
      refine pair_ext ((upto_sorted _).filter _) (thr_sorted _) fun x => ?_
      rw [List.mem_filter, upto_mem, thr_iff]
      simp only [Bool.and_eq_true, decide_eq_true_eq, hr, and_true]
      constructor
      · rintro ⟨h1, h2, h3⟩; exact ⟨by omega, h3⟩
      · rintro ⟨h1, h3⟩; exact ⟨by omega, by omega, h3⟩
    · rw [if_neg (by simp [hr])]
      have : ((upto L.T.toNat).filter fun t => decide (b.2.1 ≤ (r, t).2 ∧ (r, t).2 ≤ b.2.2) && decide ((r, t).2.tmod q.each = q.ph ∧ (r, t).1 ∈ q.rib)) = [] := by
        rw [List.filter_eq_nil_iff]
        intro t _
        simp [hr]
      rw [this]
      rfl
  unfold sptR spotsN
  rw [show (fun r => rowSp L b r L.T.toNat) = fun r => if decide (r ∈ q.rib) = true then (thr q.each q.ph b.2.1.toNat (b.2.2 + 1 - b.2.1).toNat).map fun t => (r, t) else [] from funext row, flatMap_if (fun r => decide (r ∈ q.rib))]
  congr 1
  refine pair_ext ((upto_sorted _).filter _) (rise_pair k5q.2.2.2.2) fun x => ?_
  rw [List.mem_filter, upto_mem]
  simp only [decide_eq_true_eq]
  constructor
  · exact fun h => h.2
  · intro h
    have := k5q.2.2.2.1 x h
    exact ⟨by omega, h⟩
theorem excR_eq {L : Lom} {k : Nat} (hc : chkM L = 0) (hk : k < L.ps.length) : excR L k L.T.toNat = (excM L (k : Int)).1 := by
  obtain ⟨k1, k2, k3, k4, k5, k6⟩ := chkM_ok hc
  have hm := (excM_mem hc (k := (k : Int)) ⟨by omega, by omega⟩).2
  have hs : (excM L (k : Int)).1.Pairwise (· < ·) := by
    unfold excM
    rw [if_neg (by simp [hc]), if_neg (by omega)]
    exact (upto_sorted _).filter _
  refine pair_ext ((upto_sorted _).filter _) hs fun x => ?_
  unfold excR
  rw [hm, List.mem_filter, upto_mem, List.any_eq_true, Int.toNat_natCast]
  constructor
  · rintro ⟨h1, s, hs1, h2⟩
    have hx : ((x.toNat : Nat) : Int) = x := by omega
    unfold exS wks at h2
    simp only [Bool.and_eq_true, Bool.not_eq_true', decide_eq_true_eq] at h2
    obtain ⟨i, hi, rfl⟩ := List.getElem_of_mem hs1
    have hg : sgtI L (i : Int) = L.ss[i] := by unfold sgtI; rw [Int.toNat_natCast, getD_at hi]
    refine ⟨by omega, (i : Int), upto_mem.2 ⟨by omega, by omega⟩, ?_⟩
    unfold exclI
    unfold badI
    rw [hg, hx, show L.ss.getD ((i : Int)).toNat sgt0 = L.ss[i] from hg]
    exact ⟨h2.1, h2.2.1.1, h2.2.1.2, h2.2.2.1, h2.2.2.2⟩
  · rintro ⟨h1, i, hi, h2⟩
    have hx : ((x.toNat : Nat) : Int) = x := by omega
    unfold exclI at h2
    unfold badI at h2
    rw [hx] at h2
    refine ⟨by omega, sgtI L i, sgtI_mem (upto_mem.1 hi), ?_⟩
    unfold exS wks
    simp only [Bool.and_eq_true, Bool.not_eq_true', decide_eq_true_eq]
    exact ⟨h2.1, ⟨h2.2.1, h2.2.2.1⟩, h2.2.2.2.1, h2.2.2.2.2⟩
end Go.AM
