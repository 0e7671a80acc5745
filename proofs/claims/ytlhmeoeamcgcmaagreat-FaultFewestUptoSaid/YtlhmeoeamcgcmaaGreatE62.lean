/-
  Contracts: the truths that explain a loom; looms of too many truths.
-/
import Derived.Test.YtlhmeoeamcgcmaaGreatE61
set_option linter.unusedSimpArgs false
set_option linter.unusedVariables false
namespace Go.AM
open Go.Proofs.Tryz
theorem dschE62 {p : Prop} (h : p := by first | exact Nat.ne_of_beq_eq_false rfl | assumption | (apply asOne; (first | exact One.int | exact One.bool | assumption | exact Ints.one (by assumption) | exact Rows.one (by assumption) | exact Own.one (by assumption) | exact One.lit ⟨rfl, rfl, rfl⟩)) | (apply asInts; (repeat first | assumption | exact ints_nil | apply Ints.app); done) | (apply asRows; (repeat first | assumption | exact Rows.nil | apply Rows.app); done) | (apply asScal; (first | apply allS1 | apply allS2 | apply allS3 | apply allS4) <;> (first | exact One.int | exact One.bool | assumption | exact Ints.one (by assumption) | exact Rows.one (by assumption) | exact Own.one (by assumption) | exact One.lit ⟨rfl, rfl, rfl⟩)) | exact litT rfl | exact litF rfl | omega | (simp only [List.length_append, List.length_cons, List.length_nil, List.length_set, List.length_reverse]; first | done | omega) | fail) : p := h
attribute [-go_sem] put_ne put_same
attribute [local go_sem ↓] put_if
theorem filter_take_succ {α : Type} (f : α → Bool) {l : List α} {n : Nat} {x : α} (h : l[n]? = some x) : (l.take (n + 1)).filter f = (l.take n).filter f ++ (if f x = true then [x] else []) := by
  rw [List.take_add_one, h, List.filter_append]
  congr 1
  simp only [Option.toList, List.filter_cons, List.filter_nil]
theorem xplM_len {L : Lom} {t : List Brk} (hc : chkM L = 0) (ht : truM L t = 0) : xplM L t = decide ((lftM L t).1.length = 0) := by
  have e : (lftM L t).2 = 0 := by unfold lftM; rw [if_neg (by simp [hc]), if_neg (by simp [ht])]
  unfold xplM
  rw [Bool.eq_iff_iff]
  simp [e]
set_option maxHeartbeats 4000000 in
theorem run_truthsR {base : Nat} {h : Heap} {L : Lom} {pv sv av : AVal} {ts : List (List Brk)} (hb : base ≤ h.length) (hP : Parts h pv L.ps) (hS : Rows encS h sv L.ss) (hc : chkM L = 0) (hr : ∀ p ∈ L.ps, p.rib.length ≤ 1000) (hA0 : AllAt 0 h av ts) (hl : ts.length ≤ 3000) (ht : ∀ t ∈ ts, truM L t = 0 ∧ t.length ≤ 6) :
    Ret prog raw base (.fn 17 [] []) [lomV L.R L.T pv sv, av] h (fun v H => Ext h H ∧ AllAt h.length H v (ts.filter (xplM L))) := by
  have ho := hP.one
  have ho2 := hS.one
  have ho3 := hA0.one
  obtain ⟨k1, k2, k3, k4, k5, k6⟩ := chkM_ok hc
  obtain ⟨G, eG⟩ : ∃ G, G = h ++ [(⟨.cells [.int .i64 L.R, .int .i64 L.T, pv, sv] 32 false false, 0⟩ : ABlk)] := ⟨_, rfl⟩
  have xG : Ext h G := by rw [eG]; exact .app .refl
  have hG := xG.len
  have g1 : G[h.length]? = some ⟨.cells [.int .i64 L.R, .int .i64 L.T, pv, sv] 32 false false, 0⟩ := by rw [eG]; exact get_eq rfl
  refine ret_raw func17 rfl (by kernel_rfl) ?_
  have hsp := @Nat.succ_ne_zero; repeat' (first | simp (disch := first | exact dschE62 | fail) only [go_sem, ↓reduceIte, hsp, ← eG] | refine WP_drw ?_ | refine cnd_intro (fun hsp => ?_) fun hsp => ?_)
  refine WP_count [(5, 27)] 0 ts.length (Nat.zero_le _) (fun _ i fr h' => fr 6 = .int .i64 (i : Int) ∧ Ext G h' ∧ ∃ v, fr 5 = v ∧ AllAt G.length h' v ((ts.take i).filter (xplM L))) ?_ ?_ ?_
  · exact ⟨by (simp (disch := first | exact dschE62 | fail) only [go_sem, ↓reduceIte, Int.natCast_zero]; first | done | rfl), .refl, .slice none 0 0, by simp (disch := first | exact dschE62 | fail) only [go_sem, ↓reduceIte], by simp only [List.take_zero, List.filter_nil]; exact ⟨[], Own.nil, rfl, fun i x t a c => by simp at a⟩⟩
  · rintro i fr K hi0 hi hA ⟨r6, xK, v, r5, oV⟩
    have p1 := hA 1 rfl
    have p2 := hA 2 rfl
    have p4 := hA 4 rfl
    try simp (disch := first | exact dschE62 | fail) only [go_sem, ↓reduceIte] at p1 p2 p4
    have pr1 := hA 1 rfl
    simp (disch := first | exact dschE62 | fail) only [go_sem, ↓reduceIte] at pr1
    have hlt : ((i : Int) < (ts.length : Int)) = True := eq_true (by omega)
    have xh := xG.trans xK
    have hhK := xh.len
    have hKl := xK.len
    have g1K := xK.get g1
    have hnK := (hA0.ext xh).len (show ts.length < 2 ^ 60 by omega)
    have hx : ts[i]? = some ts[i] := List.getElem?_eq_getElem hi
    obtain ⟨x, ex⟩ : ∃ x, x = ts[i] := ⟨_, rfl⟩
    rw [← ex] at hx
    obtain ⟨hx1, hx2⟩ := ht x (List.mem_of_getElem? hx)
    obtain ⟨a, w, ad, ld, oW⟩ := (hA0.ext xh).at (show ts.length < 2 ^ 60 by omega) hx
    have hw := oW.one
    have d0 := ld _ .refl
    obtain ⟨u, K2, e2, x2, o2⟩ := run_leftR (base := base) (t := x) (by omega) (hP.ext xh) (hS.ext xh) hc hr (oW.rows (by omega)) (by omega) hx1
    have hu := o2.one
    have lll := @lftM_len L x
    have lu := own_len o2 Fc.el36 (by omega)
    have d2 := ld _ x2
    have g1K2 := x2.get g1K
    have hfl := List.length_filter_le (xplM L) (ts.take i)
    rw [List.length_take] at hfl
    have hxe := xplM_len hc hx1
    by_cases c1 : (lftM L x).1.length = 0
    · have t1 : (((lftM L x).1.length : Int) = 0) = True := eq_true (by omega)
      rw [decide_eq_true c1] at hxe
      obtain ⟨z, A', bz, xA, w', h', eW, oN, hl5, hE, hw1, _⟩ := (oV.ext x2).snoc (base := base) (oW.ext x2) (by omega) (by have := x2.len; omega) (by omega)
      have hsp := @Nat.succ_ne_zero; repeat' (first | simp (disch := first | exact dschE62 | fail) only [go_sem, ↓reduceIte, hsp, r6, r5, pr1, p1, p2, p4, hlt, hnK, g1K, ad, d0, e2, lu, t1, d2, bz, eW] | refine WP_drw ?_ | refine cnd_intro (fun hsp => ?_) fun hsp => ?_)
      refine ⟨by (repeat first | exact Agree.refl | assumption | refine Agree.put rfl ?_ | refine Agree.put0 ?_ | refine Agree.sub rfl (by assumption) ?_), by omega, hE _ (Nat.le_refl _) (xK.trans x2), w', rfl, ?_⟩
      rw [filter_take_succ _ hx, if_pos hxe]
      exact oN
    · have t1 : (((lftM L x).1.length : Int) = 0) = False := eq_false (by omega)
      rw [decide_eq_false c1] at hxe
      have hsp := @Nat.succ_ne_zero; repeat' (first | simp (disch := first | exact dschE62 | fail) only [go_sem, ↓reduceIte, hsp, r6, r5, pr1, p1, p2, p4, hlt, hnK, g1K, ad, d0, e2, lu, t1] | refine WP_drw ?_ | refine cnd_intro (fun hsp => ?_) fun hsp => ?_)
      refine ⟨by (repeat first | exact Agree.refl | assumption | refine Agree.put rfl ?_ | refine Agree.put0 ?_ | refine Agree.sub rfl (by assumption) ?_), by omega, xK.trans x2, v, rfl, ?_⟩
      rw [filter_take_succ _ hx, if_neg (by rw [hxe]; decide), List.append_nil]
      exact oV.ext x2
  · rintro fr K hA ⟨r6, xK, v, r5, oV⟩
    have p1 := hA 1 rfl
    have p2 := hA 2 rfl
    have p4 := hA 4 rfl
    try simp (disch := first | exact dschE62 | fail) only [go_sem, ↓reduceIte] at p1 p2 p4
    have pr1 := hA 1 rfl
    simp (disch := first | exact dschE62 | fail) only [go_sem, ↓reduceIte] at pr1
    have hlt : ((ts.length : Int) < (ts.length : Int)) = False := eq_false (by omega)
    have hnK := (hA0.ext (xG.trans xK)).len (show ts.length < 2 ^ 60 by omega)
    rw [List.take_length] at oV
    have hsp := @Nat.succ_ne_zero; repeat' (first | simp (disch := first | exact dschE62 | fail) only [go_sem, ↓reduceIte, hsp, r6, r5, pr1, p1, p2, p4, hlt, hnK] | refine WP_drw ?_ | refine cnd_intro (fun hsp => ?_) fun hsp => ?_)
    exact ⟨xG.trans xK, oV.low hG⟩
/-! ### Too many truths -/
def waysN (L : Lom) (i : Nat) : Int := ((L.T * (L.T + 1)).tdiv 2 + 1) ^ i
def wideM (L : Lom) : Bool := if grtM L = true ∨ 12 < L.T ∨ L.T < 1 ∨ 6 < L.ps.length ∨ 10 < L.ss.length then grtM L else decide (3000 < waysN L L.ps.length)
theorem waysN_succ {L : Lom} {i : Nat} : waysN L (i + 1) = waysN L i * ((L.T * (L.T + 1)).tdiv 2 + 1) := Int.pow_succ _ _
theorem waysN_pos {L : Lom} (h : 1 ≤ (L.T * (L.T + 1)).tdiv 2) : ∀ i, 1 ≤ waysN L i
  | 0 => by simp [waysN]
  | i + 1 => by
    have := waysN_pos h i
    rw [waysN_succ]
    have h1 := Int.mul_le_mul_of_nonneg_right this (show 0 ≤ (L.T * (L.T + 1)).tdiv 2 + 1 by omega)
    rw [Int.one_mul] at h1
    omega
theorem waysN_le {L : Lom} (h : 1 ≤ (L.T * (L.T + 1)).tdiv 2) {i : Nat} : ∀ d, waysN L i ≤ waysN L (i + d)
  | 0 => Int.le_refl _
  | d + 1 => by
    have h0 := waysN_le h (i := i) d
    have h2 := waysN_pos h (i + d)
    rw [← Nat.add_assoc, waysN_succ]
    have h1 := Int.mul_le_mul_of_nonneg_left (show (1 : Int) ≤ (L.T * (L.T + 1)).tdiv 2 + 1 by omega) (show 0 ≤ waysN L (i + d) by omega)
    rw [Int.mul_one] at h1
    omega
set_option maxHeartbeats 2000000 in
theorem run_wide {base : Nat} {h : Heap} {v : AVal} {L : Lom} (hL : LomAt h v L) : callL prog raw base (.fn 11 [] []) [v] h = some (.bool (wideM L), h) := by
  have gr : ∀ {base : Nat} {a : ABlk}, callL prog raw base (.fn 42 [] []) [v] (h ++ [a]) = some (.bool (grtM L), h ++ [a]) := fun {base a} => run_great (hL.ext (.app .refl))
  obtain ⟨pv, sv, rfl, hP, hS⟩ := hL
  have o1 := hP.one
  have o2 := hS.one
  have l1 : ∀ {a : ABlk}, lenOpA prog (h ++ [a]) 22 pv = some (.int .i64 (L.ps.length : Int)) := fun {a} => (hP.ext (.app .refl)).len
  have l2 : ∀ {a : ABlk}, lenOpA prog (h ++ [a]) 23 sv = some (.int .i64 (L.ss.length : Int)) := fun {a} => (hS.ext (.app .refl)).len Fc.el23
  unfold wideM
  refine callL_run func11 rfl rfl ?_
  rcases Bool.eq_false_or_eq_true (grtM L) with c0 | c0
  · rw [c0] at gr
    rw [if_pos (.inl c0), c0]
    have hsp := @Nat.succ_ne_zero; repeat' (first | simp (disch := first | exact dschE62 | fail) only [go_sem, ↓reduceIte, hsp, gr, l1, l2] | refine WP_drw ?_ | refine cnd_intro (fun hsp => ?_) fun hsp => ?_)
    exact fB rfl
  · rw [c0] at gr
    by_cases c1 : 12 < L.T
    · have t1 : (12 < L.T) = True := eq_true c1
      rw [if_pos (.inr (.inl c1)), c0]
      have hsp := @Nat.succ_ne_zero; repeat' (first | simp (disch := first | exact dschE62 | fail) only [go_sem, ↓reduceIte, hsp, gr, l1, l2, t1] | refine WP_drw ?_ | refine cnd_intro (fun hsp => ?_) fun hsp => ?_)
      exact fB rfl
    · have t1 : (12 < L.T) = False := eq_false c1
      by_cases c2 : L.T < 1
      · have t2 : (L.T < 1) = True := eq_true c2
        rw [if_pos (.inr (.inr (.inl c2))), c0]
        have hsp := @Nat.succ_ne_zero; repeat' (first | simp (disch := first | exact dschE62 | fail) only [go_sem, ↓reduceIte, hsp, gr, l1, l2, t1, t2] | refine WP_drw ?_ | refine cnd_intro (fun hsp => ?_) fun hsp => ?_)
        exact fB rfl
      · have t2 : (L.T < 1) = False := eq_false c2
        by_cases c3 : 6 < L.ps.length
        · have t3 : ((L.ps.length : Int) > 6) = True := eq_true (by omega)
          rw [if_pos (.inr (.inr (.inr (.inl c3)))), c0]
          have hsp := @Nat.succ_ne_zero; repeat' (first | simp (disch := first | exact dschE62 | fail) only [go_sem, ↓reduceIte, hsp, gr, l1, l2, t1, t2, t3] | refine WP_drw ?_ | refine cnd_intro (fun hsp => ?_) fun hsp => ?_)
          exact fB rfl
        · have t3 : ((L.ps.length : Int) > 6) = False := eq_false (by omega)
          by_cases c4 : 10 < L.ss.length
          · have t4 : ((L.ss.length : Int) > 10) = True := eq_true (by omega)
            rw [if_pos (.inr (.inr (.inr (.inr c4)))), c0]
            have hsp := @Nat.succ_ne_zero; repeat' (first | simp (disch := first | exact dschE62 | fail) only [go_sem, ↓reduceIte, hsp, gr, l1, l2, t1, t2, t3, t4] | refine WP_drw ?_ | refine cnd_intro (fun hsp => ?_) fun hsp => ?_)
            exact fB rfl
          · have t4 : ((L.ss.length : Int) > 10) = False := eq_false (by omega)
            rw [if_neg (by rintro (q | q | q | q | q); rw [c0] at q; cases q; exact c1 q; exact c2 q; exact c3 q; exact c4 q)]
            obtain ⟨p, ep⟩ : ∃ p, p = L.T * (L.T + 1) := ⟨_, rfl⟩
            have hp : 2 ≤ p ∧ p ≤ 156 := by
              have : L.T = 1 ∨ L.T = 2 ∨ L.T = 3 ∨ L.T = 4 ∨ L.T = 5 ∨ L.T = 6 ∨ L.T = 7 ∨ L.T = 8 ∨ L.T = 9 ∨ L.T = 10 ∨ L.T = 11 ∨ L.T = 12 := by omega
              rcases this with e | e | e | e | e | e | e | e | e | e | e | e <;> rw [ep, e] <;> decide
            obtain ⟨q, eq⟩ : ∃ q, q = p.tdiv 2 := ⟨_, rfl⟩
            have hq : 1 ≤ q ∧ q ≤ 78 := by rw [eq, Int.tdiv_eq_ediv_of_nonneg (by omega)]; omega
            have hq1 : 1 ≤ (L.T * (L.T + 1)).tdiv 2 := by rw [← ep, ← eq]; exact hq.1
            have w1 : binA prog .mul 3 (.int .i64 L.T) (.int .i64 (L.T + 1)) = some (.int .i64 p) := by rw [bin_mul, ← ep, wrap64 (by omega) (by omega)]
            have w2 : binA prog .quo 3 (.int .i64 p) (.int .i64 2) = some (.int .i64 q) := by rw [bin_quo (by decide), ← eq, wrap64 (by omega) (by omega)]
            have hsp := @Nat.succ_ne_zero; repeat' (first | simp (disch := first | exact dschE62 | fail) only [go_sem, ↓reduceIte, hsp, gr, l1, l2, t1, t2, t3, t4] | refine WP_drw ?_ | refine cnd_intro (fun hsp => ?_) fun hsp => ?_)
            refine WP_count [(2, 3), (33, 47)] 0 L.ps.length (Nat.zero_le _) (fun H0 i fr h' => fr 33 = .int .i64 (i : Int) ∧ h' = H0 ∧ fr 3 = .int .i64 (waysN L i) ∧ waysN L i ≤ 3000) ?_ ?_ ?_
            · exact ⟨by (simp (disch := first | exact dschE62 | fail) only [go_sem, ↓reduceIte, Int.natCast_zero]; first | done | rfl), rfl, by simp (disch := first | exact dschE62 | fail) only [go_sem, ↓reduceIte]; simp [waysN], by simp [waysN]⟩
            · rintro i fr H hi0 hi hA ⟨r33, eH, r3, hle⟩
              subst eH
              have a1 := hA 1 rfl
              have a32 := hA 32 rfl
              try simp (disch := first | exact dschE62 | fail) only [go_sem, ↓reduceIte] at a1 a32
              have hlt : ((i : Int) < (L.ps.length : Int)) = True := eq_true (by omega)
              have hpo := waysN_pos hq1 i
              have hm : waysN L (i + 1) = waysN L i * (q + 1) := by rw [waysN_succ, ← ep, ← eq]
              have hmb : waysN L i * (q + 1) ≤ 3000 * 79 := Int.mul_le_mul hle (by omega) (by omega) (by decide)
              have hmp := waysN_pos hq1 (i + 1)
              have w3 : binA prog .mul 3 (.int .i64 (waysN L i)) (.int .i64 (q + 1)) = some (.int .i64 (waysN L (i + 1))) := by rw [bin_mul, ← hm, wrap64 (by omega) (by omega)]
              by_cases c5 : waysN L (i + 1) > 3000
              · have t5 : (waysN L (i + 1) > 3000) = True := eq_true c5
                have r : decide (3000 < waysN L L.ps.length) = true := decide_eq_true (by
                  have := waysN_le hq1 (i := i + 1) (L.ps.length - (i + 1))
                  rw [show i + 1 + (L.ps.length - (i + 1)) = L.ps.length by omega] at this
                  omega)
                rw [r]
                have hsp := @Nat.succ_ne_zero; repeat' (first | simp (disch := first | exact dschE62 | fail) only [go_sem, ↓reduceIte, hsp, r33, r3, a1, a32, hlt, w1, w2, w3, t5] | refine WP_drw ?_ | refine cnd_intro (fun hsp => ?_) fun hsp => ?_)
                exact fB rfl
              · have t5 : (waysN L (i + 1) > 3000) = False := eq_false c5
                have hsp := @Nat.succ_ne_zero; repeat' (first | simp (disch := first | exact dschE62 | fail) only [go_sem, ↓reduceIte, hsp, r33, r3, a1, a32, hlt, w1, w2, w3, t5] | refine WP_drw ?_ | refine cnd_intro (fun hsp => ?_) fun hsp => ?_)
                exact ⟨by (repeat first | exact Agree.refl | assumption | refine Agree.put rfl ?_ | refine Agree.put0 ?_ | refine Agree.sub rfl (by assumption) ?_), by omega, by omega⟩
            · rintro fr H hA ⟨r33, eH, r3, hle⟩
              subst eH
              have a1 := hA 1 rfl
              have a32 := hA 32 rfl
              try simp (disch := first | exact dschE62 | fail) only [go_sem, ↓reduceIte] at a1 a32
              have hlt : ((L.ps.length : Int) < (L.ps.length : Int)) = False := eq_false (by omega)
              have r : decide (3000 < waysN L L.ps.length) = false := decide_eq_false (by omega)
              rw [r]
              have hsp := @Nat.succ_ne_zero; repeat' (first | simp (disch := first | exact dschE62 | fail) only [go_sem, ↓reduceIte, hsp, r33, r3, a1, a32, hlt] | refine WP_drw ?_ | refine cnd_intro (fun hsp => ?_) fun hsp => ?_)
              exact fB rfl
end Go.AM
