/-
  Contracts: the longest rising list.
-/
import Derived.Test.YteanoaejoddnbaaU15
import Derived.Test.YteanoaejoddnbaaU11
import Derived.Test.YteanoaejoddnbaaU13
set_option linter.unusedSimpArgs false
set_option linter.unusedVariables false
namespace Go.AM
open Go.Proofs.Try
theorem dschL4 {p : Prop} (h : p := by first | exact Nat.ne_of_beq_eq_false rfl | assumption | (apply asOne; (first | exact One.int | exact One.bool | assumption | exact Ints.one (by assumption) | exact Rows.one (by assumption) | exact Own.one (by assumption) | exact One.lit ⟨rfl, rfl, rfl⟩)) | (apply asInts; (repeat first | assumption | exact ints_nil | apply Ints.app); done) | (apply asRows; (repeat first | assumption | exact Rows.nil | apply Rows.app); done) | (apply asScal; (first | apply allS1 | apply allS2 | apply allS3 | apply allS4) <;> (first | exact One.int | exact One.bool | assumption | exact Ints.one (by assumption) | exact Rows.one (by assumption) | exact Own.one (by assumption) | exact One.lit ⟨rfl, rfl, rfl⟩)) | exact litT rfl | exact litF rfl | omega | (simp only [List.length_append, List.length_cons, List.length_nil, List.length_set, List.length_reverse]; first | done | omega) | fail) : p := h
attribute [-go_sem] put_ne put_same
attribute [local go_sem ↓] put_if
theorem find_upto {f : Int → Bool} {n j : Nat} (hj : j < n) (h : ∀ i, i < j → f (i : Int) = false) (hf : f (j : Int) = true) : (upto n).find? f = some (j : Int) := by
  obtain ⟨y, h1, h2, h3, h4⟩ := find_first (f := f) (upto_sorted n) (upto_mem.2 ⟨by omega, by omega⟩ : (j : Int) ∈ upto n) hf
  rw [h1]
  rcases h4 with h4 | h4
  · rw [h4]
  · exfalso
    obtain ⟨k, rfl⟩ := Int.eq_ofNat_of_zero_le (upto_mem.1 h2).1
    have := h k (by simpa using h4)
    rw [h3] at this; cases this
theorem find_upto_no {f : Int → Bool} {n : Nat} (h : ∀ i, i < n → f (i : Int) = false) : (upto n).find? f = none := by
  rw [List.find?_eq_none]
  intro x hx
  obtain ⟨k, rfl⟩ := Int.eq_ofNat_of_zero_le (upto_mem.1 hx).1
  rw [h k (by have := (upto_mem.1 hx).2; omega)]; simp
theorem nxtB_nil {o : List Int} {V : Nat → Int} {left p : Int} : nxtB o V [] left p = decide (V p.toNat = left) := by simp [nxtB]
theorem nxtB_at {o out : List Int} {V : Nat → Int} {left p : Int} (h : 0 < out.length) : nxtB o V out left p = (decide (V p.toNat = left) && decide (out.getD (out.length - 1) 0 < p ∧ o.getD (out.getD (out.length - 1) 0).toNat 0 < o.getD p.toNat 0)) := by
  unfold nxtB
  rw [List.getLast?_eq_getElem?, getD_some (d := 0) (by omega)]
theorem riseF_none {o : List Int} {V : Nat → Int} {m : Nat} {out : List Int} (h : ∀ i, i < o.length → nxtB o V out ((m + 1 : Nat) : Int) (i : Int) = false) : riseF o V (m + 1) out = riseF o V m out := by
  rw [riseF, riseS, find_upto_no h]
theorem riseF_some {o : List Int} {V : Nat → Int} {m j : Nat} {out : List Int} (hj : j < o.length) (h : ∀ i, i < j → nxtB o V out ((m + 1 : Nat) : Int) (i : Int) = false) (hf : nxtB o V out ((m + 1 : Nat) : Int) (j : Int) = true) : riseF o V (m + 1) out = riseF o V m (out ++ [(j : Int)]) := by
  rw [riseF, riseS, find_upto hj h hf]
theorem rsA_len {o : List Int} : (rsA o).length = o.length := rsN_len _
theorem rsA_bd {o : List Int} (q : Nat) : 0 ≤ (rsA o).getD q 0 ∧ (rsA o).getD q 0 ≤ (o.length : Int) := rsN_bd (Nat.le_refl _) q
theorem rsA_small {o : List Int} (h : o.length ≤ 1000) : Small (rsA o) := by
  refine ⟨by rw [rsA_len]; omega, fun x hx => ?_⟩
  obtain ⟨i, hi, rfl⟩ := List.mem_iff_getElem.1 hx
  have := rsA_bd (o := o) i
  rw [getD_at hi] at this
  omega
theorem grt_rsA {o : List Int} (h : o.length ≤ 1000) : 0 ≤ grt (rsA o) ∧ grt (rsA o) ≤ 1000 := by
  refine ⟨grt_ge.1, ?_⟩
  rcases grt_is (l := rsA o) (a := 0) with q | q
  · unfold grt; omega
  · obtain ⟨i, hi, e⟩ := List.mem_iff_getElem.1 q
    have := rsA_bd (o := o) i
    rw [getD_at hi, e] at this
    unfold grt; omega
set_option maxHeartbeats 4000000 in
theorem run_rise {base : Nat} {h : Heap} {v : AVal} {o : List Int} (hb : base ≤ h.length) (hI : Ints h v o) (h0 : 0 < o.length) (hl : o.length ≤ 1000) :
    Ret prog raw base (.fn 89 [] []) [v] h (fun w H => Ext h H ∧ Own encI 3 h.length H w (riseL o)) := by
  have hv1 := hI.one
  obtain ⟨w1, H1, e1, x1, o1⟩ := run_rises hb hI h0 hl
  have ho1 := o1.one
  have i1 := own_ints o1 (rsA_small hl)
  have hg := fun base => run_greatest (base := base) i1
  have hl1 := x1.len
  have hgb := grt_rsA hl
  obtain ⟨N, eN⟩ := Int.eq_ofNat_of_zero_le hgb.1
  rw [eN] at hg
  obtain ⟨V, eV⟩ : ∃ V : Nat → Int, V = fun p => (rsA o).getD p 0 := ⟨_, rfl⟩
  have hres : riseL o = riseF o V N [] := by unfold riseL; rw [eN, eV]; rfl
  rw [hres]
  refine ret_raw func89 rfl (by kernel_rfl) ?_
  have hsp := @Nat.succ_ne_zero; repeat' (first | simp (disch := first | exact dschL4 | fail) only [go_sem, ↓reduceIte, hsp, e1, hg] | refine WP_drw ?_ | refine cnd_intro (fun hsp => ?_) fun hsp => ?_)
  refine WP_count [(4, 61)] 0 N (Nat.zero_le _) (fun _ i fr K => fr 5 = .int .i64 ((N - i : Nat) : Int) ∧ Ext H1 K ∧ ∃ out w, fr 4 = w ∧ Own encI 3 H1.length K w out ∧ (∀ a ∈ out, 0 ≤ a ∧ a < (o.length : Int)) ∧ out.length ≤ i ∧ riseF o V N [] = riseF o V (N - i) out) ?_ ?_ ?_
  · exact ⟨by (simp (disch := first | exact dschL4 | fail) only [go_sem, ↓reduceIte, Int.natCast_zero]; first | done | rfl), .refl, [], .slice none 0 0, by simp (disch := first | exact dschL4 | fail) only [go_sem, ↓reduceIte], Own.nil, fun a ha => by simp at ha, Nat.le_refl _, rfl⟩
  · rintro i fr K hi0 hi hA ⟨r5, xK, out, w, r4, hO, hin, hol, hF⟩
    have p0 := hA 0 rfl
    have p2 := hA 2 rfl
    have p3 := hA 3 rfl
    try simp (disch := first | exact dschL4 | fail) only [go_sem, ↓reduceIte] at p0 p2 p3
    obtain ⟨m, em⟩ : ∃ m, N - i = m + 1 := ⟨N - i - 1, by omega⟩
    have em2 : N - (i + 1) = m := by omega
    rw [em] at r5 hF
    have hgt : (((m + 1 : Nat) : Int) > 0) = True := eq_true (by omega)
    have iK := i1.ext xK
    have lK := lenI iK
    rw [rsA_len] at lK
    have hw1 := hO.one
    have hOs : Small out := ⟨by omega, fun a ha => by have := hin a ha; omega⟩
    have iO := own_ints hO hOs
    have lO := lenI iO
    have xh := x1.trans xK
    have hIK := hI.ext xh
    have hKl := xK.len
    have hm1 : (((m + 1 : Nat) : Int) - 1) = (m : Int) := by omega
    have hsp := @Nat.succ_ne_zero; repeat' (first | simp (disch := first | exact dschL4 | fail) only [go_sem, ↓reduceIte, hsp, r5, r4, p0, p2, p3, hgt, lK] | refine WP_drw ?_ | refine cnd_intro (fun hsp => ?_) fun hsp => ?_)
    refine WP_count [(4, 4), (6, 7), (18, 61)] 0 o.length (Nat.zero_le _) (fun _ j fr H => fr 18 = .int .i64 (j : Int) ∧ fr 4 = w ∧ H = K ∧ ∀ i', i' < j → nxtB o V out ((m + 1 : Nat) : Int) (i' : Int) = false) ?_ ?_ ?_
    · exact ⟨by (simp (disch := first | exact dschL4 | fail) only [go_sem, ↓reduceIte, Int.natCast_zero]; first | done | rfl), by simp (disch := first | exact dschL4 | fail) only [go_sem, ↓reduceIte, r4], rfl, fun i' q => by omega⟩
    · rintro j fr2 K' hj0 hj hA2 ⟨r18, r4', eK, hno⟩
      subst eK
      have d0 := hA2 0 rfl
      have d2 := hA2 2 rfl
      have d3 := hA2 3 rfl
      have d5 := hA2 5 rfl
      have d16 := hA2 16 rfl
      have d17 := hA2 17 rfl
      try simp (disch := first | exact dschL4 | fail) only [go_sem, ↓reduceIte, p0, p2, p3] at d0 d2 d3 d5 d16 d17
      have d5 := hA2 5 rfl
      simp (disch := first | exact dschL4 | fail) only [go_sem, ↓reduceIte, r5] at d5
      have hlt : ((j : Int) < (o.length : Int)) = True := eq_true (by omega)
      have lj := loadI iK (i := j) (by rw [rsA_len]; exact hj)
      have aj := adrI (i := (j : Int)) (by omega) iK (by rw [rsA_len]; omega)
      have lp := loadI hIK hj
      have ap := adrI (i := (j : Int)) (by omega) hIK (by omega)
      rw [Int.toNat_natCast] at aj ap
      have hVj : V j = (rsA o).getD j 0 := by rw [eV]
      have hjj : ((j : Int) + 1) = ((j + 1 : Nat) : Int) := by omega
      obtain ⟨w', K2, ea, oW, lW, eW, oneW, kW⟩ := OwnE.snocI (base := base) (x := (j : Int)) (.inl hO) (by omega) (by omega) (by omega)
      have fin : nxtB o V out ((m + 1 : Nat) : Int) (j : Int) = true → Ext H1 K2 ∧ ∃ out' : List Int, ∃ w2, w' = w2 ∧ Own encI 3 H1.length K2 w2 out' ∧ (∀ a ∈ out', 0 ≤ a ∧ a < (o.length : Int)) ∧ out'.length ≤ i + 1 ∧ riseF o V N [] = riseF o V (N - (i + 1)) out' := fun q => by
        refine ⟨eW _ (Nat.le_refl _) xK, _, _, rfl, oW, fun a ha => ?_, by simp; omega, by rw [em2, hF, riseF_some hj hno q]⟩
        rcases List.mem_append.1 ha with ha | ha
        · exact hin a ha
        · simp at ha; omega
      have skip : nxtB o V out ((m + 1 : Nat) : Int) (j : Int) = false → ∀ i', i' < j + 1 → nxtB o V out ((m + 1 : Nat) : Int) (i' : Int) = false := fun q i' hi' => by
        by_cases e : i' = j
        · rw [e]; exact q
        · exact hno i' (by omega)
      by_cases c1 : (rsA o).getD j 0 = ((m + 1 : Nat) : Int)
      · have t1 : ((rsA o).getD j 0 = ((m + 1 : Nat) : Int)) = True := eq_true c1
        by_cases c2 : out = []
        · subst c2
          have t2 : (((([] : List Int).length : Nat) : Int) = 0) = True := eq_true rfl
          have hnx : nxtB o V [] ((m + 1 : Nat) : Int) (j : Int) = true := by rw [nxtB_nil, Int.toNat_natCast, hVj]; exact decide_eq_true c1
          obtain ⟨f1, f2⟩ := fin hnx
          have hsp := @Nat.succ_ne_zero; repeat' (first | simp (disch := first | exact dschL4 | fail) only [go_sem, ↓reduceIte, hsp, r18, r4', d5, d0, d2, d3, d5, d16, d17, p0, p2, p3, hlt, lj, aj, lp, ap, t1, lO, t2, ea] | refine WP_drw ?_ | refine cnd_intro (fun hsp => ?_) fun hsp => ?_)
          exact ⟨by (repeat first | exact Agree.refl | assumption | refine Agree.put rfl ?_ | refine Agree.put0 ?_ | refine Agree.sub rfl (by assumption) ?_), by rw [em2]; omega, f1, f2⟩
        · have hpos : 0 < out.length := by cases out with | nil => exact absurd rfl c2 | cons a b => simp
          have t2 : ((out.length : Int) = 0) = False := eq_false (by omega)
          obtain ⟨a, ea'⟩ : ∃ a, a = out.getD (out.length - 1) 0 := ⟨_, rfl⟩
          have hab := hin a (by rw [ea']; exact getD_mem (by omega))
          have t3 : ((out.length : Int) - 1) = ((out.length - 1 : Nat) : Int) := by omega
          have al := adrI (i := ((out.length - 1 : Nat) : Int)) (by omega) iO (by omega)
          rw [Int.toNat_natCast] at al
          have ll := loadI iO (i := out.length - 1) (by omega)
          rw [← ea'] at ll
          have aa := adrI (i := a) (by omega) hIK (by omega)
          have la := loadI hIK (i := a.toNat) (by omega)
          have hnx := nxtB_at (o := o) (V := V) (left := ((m + 1 : Nat) : Int)) (p := (j : Int)) hpos
          rw [← ea', Int.toNat_natCast, hVj, decide_eq_true c1, Bool.true_and] at hnx
          by_cases c3 : (j : Int) > a
          · have t4 : ((j : Int) > a) = True := eq_true c3
            by_cases c4 : o.getD j 0 > o.getD a.toNat 0
            · have t5 : (o.getD j 0 > o.getD a.toNat 0) = True := eq_true c4
              obtain ⟨f1, f2⟩ := fin (by rw [hnx]; exact decide_eq_true ⟨c3, c4⟩)
              have hsp := @Nat.succ_ne_zero; repeat' (first | simp (disch := first | exact dschL4 | fail) only [go_sem, ↓reduceIte, hsp, r18, r4', d5, d0, d2, d3, d5, d16, d17, p0, p2, p3, hlt, lj, aj, lp, ap, t1, lO, t2, t3, al, ll, aa, la, t4, t5, ea] | refine WP_drw ?_ | refine cnd_intro (fun hsp => ?_) fun hsp => ?_)
              exact ⟨by (repeat first | exact Agree.refl | assumption | refine Agree.put rfl ?_ | refine Agree.put0 ?_ | refine Agree.sub rfl (by assumption) ?_), by rw [em2]; omega, f1, f2⟩
            · have t5 : (o.getD j 0 > o.getD a.toNat 0) = False := eq_false c4
              have s1 := skip (by rw [hnx]; exact decide_eq_false (fun q => c4 q.2))
              have hsp := @Nat.succ_ne_zero; repeat' (first | simp (disch := first | exact dschL4 | fail) only [go_sem, ↓reduceIte, hsp, r18, r4', d5, d0, d2, d3, d5, d16, d17, p0, p2, p3, hlt, lj, aj, lp, ap, t1, lO, t2, t3, al, ll, aa, la, t4, t5] | refine WP_drw ?_ | refine cnd_intro (fun hsp => ?_) fun hsp => ?_)
              exact ⟨by (repeat first | exact Agree.refl | assumption | refine Agree.put rfl ?_ | refine Agree.put0 ?_ | refine Agree.sub rfl (by assumption) ?_), by omega, s1⟩
          · have t4 : ((j : Int) > a) = False := eq_false c3
            have s1 := skip (by rw [hnx]; exact decide_eq_false (fun q => c3 q.1))
            have hsp := @Nat.succ_ne_zero; repeat' (first | simp (disch := first | exact dschL4 | fail) only [go_sem, ↓reduceIte, hsp, r18, r4', d5, d0, d2, d3, d5, d16, d17, p0, p2, p3, hlt, lj, aj, lp, ap, t1, lO, t2, t3, al, ll, aa, la, t4] | refine WP_drw ?_ | refine cnd_intro (fun hsp => ?_) fun hsp => ?_)
            exact ⟨by (repeat first | exact Agree.refl | assumption | refine Agree.put rfl ?_ | refine Agree.put0 ?_ | refine Agree.sub rfl (by assumption) ?_), by omega, s1⟩
      · have t1 : ((rsA o).getD j 0 = ((m + 1 : Nat) : Int)) = False := eq_false c1
        have s1 := skip (by unfold nxtB; rw [Int.toNat_natCast, hVj, decide_eq_false c1]; rfl)
        have hsp := @Nat.succ_ne_zero; repeat' (first | simp (disch := first | exact dschL4 | fail) only [go_sem, ↓reduceIte, hsp, r18, r4', d5, d0, d2, d3, d5, d16, d17, p0, p2, p3, hlt, lj, aj, lp, ap, t1] | refine WP_drw ?_ | refine cnd_intro (fun hsp => ?_) fun hsp => ?_)
        exact ⟨by (repeat first | exact Agree.refl | assumption | refine Agree.put rfl ?_ | refine Agree.put0 ?_ | refine Agree.sub rfl (by assumption) ?_), by omega, s1⟩
    · rintro fr2 K' hA2 ⟨r18, r4', eK, hno⟩
      subst eK
      have d0 := hA2 0 rfl
      have d2 := hA2 2 rfl
      have d3 := hA2 3 rfl
      have d5 := hA2 5 rfl
      have d16 := hA2 16 rfl
      have d17 := hA2 17 rfl
      try simp (disch := first | exact dschL4 | fail) only [go_sem, ↓reduceIte, p0, p2, p3] at d0 d2 d3 d5 d16 d17
      have d5 := hA2 5 rfl
      simp (disch := first | exact dschL4 | fail) only [go_sem, ↓reduceIte, r5] at d5
      have hlt : ((o.length : Int) < (o.length : Int)) = False := eq_false (by omega)
      have hsp := @Nat.succ_ne_zero; repeat' (first | simp (disch := first | exact dschL4 | fail) only [go_sem, ↓reduceIte, hsp, r18, r4', d5, d0, d2, d3, d5, d16, d17, p0, p2, p3, hlt] | refine WP_drw ?_ | refine cnd_intro (fun hsp => ?_) fun hsp => ?_)
      exact ⟨by (repeat first | exact Agree.refl | assumption | refine Agree.put rfl ?_ | refine Agree.put0 ?_ | refine Agree.sub rfl (by assumption) ?_), by rw [em2]; omega, xK, out, w, rfl, hO, hin, by omega, by rw [em2, hF, riseF_none hno]⟩
  · rintro fr K hA ⟨r5, xK, out, w, r4, hO, hin, hol, hF⟩
    have p0 := hA 0 rfl
    have p2 := hA 2 rfl
    have p3 := hA 3 rfl
    try simp (disch := first | exact dschL4 | fail) only [go_sem, ↓reduceIte] at p0 p2 p3
    rw [Nat.sub_self] at r5 hF
    rw [Int.natCast_zero] at r5
    have hw1 := hO.one
    have hgt : ((0 : Int) > 0) = False := eq_false (by omega)
    have hsp := @Nat.succ_ne_zero; repeat' (first | simp (disch := first | exact dschL4 | fail) only [go_sem, ↓reduceIte, hsp, r5, r4, p0, p2, p3, hgt] | refine WP_drw ?_ | refine cnd_intro (fun hsp => ?_) fun hsp => ?_)
    refine ⟨x1.trans xK, ?_⟩
    rw [hF, riseF]
    exact hO.low hl1
def risE (o : List Int) : List Int × Int := if aloL o = 0 then (riseL o, 0) else ([], aloL o)
theorem run_Rise {base : Nat} {h : Heap} {v : AVal} {o : List Int} (hb : base ≤ h.length) (hI : Ints h v o) :
    Ret prog raw base (.fn 23 [] []) [v] h (fun w H => Ext h H ∧ ∃ x, w = .tuple [x, .int .i64 (risE o).2] ∧ Own encI 3 h.length H x (risE o).1) := by
  have ha := fun base => run_alone (base := base) hI
  by_cases c : aloL o = 0
  · obtain ⟨c1, c2, c3⟩ := aloL_iff.1 c
    obtain ⟨w1, H1, e1, x1, o1⟩ := run_rise hb hI (by omega) (by omega)
    have ho1 := o1.one
    rw [c] at ha
    have r : risE o = (riseL o, 0) := by unfold risE; rw [if_pos c]
    rw [r]
    have hl1 := x1.len
    refine ret_raw func23 rfl (by kernel_rfl) ?_
    have hsp := @Nat.succ_ne_zero; repeat' (first | simp (disch := first | exact dschL4 | fail) only [go_sem, ↓reduceIte, hsp, ha, eq_self, e1] | refine WP_drw ?_ | refine cnd_intro (fun hsp => ?_) fun hsp => ?_)
    exact ⟨x1, _, rfl, o1⟩
  · have t1 : (aloL o = 0) = False := eq_false c
    have r : risE o = ([], aloL o) := by unfold risE; rw [if_neg c]
    rw [r]
    refine ret_raw func23 rfl (by kernel_rfl) ?_
    have hsp := @Nat.succ_ne_zero; repeat' (first | simp (disch := first | exact dschL4 | fail) only [go_sem, ↓reduceIte, hsp, ha, t1] | refine WP_drw ?_ | refine cnd_intro (fun hsp => ?_) fun hsp => ?_)
    exact ⟨.refl, _, rfl, Own.nil⟩
end Go.AM
/-
  Contracts: lists of integers that rise.
-/
namespace Go.AM
open Go.Proofs.Try
theorem dschK4 {p : Prop} (h : p := by first | exact Nat.ne_of_beq_eq_false rfl | assumption | (apply asOne; (first | exact One.int | exact One.bool | assumption | exact Ints.one (by assumption) | exact Rows.one (by assumption) | exact Own.one (by assumption) | exact One.lit ⟨rfl, rfl, rfl⟩)) | (apply asInts; (repeat first | assumption | exact ints_nil | apply Ints.app); done) | (apply asRows; (repeat first | assumption | exact Rows.nil | apply Rows.app); done) | (apply asScal; (first | apply allS1 | apply allS2 | apply allS3 | apply allS4) <;> (first | exact One.int | exact One.bool | assumption | exact Ints.one (by assumption) | exact Rows.one (by assumption) | exact Own.one (by assumption) | exact One.lit ⟨rfl, rfl, rfl⟩)) | exact litT rfl | exact litF rfl | omega | (simp only [List.length_append, List.length_cons, List.length_nil, List.length_set, List.length_reverse]; first | done | omega) | fail) : p := h
def sortB (l : List Int) : Bool := decide (∀ i, i < l.length → 0 < i → l.getD (i - 1) 0 ≤ l.getD i 0)
theorem run_sorted {base : Nat} {h : Heap} {v : AVal} {l : List Int} (hI : Ints h v l) : callL prog raw base (.fn 51 [] []) [v] h = some (.bool (sortB l), h) := by
  have hl := hI.1.1
  refine callL_run func51 rfl rfl ?_
  have hsp := @Nat.succ_ne_zero; repeat' (first | simp (disch := first | exact dschK4 | fail) only [go_sem, hsp] | refine WP_drw ?_ | refine cnd_intro (fun hsp => ?_) fun hsp => ?_)
  refine WP_loop (fun σ => ∃ c : Int, σ.fr 3 = .int .i64 c ∧ σ.fr 0 = v ∧ σ.h = h ∧ -1 ≤ c ∧ c < l.length ∧ ∀ i : Nat, c < i → i < l.length → l.getD (i - 1) 0 ≤ l.getD i 0) (fun σ => match σ.fr 3 with | .int _ x => (x + 1).toNat | _ => 0) ?_ ?_
  · refine ⟨(l.length : Int) - 1, ?_, ?_, rfl, by omega, by omega, fun i h1 h2 => by omega⟩
    · simp (disch := first | exact dschK4 | fail) only [go_sem]
    · simp (disch := first | exact dschK4 | fail) only [go_sem]
  · rintro ⟨fr, hp⟩ ⟨c, r3, r0, rh, hc1, hc2, hP⟩
    dsimp only at r3 r0 rh
    subst rh
    by_cases hc : c > 0
    · have hlt : (c > 0) = True := eq_true hc
      obtain ⟨n, rfl⟩ := Int.eq_ofNat_of_zero_le (show 0 ≤ c by omega)
      have e1 : ((n : Int) - 1).toNat = n - 1 := by omega
      by_cases hs : l.getD n 0 < l.getD (n - 1) 0
      · have t2 : (l.getD n 0 < l.getD (n - 1) 0) = True := eq_true hs
        have hsp := @Nat.succ_ne_zero; repeat' (first | simp (disch := first | exact dschK4 | fail) only [go_sem, hsp, r3, r0, hlt, e1, t2] | refine WP_drw ?_ | refine cnd_intro (fun hsp => ?_) fun hsp => ?_)
        refine fB (decide_eq_false fun hh => ?_).symm
        have := hh n (by omega) (by omega)
        omega
      · have t2 : (l.getD n 0 < l.getD (n - 1) 0) = False := eq_false hs
        have hsp := @Nat.succ_ne_zero; repeat' (first | simp (disch := first | exact dschK4 | fail) only [go_sem, hsp, r3, r0, hlt, e1, t2] | refine WP_drw ?_ | refine cnd_intro (fun hsp => ?_) fun hsp => ?_)
        refine ⟨⟨(n : Int) - 1, rfl, by omega, by omega, fun i h1 h2 => ?_⟩, by omega⟩
        by_cases e : i = n
        · subst e; omega
        · exact hP i (by omega) h2
    · have hlt : (c > 0) = False := eq_false hc
      have hsp := @Nat.succ_ne_zero; repeat' (first | simp (disch := first | exact dschK4 | fail) only [go_sem, hsp, r3, r0, hlt] | refine WP_drw ?_ | refine cnd_intro (fun hsp => ?_) fun hsp => ?_)
      exact fB (decide_eq_true fun i h1 h2 => hP i (by omega) h1).symm
attribute [go_sem] run_sorted
end Go.AM
/-
  Contracts: lists of integers whose equal neighbours are put together.
-/
namespace Go.AM
open Go.Proofs.Try
theorem sl_from {id ver o n k : Nat} {lo : Int} (h0 : 0 ≤ lo) (h1 : lo ≤ n) (h2 : n ≤ k) : sliceA prog 25 (.slice (some ⟨id, ver, o⟩) n k) (some (.int .i64 lo)) none none = some (.slice (some ⟨id, ver, o + lo.toNat⟩) (n - lo.toNat) (k - lo.toNat)) := by
  have e1 : lo ≤ (n : Int) := h1
  simp [sliceA, Fc.ar25, Fc.el25, optB, boundA, ARef.add, h0, e1]
theorem sl_to {id ver o n k : Nat} {hi : Int} (h0 : 0 ≤ hi) (h1 : hi ≤ k) : sliceA prog 25 (.slice (some ⟨id, ver, o⟩) n k) none (some (.int .i64 hi)) none = some (.slice (some ⟨id, ver, o⟩) hi.toNat k) := by
  have e1 : hi ≤ (k : Int) := h1
  simp [sliceA, Fc.ar25, Fc.el25, optB, boundA, ARef.add, h0, e1]
def nodup (l : List Int) : Prop := ∀ i, i < l.length → 0 < i → l.getD i 0 ≠ l.getD (i - 1) 0
/-- Strictly increasing. -/
def riseB (l : List Int) : Bool := decide (∀ i, i < l.length → 0 < i → l.getD (i - 1) 0 < l.getD i 0)
end Go.AM
/-
  Contracts: moves.
-/
namespace Go.AM
open Go.Proofs.Try
theorem dschL5 {p : Prop} (h : p := by first | exact Nat.ne_of_beq_eq_false rfl | assumption | (apply asOne; (first | exact One.int | exact One.bool | assumption | exact Ints.one (by assumption) | exact Rows.one (by assumption) | exact Own.one (by assumption) | exact One.lit ⟨rfl, rfl, rfl⟩)) | (apply asInts; (repeat first | assumption | exact ints_nil | apply Ints.app); done) | (apply asRows; (repeat first | assumption | exact Rows.nil | apply Rows.app); done) | (apply asScal; (first | apply allS1 | apply allS2 | apply allS3 | apply allS4) <;> (first | exact One.int | exact One.bool | assumption | exact Ints.one (by assumption) | exact Rows.one (by assumption) | exact Own.one (by assumption) | exact One.lit ⟨rfl, rfl, rfl⟩)) | exact litT rfl | exact litF rfl | omega | (simp only [List.length_append, List.length_cons, List.length_nil, List.length_set, List.length_reverse]; first | done | omega) | fail) : p := h
attribute [-go_sem] put_ne put_same
attribute [local go_sem ↓] put_if
section
variable {base id ver : Nat} {h : Heap} {m : List Int}
abbrev iB (m : List Int) (ver : Nat) : ABlk := srB m 3 ver
theorem stI {o : Nat} {z : List Int} (hg : h[id]? = some (iB m ver)) (hb : base ≤ id) (ho : o + z.length ≤ m.length) : storeN base h ⟨id, ver, o⟩ (ints z) = some (h.set id (iB (m.take o ++ z ++ m.drop (o + z.length)) ver)) := by
  have e : ints m = ints (m.take o) ++ ints ((m.drop o).take z.length) ++ ints (m.drop (o + z.length)) := by
    rw [ints_app, ints_app]
    congr 1
    rw [List.append_assoc, ← List.drop_drop, List.take_append_drop, List.take_append_drop]
  have h1 := splice_mid (ints z) (ints (m.take o)) (ints ((m.drop o).take z.length)) (ints (m.drop (o + z.length))) (by simp [ints]; omega)
  rw [← e, ints_app, ints_app, show (ints (m.take o)).length = o by simp [ints]; omega] at h1
  unfold storeN
  simp only [hg]
  rw [if_pos ⟨trivial, by simp only [ints_length]; omega, ints_scalar _, .inl hb⟩, h1]
theorem ldI {o n a b : Nat} (hg : h[id]? = some (iB m ver)) (ho : o + n ≤ m.length) : firstN h 1 n (.slice (some ⟨id, ver, o⟩) a b) = some (ints ((m.drop o).take n)) := by
  simp only [firstN, loadN, cellsAt, hg, Nat.mul_one, if_true]
  rw [if_pos (by simp only [ints_length]; omega)]
  simp [ints, List.map_take, List.map_drop]
theorem sl_two {o n k : Nat} {lo hi : Int} (h0 : 0 ≤ lo) (h1 : lo ≤ hi) (h2 : hi ≤ k) : sliceA prog 25 (.slice (some ⟨id, ver, o⟩) n k) (some (.int .i64 lo)) (some (.int .i64 hi)) none = some (.slice (some ⟨id, ver, o + lo.toNat⟩) (hi.toNat - lo.toNat) (k - lo.toNat)) := by
  simp only [sliceA, Fc.ar25, Fc.el25, optB, boundI (show 0 ≤ hi by omega) h2, boundI h0 (show lo ≤ (hi.toNat : Int) by omega)]
  simp [ARef.add]
theorem sl_three {o n k : Nat} {lo hi mx : Int} (h0 : 0 ≤ lo) (h1 : lo ≤ hi) (h2 : hi ≤ mx) (h3 : mx ≤ k) : ∃ v, sliceA prog 25 (.slice (some ⟨id, ver, o⟩) n k) (some (.int .i64 lo)) (some (.int .i64 hi)) (some (.int .i64 mx)) = some v := by
  simp only [sliceA, Fc.ar25, Fc.el25, optB, boundI (show 0 ≤ mx by omega) h3, boundI (show 0 ≤ hi by omega) (show hi ≤ (mx.toNat : Int) by omega), boundI h0 (show lo ≤ (hi.toNat : Int) by omega)]
  exact ⟨_, rfl⟩
theorem er_take {l : List Int} {i : Nat} : l.eraseIdx i = l.take i ++ l.drop (i + 1) := List.eraseIdx_eq_take_drop_succ l i
/-- slices.Delete, of one element. -/
theorem run_delete {l : List Int} {i : Nat} (hg : h[id]? = some (iB l ver)) (hb : base ≤ id) (hi : i < l.length) (hl : l.length ≤ 1000) :
    Ret prog raw base (.fn 136 [] []) [.slice (some ⟨id, ver, 0⟩) l.length l.length, .int .i64 (i : Int), .int .i64 ((i : Int) + 1)] h (fun w H => w = .slice (some ⟨id, ver, 0⟩) (l.length - 1) l.length ∧ H = h.set id (iB (l.eraseIdx i ++ [0]) ver)) := by
  obtain ⟨n, en⟩ : ∃ n, l.length = n := ⟨_, rfl⟩
  rw [en] at hi hl ⊢
  have hid := lt_of_get hg
  obtain ⟨v3, e3⟩ := sl_three (id := id) (ver := ver) (o := 0) (n := n) (k := n) (lo := (i : Int)) (hi := (i : Int) + 1) (mx := (n : Int)) (by omega) (by omega) (by omega) (by omega)
  have t1 : ((i : Int) = (i : Int) + 1) = False := eq_false (by omega)
  have s1 := sl_to (id := id) (ver := ver) (o := 0) (n := n) (k := n) (hi := (i : Int)) (by omega) (by omega)
  have s2 := sl_from (id := id) (ver := ver) (o := 0) (n := n) (k := n) (lo := (i : Int) + 1) (by omega) (by omega) (by omega)
  rw [Int.toNat_natCast] at s1
  rw [show ((i : Int) + 1).toNat = i + 1 by omega, Nat.zero_add] at s2
  obtain ⟨m, em⟩ : ∃ m, m = l.eraseIdx i ++ l.drop (n - 1) := ⟨_, rfl⟩
  have hel : (l.eraseIdx i).length = n - 1 := by rw [List.length_eraseIdx, if_pos (by omega)]; omega
  have hml : m.length = n := by rw [em, List.length_append, hel, List.length_drop]; omega
  have hap : appendA prog base h 25 (.slice (some ⟨id, ver, 0⟩) i n) (.slice (some ⟨id, ver, i + 1⟩) (n - (i + 1)) (n - (i + 1))) = some (.slice (some ⟨id, ver, 0⟩) (n - 1) n, h.set id (iB m ver)) := by
    simp only [appendA, Fc.el25, lenA, ldI (o := i + 1) (n := n - (i + 1)) hg (by omega), ints_scalar, if_true]
    rw [if_pos (by omega)]
    have : (ARef.mk id ver 0).add (i * 1) = ⟨id, ver, i⟩ := by simp [ARef.add]
    rw [this, List.take_of_length_le (by simp; omega), stI hg hb (by simp; omega)]
    simp only [List.length_drop, en]
    rw [show i + (n - (i + 1)) = n - 1 by omega, ← er_take, em]
  obtain ⟨G, eG⟩ : ∃ G, G = h.set id (iB m ver) := ⟨_, rfl⟩
  rw [← eG] at hap
  have gG : G[id]? = some (iB m ver) := by rw [eG, List.getElem?_set_self hid]
  have s3 := sl_two (id := id) (ver := ver) (o := 0) (n := n - 1) (k := n) (lo := ((n - 1 : Nat) : Int)) (hi := (n : Int)) (by omega) (by omega) (by omega)
  rw [Int.toNat_natCast, Int.toNat_natCast, Nat.zero_add, show n - (n - 1) = 1 by omega] at s3
  have hcl : clearA prog base G 25 (.slice (some ⟨id, ver, n - 1⟩) 1 1) = some (.tuple [], G.set id (iB (l.eraseIdx i ++ [0]) ver)) := by
    have hs := stI (z := [0]) (o := n - 1) gG hb (by simp; omega)
    have hr : repCells [AVal.int .i64 0] (0 + 1) = ints [0] := rfl
    have e : m.take (n - 1) ++ [0] ++ m.drop (n - 1 + [(0 : Int)].length) = l.eraseIdx i ++ [0] := by
      rw [em, List.take_left' hel, List.drop_of_length_le (by simp [hel]; omega), List.append_nil]
    rw [e] at hs
    simp only [clearA, Fc.el25, hr, hs]
  refine ret_raw func136 rfl (by kernel_rfl) ?_
  have hsp := @Nat.succ_ne_zero; repeat' (first | simp (disch := first | exact dschL5 | fail) only [go_sem, ↓reduceIte, hsp, e3, t1, s1, s2, hap, s3, hcl] | refine WP_drw ?_ | refine cnd_intro (fun hsp => ?_) fun hsp => ?_)
  rw [eG, List.set_set]
/-- slices.Insert, of one element, where there is room for it. -/
theorem run_insert {id2 : Nat} {r : List Int} {t : Nat} {x z : Int} (hg : h[id]? = some (iB (r ++ [z]) ver)) (hg2 : h[id2]? = some (rowB [x] 0)) (hne : id2 ≠ id) (hb : base ≤ id) (ht : t ≤ r.length) (hl : r.length ≤ 1000) :
    Ret prog raw base (.fn 140 [] []) [.slice (some ⟨id, ver, 0⟩) r.length (r.length + 1), .int .i64 (t : Int), .slice (some ⟨id2, 0, 0⟩) 1 1] h (fun w H => w = .slice (some ⟨id, ver, 0⟩) (r.length + 1) (r.length + 1) ∧ H = h.set id (iB (r.insertIdx t x) ver)) := by
  obtain ⟨k, ek⟩ : ∃ k, r.length = k := ⟨_, rfl⟩
  rw [ek] at ht hl ⊢
  have hid := lt_of_get hg
  have s1 := sl_from (id := id) (ver := ver) (o := 0) (n := k) (k := k + 1) (lo := (t : Int)) (by omega) (by omega) (by omega)
  rw [Int.toNat_natCast, Nat.zero_add] at s1
  have hI2 : Ints h (.slice (some ⟨id2, 0, 0⟩) 1 1) [x] → True := fun _ => trivial
  have n1 : ∀ {H : Heap}, lenOpA prog H 25 (.slice (some ⟨id2, 0, 0⟩) 1 1) = some (.int .i64 1) := fun {H} => by simp [lenOpA, Fc.el25, lenA]
  have n2 : ∀ {H : Heap} {q : Nat}, lenOpA prog H 25 (.slice (some ⟨id, ver, 0⟩) k q) = some (.int .i64 (k : Int)) := fun {H q} => by simp [lenOpA, Fc.el25, lenA]
  have t0 : ((1 : Int) = 0) = False := eq_false (by omega)
  have l2 : ∀ {H : Heap}, H[id2]? = some (rowB [x] 0) → firstN H 1 1 (.slice (some ⟨id2, 0, 0⟩) 1 1) = some (ints [x]) := fun {H} hg => by
    have := ldI (h := H) (id := id2) (ver := 0) (m := [x]) (o := 0) (n := 1) (a := 1) (b := 1) hg (by simp)
    simpa using this
  by_cases c : t = k
  · have t1 : ((t : Int) = (k : Int)) = True := eq_true (by omega)
    have hap : appendA prog base h 25 (.slice (some ⟨id, ver, 0⟩) k (k + 1)) (.slice (some ⟨id2, 0, 0⟩) 1 1) = some (.slice (some ⟨id, ver, 0⟩) (k + 1) (k + 1), h.set id (iB (r.insertIdx t x) ver)) := by
      simp only [appendA, Fc.el25, lenA, l2 hg2, ints_scalar, if_true]
      rw [if_pos (by omega)]
      have : (ARef.mk id ver 0).add (k * 1) = ⟨id, ver, k⟩ := by simp [ARef.add]
      rw [this, stI hg hb (by simp; omega)]
      simp only
      rw [List.take_left' ek, List.drop_of_length_le (by simp; omega), List.append_nil, c, ← ek, List.insertIdx_length_self]
    refine ret_raw func140 rfl (by kernel_rfl) ?_
    have hsp := @Nat.succ_ne_zero; repeat' (first | simp (disch := first | exact dschL5 | fail) only [go_sem, ↓reduceIte, hsp, s1, n1, n2, t0, t1, hap] | refine WP_drw ?_ | refine cnd_intro (fun hsp => ?_) fun hsp => ?_)
  · have t1 : ((t : Int) = (k : Int)) = False := eq_false (by omega)
    have hcp := fun m => cap_slice (P := prog) Fc.el25 (r := some ⟨id, ver, 0⟩) (m := m) (k := k + 1)
    have hkk : ((k : Int) + 1) = ((k + 1 : Nat) : Int) := by omega
    have htt : ((t : Int) + 1) = ((t + 1 : Nat) : Int) := by omega
    have hroom : binA prog .gtr 3 (.int .i64 ((k + 1 : Nat) : Int)) (.atl (k + 1)) = some (.bool false) := bin_room (by omega)
    have s2 := sl_to (id := id) (ver := ver) (o := 0) (n := k) (k := k + 1) (hi := ((k + 1 : Nat) : Int)) (by omega) (by omega)
    have s3 := sl_from (id := id) (ver := ver) (o := 0) (n := k + 1) (k := k + 1) (lo := ((t + 1 : Nat) : Int)) (by omega) (by omega) (by omega)
    have s4 := sl_from (id := id) (ver := ver) (o := 0) (n := k + 1) (k := k + 1) (lo := (t : Int)) (by omega) (by omega) (by omega)
    rw [Int.toNat_natCast] at s2
    rw [Int.toNat_natCast, Nat.zero_add] at s3 s4
    obtain ⟨inf, einf⟩ := Option.isSome_iff_exists.1 (show (prog.info? 3).isSome = true by kernel_rfl)
    have hov : callL prog raw base (.fn 166 [] []) [.slice (some ⟨id2, 0, 0⟩) 1 1, .slice (some ⟨id, ver, t + 1⟩) (k + 1 - (t + 1)) (k + 1 - (t + 1))] h = some (.bool false, h) :=
      callL_ovl (fn := f166) (by kernel_rfl) (by kernel_rfl) ⟨by kernel_rfl, by kernel_rfl, 25, 4, 3, inf, by kernel_rfl, by kernel_rfl, einf⟩ hne (by omega) (by omega) (offOk_of hg2 (by simp [ints])) (offOk_of hg (by simp [ints]; omega))
    obtain ⟨m, em⟩ : ∃ m, m = r.take (t + 1) ++ r.drop t := ⟨_, rfl⟩
    have hml : m.length = k + 1 := by rw [em]; simp; omega
    have hc1 : copyA prog base h 25 (.slice (some ⟨id, ver, t + 1⟩) (k + 1 - (t + 1)) (k + 1 - (t + 1))) (.slice (some ⟨id, ver, t⟩) (k + 1 - t) (k + 1 - t)) = some (.int .i64 ((k - t : Nat) : Int), h.set id (iB m ver)) := by
      have hmin : min (k + 1 - t) (k + 1 - (t + 1)) = k - t := by omega
      have hd : ((r ++ [z]).drop t).take (k - t) = r.drop t := by
        rw [List.drop_append_of_le_length (by omega), List.take_left' (by simp; omega)]
      have e : (r ++ [z]).take (t + 1) ++ r.drop t ++ (r ++ [z]).drop (t + 1 + (r.drop t).length) = m := by
        rw [List.take_append_of_le_length (by omega), List.drop_of_length_le (i := t + 1 + (r.drop t).length) (by simp; omega), List.append_nil, em]
      simp only [copyA, Fc.el25, lenA, hmin, ldI (o := t) (n := k - t) hg (by simp; omega), hd, stI (o := t + 1) (z := r.drop t) hg hb (by simp; omega), e]
    obtain ⟨G, eG⟩ : ∃ G, G = h.set id (iB m ver) := ⟨_, rfl⟩
    rw [← eG] at hc1
    have gG : G[id]? = some (iB m ver) := by rw [eG, List.getElem?_set_self hid]
    have g2 : G[id2]? = some (rowB [x] 0) := by rw [eG, List.getElem?_set_ne (by omega)]; exact hg2
    have hc2 : copyA prog base G 25 (.slice (some ⟨id, ver, t⟩) (k + 1 - t) (k + 1 - t)) (.slice (some ⟨id2, 0, 0⟩) 1 1) = some (.int .i64 ((1 : Nat) : Int), G.set id (iB (r.insertIdx t x) ver)) := by
      have hmin : min 1 (k + 1 - t) = 1 := by omega
      have e : m.take t ++ [x] ++ m.drop (t + [x].length) = r.insertIdx t x := by
        rw [ins_eq (by omega), em, List.take_append_of_le_length (by simp; omega), List.take_take, Nat.min_eq_left (by omega), show t + [x].length = (r.take (t + 1)).length by simp; omega, List.drop_left]
        simp
      simp only [copyA, Fc.el25, lenA, hmin, l2 g2, stI (o := t) (z := [x]) gG hb (by simp; omega), e]
    refine ret_raw func140 rfl (by kernel_rfl) ?_
    have hsp := @Nat.succ_ne_zero; repeat' (first | simp (disch := first | exact dschL5 | fail) only [go_sem, ↓reduceIte, hsp, s1, n1, n2, t0, t1, hcp, hkk, htt, hroom, s2, s3, s4, hov, hc1, hc2] | refine WP_drw ?_ | refine cnd_intro (fun hsp => ?_) fun hsp => ?_)
    rw [eG, List.set_set]
end
end Go.AM
/-
  Contracts: what moves make of an order.
-/
namespace Go.AM
open Go.Proofs.Try
theorem dschL6 {p : Prop} (h : p := by first | exact Nat.ne_of_beq_eq_false rfl | assumption | (apply asOne; (first | exact One.int | exact One.bool | assumption | exact Ints.one (by assumption) | exact Rows.one (by assumption) | exact Own.one (by assumption) | exact One.lit ⟨rfl, rfl, rfl⟩)) | (apply asInts; (repeat first | assumption | exact ints_nil | apply Ints.app); done) | (apply asRows; (repeat first | assumption | exact Rows.nil | apply Rows.app); done) | (apply asScal; (first | apply allS1 | apply allS2 | apply allS3 | apply allS4) <;> (first | exact One.int | exact One.bool | assumption | exact Ints.one (by assumption) | exact Rows.one (by assumption) | exact Own.one (by assumption) | exact One.lit ⟨rfl, rfl, rfl⟩)) | exact litT rfl | exact litF rfl | omega | (simp only [List.length_append, List.length_cons, List.length_nil, List.length_set, List.length_reverse]; first | done | omega) | fail) : p := h
attribute [-go_sem] put_ne put_same
attribute [local go_sem ↓] put_if
theorem OwnE.pos {α : Type} {E : Enc α} {e b : Nat} {H : Heap} {v : AVal} {l : List α} (x : OwnE E e b H v l) (h : 0 < l.length) : ∃ id ver, v = .slice (some ⟨id, ver, 0⟩) l.length l.length ∧ H[id]? = some (rowE E e l ver) ∧ b ≤ id := by
  rcases x with (⟨_, rfl⟩ | ⟨id, ver, h1, h2, h3, _⟩) | ⟨_, rfl⟩
  · simp at h
  · exact ⟨id, ver, h1, h2, h3⟩
  · simp at h
theorem rowE_iB {l : List Int} {ver : Nat} : rowE encI 3 l ver = iB l ver := by rw [rowE, flat_encI]
abbrev mvB (f t : Int) : ABlk := ⟨.cells [.int .i64 f, .int .i64 t] 36 false false, 0⟩
theorem stL6 {base : Nat} {l : List Oper} {s : St} {Q : AExit → St → Prop} : WP prog raw base (.region 2 l.toArray true) s Q = WPS prog raw base (.region 2 l.toArray true) s Q := WP_stop
attribute [local go_sem ↓ 3000] stL6
set_option maxHeartbeats 2000000 in
theorem run_made {base : Nat} {h : Heap} {v : AVal} {o : List Int} {f t : Nat} (hb : base ≤ h.length) (hI : Ints h v o) (hl : o.length ≤ 1000) (hf : f < o.length) (ht : t < o.length) :
    Ret prog raw base (.fn 94 [] []) [v, .agg [.int .i64 (f : Int), .int .i64 (t : Int)]] h (fun w H => Ext h H ∧ Own encI 3 h.length H w (mvL o f t)) := by
  have hv1 := hI.one
  obtain ⟨G, eG⟩ : ∃ G, G = h ++ [mvB f t] := ⟨_, rfl⟩
  have xG : Ext h G := by rw [eG]; exact .app .refl
  have gm : G[h.length]? = some (mvB f t) := by rw [eG]; exact get_eq rfl
  have hGl : G.length = h.length + 1 := by rw [eG]; simp
  have hIG := hI.ext xG
  have lf := loadI hIG hf
  have af := adrI (i := (f : Int)) (by omega) hIG (by omega)
  rw [Int.toNat_natCast] at af
  obtain ⟨v1, H1, e1, x1, o1⟩ := run_cloneE (base := base) hIG (small_ints hI (by omega))
  obtain ⟨id, ver, rfl, g1, hid⟩ := o1.pos (by omega)
  rw [rowE_iB] at g1
  have hl1 := x1.len
  have hidl := lt_of_get g1
  obtain ⟨w2, H2, e2, rfl, eH2⟩ := run_delete (base := base) (i := f) g1 (by omega) hf hl
  have hH2l : H2.length = H1.length := by rw [eH2, List.length_set]
  have g2 : H2[id]? = some (iB (o.eraseIdx f ++ [0]) ver) := by rw [eH2, List.getElem?_set_self hidl]
  obtain ⟨k, ek⟩ : ∃ k, k = o.getD f 0 := ⟨_, rfl⟩
  rw [← ek] at lf
  obtain ⟨H3, eH3⟩ : ∃ H3, H3 = H2 ++ [rowB [k] 0] := ⟨_, rfl⟩
  have x3 : Ext H2 H3 := by rw [eH3]; exact .app .refl
  have g3 : H3[H2.length]? = some (rowB [k] 0) := by rw [eH3]; exact get_eq rfl
  have hel : (o.eraseIdx f).length = o.length - 1 := by rw [List.length_eraseIdx, if_pos hf]
  obtain ⟨w4, H4, e4, rfl, eH4⟩ := run_insert (base := base) (t := t) (x := k) (x3.get g2) g3 (by omega) (by omega) (by omega) (by omega)
  rw [hel, show o.length - 1 + 1 = o.length by omega] at e4
  have hsm : 0 ≤ k ∨ k < 0 := by omega
  have gm1 := x1.get gm
  have gm2 : H2[h.length]? = some (mvB f t) := by rw [eH2, List.getElem?_set_ne (by omega)]; exact gm1
  have gm3 := x3.get gm2
  have gm4 : H4[h.length]? = some (mvB f t) := by rw [eH4, List.getElem?_set_ne (by omega)]; exact gm3
  unfold mvB at eG gm gm1 gm2 gm3 gm4
  refine ret_raw func94 rfl (by kernel_rfl) ?_
  have hsp := @Nat.succ_ne_zero; repeat' (first | simp (disch := first | exact dschL6 | fail) only [go_sem, ↓reduceIte, hsp, ← eG, gm, af, lf] | refine WP_drw ?_ | refine cnd_intro (fun hsp => ?_) fun hsp => ?_)
  refine WPS_go ?_
  refine WP_wild [⟨3, 3, 13, ⟨h.length, 0, 0⟩, .int .i64 (f : Int), 7⟩, ⟨5, 3, 15, ⟨h.length, 0, 0⟩, .int .i64 (f : Int), 7⟩, ⟨9, 3, 19, ⟨h.length, 0, 1⟩, .int .i64 (t : Int), 12⟩] (by kernel_rfl) (by kernel_rfl) (by kernel_rfl) ⟨refsLow_int, refsLow_int, refsLow_int, trivial⟩ fun K hK => ?_
  iterate 14
    rw [TRS_cons]
    refine ⟨by first | (simp (disch := first | exact dschL6 | fail) only [go_sem, ↓reduceIte, gm, gm1, gm2, gm3, gm4, e1, e2, ← eH3, e4, ldsQ_cons, ldsQ_nil, grdQ_cons, grdQ_nil, if_true, Nat.reduceLeDiff]; done) | exact trivial, ?_⟩
    simp (disch := first | exact dschL6 | fail) only [go_sem, ↓reduceIte, gm, gm1, gm2, gm3, gm4, e1, e2, ← eH3, e4]
  rw [TRS_nil]
  refine ⟨by first | (simp (disch := first | exact dschL6 | fail) only [go_sem, ↓reduceIte, gm, gm1, gm2, gm3, gm4, e1, e2, ← eH3, e4, ldsQ_cons, ldsQ_nil, grdQ_cons, grdQ_nil, if_true, Nat.reduceLeDiff]; done) | exact trivial, ?_⟩
  subst hK
  have hsp := @Nat.succ_ne_zero; repeat' (first | simp (disch := first | exact dschL6 | fail) only [go_sem, ↓reduceIte, hsp] | refine WP_drw ?_ | refine cnd_intro (fun hsp => ?_) fun hsp => ?_)
  have xh : Ext h H4 := by
    rw [eH4]
    refine Ext.set (Ext.trans ?_ x3) (by omega)
    rw [eH2]
    exact (xG.trans x1).set (by omega)
  refine ⟨xh, .inr ⟨id, ver, ?_, ?_, by omega, by rw [mvL_len hf ht]; omega⟩⟩
  · rw [mvL_len hf ht]
  · rw [eH4, List.getElem?_set_self (by have := x3.len; omega), rowE_iB, mvL, ← ek]
end Go.AM
/-
  Contracts: as few moves as can be (Mend).
-/
namespace Go.AM
open Go.Proofs.Try
theorem dschL25 {p : Prop} (h : p := by first | exact Nat.ne_of_beq_eq_false rfl | assumption | (apply asOne; (first | exact One.int | exact One.bool | assumption | exact Ints.one (by assumption) | exact Rows.one (by assumption) | exact Own.one (by assumption) | exact One.lit ⟨rfl, rfl, rfl⟩)) | (apply asInts; (repeat first | assumption | exact ints_nil | apply Ints.app); done) | (apply asRows; (repeat first | assumption | exact Rows.nil | apply Rows.app); done) | (apply asScal; (first | apply allS1 | apply allS2 | apply allS3 | apply allS4) <;> (first | exact One.int | exact One.bool | assumption | exact Ints.one (by assumption) | exact Rows.one (by assumption) | exact Own.one (by assumption) | exact One.lit ⟨rfl, rfl, rfl⟩)) | exact litT rfl | exact litF rfl | omega | (simp only [List.length_append, List.length_cons, List.length_nil, List.length_set, List.length_reverse]; first | done | omega) | fail) : p := h
attribute [-go_sem] put_ne put_same
attribute [local go_sem ↓] put_if
theorem asun_ne {α β : Type} {E : Enc α} {E2 : Enc β} {e e2 b b2 : Nat} {H : Heap} {v w : AVal} {l : List α} {m : List β} (x : Own E e b H v l) (y : Own E2 e2 b2 H w m) (hne : e ≠ e2) : Asun v w := by
  intro r n c s k d q1 q2 q3
  rcases x with ⟨x1, _⟩ | ⟨i1, v1, x1, g1, _⟩
  · rw [x1] at q1; cases q1
  · rcases y with ⟨y1, _⟩ | ⟨i2, v2, y1, g2, _⟩
    · rw [y1] at q2; cases q2
    · rw [x1] at q1
      rw [y1] at q2
      cases q1
      cases q2
      have q3 : i1 = i2 := q3
      subst q3
      rw [g1] at g2
      simp [rowE] at g2
      exact hne g2.1.2
theorem asun_lt {α β : Type} {E : Enc α} {E2 : Enc β} {e e2 b b2 : Nat} {H H2 : Heap} {v w : AVal} {l : List α} {m : List β} (x : Own E e b H v l) (y : Own E2 e2 b2 H2 w m) (h : H.length ≤ b2) : Asun v w := by
  intro r n c s k d q1 q2 q3
  rcases x with ⟨x1, _⟩ | ⟨i1, v1, x1, g1, _⟩
  · rw [x1] at q1; cases q1
  · rcases y with ⟨y1, _⟩ | ⟨i2, v2, y1, g2, hb, _⟩
    · rw [y1] at q2; cases q2
    · rw [x1] at q1
      rw [y1] at q2
      cases q1
      cases q2
      have q3 : i1 = i2 := q3
      have := lt_of_get g1
      omega
theorem bsM1 {lit : Bool} {H : Heap} {a b : Int} : bsA prog lit H 33 1 [(0, .agg [.int .i64 a, .int .i64 b])] = some (.slice (some ⟨H.length, 0, 0⟩) 1 1, H ++ [rowE encM 36 [(a, b)] 0]) := by
  simp [bsA, rowOf, Fc.el33, fillA, repCells, AVal.isN, AVal.cells, splice, rowE, flat, encM]
/-- A row without its last cell. -/
theorem part_ints {id ver : Nat} {H : Heap} {l : List Int} {z : Int} (hg : H[id]? = some (iB (l ++ [z]) ver)) (hs : Small l) : Ints H (.slice (some ⟨id, ver, 0⟩) l.length (l.length + 1)) l := by
  refine ⟨⟨by have := hs.1; omega, hs.2⟩, .inr (.inr ⟨⟨id, ver, 0⟩, l.length + 1, ints (l ++ [z]), 3, true, false, rfl, hg, ?_, ?_, by omega⟩)⟩
  · rw [List.drop_zero, ← ints_app, List.take_left' (by simp [ints])]
  · simp [ints]
theorem getD_app1 {l m : List Int} {j : Nat} (h : j < l.length) : (l ++ m).getD j 0 = l.getD j 0 := by
  rw [List.getD_eq_getElem?_getD, List.getElem?_append_left h, ← List.getD_eq_getElem?_getD]
def mndE (o : List Int) : List (Int × Int) × Int := if aloL o = 0 then (mndL o, 0) else ([], aloL o)
theorem mndN_succ {s : MndS} {k : Nat} : mndN s (k + 1) = mndS (mndN s k) (k : Int) := rfl
set_option maxRecDepth 100000 in
set_option maxHeartbeats 8000000 in
theorem run_Mend {base : Nat} {h : Heap} {v : AVal} {o : List Int} (hb : base ≤ h.length) (hI : Ints h v o) :
    Ret prog raw base (.fn 70 [] []) [v] h (fun w H => Ext h H ∧ ∃ x, w = .tuple [x, .int .i64 (mndE o).2] ∧ Own encM 36 h.length H x (mndE o).1) := by
  have ha := fun base => run_alone (base := base) hI
  have hv1 := hI.one
  by_cases c : aloL o = 0
  · obtain ⟨c1, c2, c3⟩ := aloL_iff.1 c
    rw [c] at ha
    have r : mndE o = (mndL o, 0) := by unfold mndE; rw [if_pos c]
    rw [r]
    obtain ⟨n, en⟩ : ∃ n, o.length = n := ⟨_, rfl⟩
    rw [en] at c3
    obtain ⟨w1, H1, e1, x1, o1⟩ := run_rise hb hI (by omega) (by omega)
    have l1 := x1.len
    have ow1 := o1.one
    obtain ⟨rs, ers⟩ : ∃ rs, rs = riseL o := ⟨_, rfl⟩
    rw [← ers] at o1
    have hrp : ∀ p ∈ rs, 0 ≤ p ∧ p < (n : Int) := fun p hp => by
      have := (riseL_is o).1.2 p (by rw [← ers]; exact hp)
      rw [en] at this; exact this
    have hrn : rs.length ≤ n := by
      have h1 := (riseP_iff.1 (riseL_is o).1).1.length_le
      rw [← ers, upto_len, en] at h1; exact h1
    have i1 := own_ints o1 ⟨by omega, fun x hx => by have := hrp x hx; omega⟩
    have hl1 := lenI i1
    refine ret_raw func70 rfl (by kernel_rfl) ?_
    have hsp := @Nat.succ_ne_zero; repeat' (first | simp (disch := first | exact dschL25 | fail) only [go_sem, ↓reduceIte, hsp, ha, eq_self, e1, hl1] | refine WP_drw ?_ | refine cnd_intro (fun hsp => ?_) fun hsp => ?_)
    obtain ⟨b, eb⟩ : ∃ b, b = H1.length := ⟨_, rfl⟩
    obtain ⟨kp, ekp⟩ : ∃ kp, kp = rs.map fun p => o.getD p.toNat 0 := ⟨_, rfl⟩
    have hov : ∀ p : Nat, p < n → 0 ≤ o.getD p 0 ∧ o.getD p 0 < (n : Int) := fun p hp => c3.2.1 _ (getD_mem (by omega))
    refine WP_count [(5, 7), (24, 35)] 0 rs.length (Nat.zero_le _) (fun _ i fr K => fr 24 = .int .i64 (i : Int) ∧ Ext H1 K ∧ ∃ w, fr 5 = w ∧ Own encI 3 b K w ((rs.take i).map fun p => o.getD p.toNat 0)) ?_ ?_ ?_
    · exact ⟨by (simp (disch := first | exact dschL25 | fail) only [go_sem, ↓reduceIte, Int.natCast_zero]; first | done | rfl), .refl, .slice none 0 0, by simp (disch := first | exact dschL25 | fail) only [go_sem, ↓reduceIte], Own.nil⟩
    · rintro i fr K hi0 hi hA ⟨r24, xK, w, r5, hO⟩
      have q0 := hA 0 rfl
      have q2 := hA 2 rfl
      have q3 := hA 3 rfl
      have q22 := hA 22 rfl
      have q23 := hA 23 rfl
      try simp (disch := first | exact dschL25 | fail) only [go_sem, ↓reduceIte] at q0 q2 q3 q22 q23
      have hlt : ((i : Int) < (rs.length : Int)) = True := eq_true (by omega)
      have ow := hO.one
      have lK := xK.len
      have iK := i1.ext xK
      have ai := adrI (i := (i : Int)) (by omega) iK (by omega)
      rw [Int.toNat_natCast] at ai
      have li := loadI iK hi
      obtain ⟨p, ep⟩ := Int.eq_ofNat_of_zero_le (hrp _ (getD_mem hi)).1
      have hpn := (hrp _ (getD_mem hi)).2
      rw [ep] at li hpn
      have hoK := hI.ext (x1.trans xK)
      have ap := adrI (i := (p : Int)) (by omega) hoK (by omega)
      rw [Int.toNat_natCast] at ap
      have lp := loadI hoK (i := p) (by omega)
      obtain ⟨w', K2, ea, oW, lW, eW, oneW, kW⟩ := OwnE.snocI (base := base) (x := o.getD p 0) (.inl hO) (by omega) (by omega) (by simp; omega)
      have htk : (rs.take (i + 1)).map (fun p => o.getD p.toNat 0) = (rs.take i).map (fun p => o.getD p.toNat 0) ++ [o.getD p 0] := by
        rw [take_succ' hi, List.map_append, List.map_cons, List.map_nil, ep, Int.toNat_natCast]
      have hsp := @Nat.succ_ne_zero; repeat' (first | simp (disch := first | exact dschL25 | fail) only [go_sem, ↓reduceIte, hsp, r24, r5, q0, q2, q3, q22, q23, hlt, ai, li, ap, lp, ea] | refine WP_drw ?_ | refine cnd_intro (fun hsp => ?_) fun hsp => ?_)
      exact ⟨by (repeat first | exact Agree.refl | assumption | refine Agree.put rfl ?_ | refine Agree.put0 ?_ | refine Agree.sub rfl (by assumption) ?_), by omega, eW _ (by omega) xK, w', rfl, by rw [htk]; exact oW⟩
    · rintro fr K hA ⟨r24, xK, w, r5, hO⟩
      have q0 := hA 0 rfl
      have q2 := hA 2 rfl
      have q3 := hA 3 rfl
      have q22 := hA 22 rfl
      have q23 := hA 23 rfl
      try simp (disch := first | exact dschL25 | fail) only [go_sem, ↓reduceIte] at q0 q2 q3 q22 q23
      have hlt : ((rs.length : Int) < (rs.length : Int)) = False := eq_false (by omega)
      rw [List.take_length, ← ekp] at hO
      have ow := hO.one
      have hoK := hI.ext (x1.trans xK)
      have hloK := lenI hoK
      have lK := xK.len
      obtain ⟨s0, es0⟩ : ∃ s0, s0 = (⟨o, kp, []⟩ : MndS) := ⟨_, rfl⟩
      have hml : mndL o = (mndN s0 n).out := by unfold mndL; rw [en, es0, ekp, ers]
      have hok : ∀ {k}, k ≤ n → MndI n o kp k (mndN s0 k) := fun {k} hk => by
        have := mndN_ok (n := n) (o0 := o) c3 hk
        rw [es0, ekp, ers]; exact this
      have hkl : kp.length ≤ n := by rw [ekp, List.length_map]; exact hrn
      rw [hml]
      have q0 := hA 0 rfl
      simp (disch := first | exact dschL25 | fail) only [go_sem, ↓reduceIte] at q0
      have hkpb : ∀ x ∈ kp, 0 ≤ x ∧ x < (n : Int) := fun x hx => by
        rw [ekp] at hx
        obtain ⟨p, hp, rfl⟩ := List.mem_map.1 hx
        have := hrp p hp
        exact hov p.toNat (by omega)
      have hsp := @Nat.succ_ne_zero; repeat' (first | simp (disch := first | exact dschL25 | fail) only [go_sem, ↓reduceIte, hsp, r24, r5, q0, q0, q2, q3, q22, q23, hlt, hloK] | refine WP_drw ?_ | refine cnd_intro (fun hsp => ?_) fun hsp => ?_)
      refine WP_count [(0, 0), (5, 15), (38, 90)] 0 o.length (Nat.zero_le _) (fun _ k fr K => fr 38 = .int .i64 (k : Int) ∧ Ext H1 K ∧ ∃ v' w u, fr 0 = v' ∧ fr 5 = w ∧ fr 8 = u ∧ (Ints h v' (mndN s0 k).o ∨ (Own encI 3 b K v' (mndN s0 k).o ∧ Asun w v')) ∧ Own encI 3 b K w (mndN s0 k).kept ∧ (mndN s0 k).kept.length ≤ n + k ∧ Own encM 36 b K u (mndN s0 k).out) ?_ ?_ ?_
      · exact ⟨by (simp (disch := first | exact dschL25 | fail) only [go_sem, ↓reduceIte, Int.natCast_zero]; first | done | rfl), xK, v, w, .slice none 0 0, by simp (disch := first | exact dschL25 | fail) only [go_sem, ↓reduceIte, q0], by simp (disch := first | exact dschL25 | fail) only [go_sem, ↓reduceIte, r5], by simp (disch := first | exact dschL25 | fail) only [go_sem, ↓reduceIte], .inl (by rw [es0]; exact hI), by rw [es0]; exact hO, by rw [es0]; exact hkl, by rw [es0]; exact Own.nil⟩
      · rintro k fr2 K2 hk0 hk hA2 ⟨r38, xK2, v', w2, u, r0, r5', r8, hV, hW, hWl, hU⟩
        have d2 := hA2 2 rfl
        have d3 := hA2 3 rfl
        have d37 := hA2 37 rfl
        try simp (disch := first | exact dschL25 | fail) only [go_sem, ↓reduceIte, q2, q3] at d2 d3 d37
        have hlt2 : ((k : Int) < (o.length : Int)) = True := eq_true (by omega)
        obtain ⟨s, es⟩ : ∃ s, s = mndN s0 k := ⟨_, rfl⟩
        have hsk := hok (k := k) (by omega)
        rw [← es] at hV hW hWl hU hsk
        have hnext : mndN s0 (k + 1) = mndS s (k : Int) := by rw [mndN_succ, ← es]
        have hord := hsk.ord
        have hsl := hord.1
        have hsm : Small s.o := ⟨by omega, fun x hx => by have := hord.2.1 x hx; omega⟩
        have hkb : ∀ x ∈ s.kept, 0 ≤ x ∧ x < (n : Int) := fun x hx => by
          rcases (hsk.kept x).1 hx with z | z
          · exact hkpb x z
          · omega
        have hout : s.out.length ≤ n := Nat.le_trans hsk.few (Nat.le_trans List.countP_le_length (by rw [upto_len]; omega))
        have xh2 := x1.trans xK2
        have iV : Ints K2 v' s.o := hV.elim (fun z => z.ext xh2) (fun z => own_ints z.1 hsm)
        have hsmW : Small s.kept := ⟨by omega, fun x hx => by have := hkb x hx; omega⟩
        have iW := own_ints hW hsmW
        have ov' := iV.one
        have ow2 := hW.one
        have ou := hU.one
        have lK2 := xK2.len
        have hct := fun base => run_contains (base := base) (x := (k : Int)) iW
        by_cases m : (k : Int) ∈ s.kept
        · rw [decide_eq_true m] at hct
          have hss : mndN s0 (k + 1) = s := by rw [hnext]; exact if_pos m
          have hsp := @Nat.succ_ne_zero; repeat' (first | simp (disch := first | exact dschL25 | fail) only [go_sem, ↓reduceIte, hsp, r38, r0, r5', r8, d2, d3, d37, q0, q2, q3, q22, q23, hlt2, hct] | refine WP_drw ?_ | refine cnd_intro (fun hsp => ?_) fun hsp => ?_)
          exact ⟨by (repeat first | exact Agree.refl | assumption | refine Agree.put rfl ?_ | refine Agree.put0 ?_ | refine Agree.sub rfl (by assumption) ?_), by omega, xK2, v', w2, u, rfl, rfl, rfl, by rw [hss]; exact hV, by rw [hss]; exact hW, by rw [hss]; omega, by rw [hss]; exact hU⟩
        · rw [decide_eq_false m] at hct
          obtain ⟨f, ef⟩ : ∃ f, f = s.o.idxOf (k : Int) := ⟨_, rfl⟩
          have hkm : (k : Int) ∈ s.o := ord_all hord ⟨by omega, by omega⟩
          have hf : f < n := by rw [ef, ← hsl]; exact List.idxOf_lt_length_of_mem hkm
          have hix := fun base => run_index (base := base) (x := (k : Int)) iV
          rw [show ixI s.o (k : Int) = (f : Int) by unfold ixI; rw [if_pos hkm, ef]] at hix
          obtain ⟨v1, K3, e3, x3, o3⟩ := run_cloneE (base := base) iV hsm
          obtain ⟨id3, ver3, rfl, g3, hid3⟩ := o3.pos (by omega)
          rw [rowE_iB] at g3
          have lK3 := x3.len
          have lid3 := lt_of_get g3
          obtain ⟨w4, K4, e4, rfl, eK4⟩ := run_delete (base := base) (i := f) g3 (by omega) (by omega) (by omega)
          obtain ⟨e, ee⟩ : ∃ e, e = s.o.eraseIdx f := ⟨_, rfl⟩
          rw [← ee] at eK4
          have hel : e.length = n - 1 := by rw [ee, List.length_eraseIdx, if_pos (by omega)]; omega
          have heb : ∀ x ∈ e, 0 ≤ x ∧ x < (n : Int) := fun x hx => hord.2.1 x (by rw [ee] at hx; exact List.mem_of_mem_eraseIdx hx)
          have hes : Small e := ⟨by omega, fun x hx => by have := heb x hx; omega⟩
          have g4 : K4[id3]? = some (iB (e ++ [0]) ver3) := by rw [eK4, List.getElem?_set_self lid3]
          have iR := part_ints g4 hes
          rw [hel, show n - 1 + 1 = s.o.length by omega] at iR
          rw [show s.o.length - 1 = n - 1 by omega] at e4
          have lR := lenI iR
          rw [hel] at lR
          have x24 : Ext K2 K4 := by rw [eK4]; exact x3.set (by omega)
          have lK4 := x24.len
          have iW4 := iW.ext x24
          have ff : ((f : Int) + 1) = (f : Int) + 1 := rfl
          have hsp := @Nat.succ_ne_zero; repeat' (first | simp (disch := first | exact dschL25 | fail) only [go_sem, ↓reduceIte, hsp, r38, r0, r5', r8, d2, d3, d37, q0, q2, q3, q22, q23, hlt2, hct, hix, e3, e4, lR] | refine WP_drw ?_ | refine cnd_intro (fun hsp => ?_) fun hsp => ?_)
          obtain ⟨T, eT⟩ : ∃ T : Nat → Nat, T = mndT e s.kept (k : Int) := ⟨_, rfl⟩
          refine WP_count [(11, 14), (55, 70)] 0 e.length (Nat.zero_le _) (fun _ j fr K => fr 55 = .int .i64 (j : Int) ∧ K = K4 ∧ fr 11 = .int .i64 (T j : Int)) ?_ ?_ ?_
          · exact ⟨by (simp (disch := first | exact dschL25 | fail) only [go_sem, ↓reduceIte, Int.natCast_zero]; first | done | rfl), rfl, by rw [eT]; simp (disch := first | exact dschL25 | fail) only [go_sem, ↓reduceIte]; rfl⟩
          · rintro j fr3 K' hj0 hj hA3 ⟨r55, eK, r11⟩
            subst eK
            have c0 := hA3 0 rfl
            have c2 := hA3 2 rfl
            have c3 := hA3 3 rfl
            have c5 := hA3 5 rfl
            have c8 := hA3 8 rfl
            have c9 := hA3 9 rfl
            have c10 := hA3 10 rfl
            have c37 := hA3 37 rfl
            have c38 := hA3 38 rfl
            have c53 := hA3 53 rfl
            have c54 := hA3 54 rfl
            try simp (disch := first | exact dschL25 | fail) only [go_sem, ↓reduceIte, d2, d3, d37] at c0 c2 c3 c5 c8 c9 c10 c37 c38 c53 c54
            have c5 := hA3 5 rfl
            simp (disch := first | exact dschL25 | fail) only [go_sem, ↓reduceIte, r5'] at c5
            have hlt3 : ((j : Int) < ((n - 1 : Nat) : Int)) = True := eq_true (by omega)
            obtain ⟨x, ex⟩ : ∃ x, x = e.getD j 0 := ⟨_, rfl⟩
            have aj : indexAddrA prog 25 (.slice (some ⟨id3, ver3, 0⟩) (n - 1) s.o.length) (.int .i64 (j : Int)) = some (.ptr (some ⟨id3, ver3, j⟩)) := by
              rw [adr_sl Fc.el25 Fc.ar25 (by omega) (by omega), Int.toNat_natCast, Nat.mul_one, Nat.zero_add]
            have lj : loadP prog K' 3 (.ptr (some ⟨id3, ver3, j⟩)) = some (.int .i64 x) := by
              rw [load_eq, Fc.ty3, g4, ldB_ints (by rw [List.length_append]; omega), getD_app1 hj, ex]
            have hT : T (j + 1) = if x < (k : Int) ∧ x ∈ s.kept then j + 1 else T j := by rw [eT, mndT, ← ex]
            have hcx := fun base => run_contains (base := base) (x := x) iW4
            by_cases q1 : x < (k : Int)
            · have t1 : (x < (k : Int)) = True := eq_true q1
              by_cases q2 : x ∈ s.kept
              · rw [decide_eq_true q2] at hcx
                rw [if_pos ⟨q1, q2⟩] at hT
                have hsp := @Nat.succ_ne_zero; repeat' (first | simp (disch := first | exact dschL25 | fail) only [go_sem, ↓reduceIte, hsp, r55, r11, c5, c0, c2, c3, c5, c8, c9, c10, c37, c38, c53, c54, d2, d3, d37, q0, q2, q3, q22, q23, hlt3, aj, lj, t1, hcx] | refine WP_drw ?_ | refine cnd_intro (fun hsp => ?_) fun hsp => ?_)
                exact ⟨by (repeat first | exact Agree.refl | assumption | refine Agree.put rfl ?_ | refine Agree.put0 ?_ | refine Agree.sub rfl (by assumption) ?_), by omega, by rw [hT]; omega⟩
              · rw [decide_eq_false q2] at hcx
                rw [if_neg (fun z => q2 z.2)] at hT
                have hsp := @Nat.succ_ne_zero; repeat' (first | simp (disch := first | exact dschL25 | fail) only [go_sem, ↓reduceIte, hsp, r55, r11, c5, c0, c2, c3, c5, c8, c9, c10, c37, c38, c53, c54, d2, d3, d37, q0, q2, q3, q22, q23, hlt3, aj, lj, t1, hcx] | refine WP_drw ?_ | refine cnd_intro (fun hsp => ?_) fun hsp => ?_)
                exact ⟨by (repeat first | exact Agree.refl | assumption | refine Agree.put rfl ?_ | refine Agree.put0 ?_ | refine Agree.sub rfl (by assumption) ?_), by omega, by rw [hT]⟩
            · have t1 : (x < (k : Int)) = False := eq_false q1
              rw [if_neg (fun z => q1 z.1)] at hT
              have hsp := @Nat.succ_ne_zero; repeat' (first | simp (disch := first | exact dschL25 | fail) only [go_sem, ↓reduceIte, hsp, r55, r11, c5, c0, c2, c3, c5, c8, c9, c10, c37, c38, c53, c54, d2, d3, d37, q0, q2, q3, q22, q23, hlt3, aj, lj, t1] | refine WP_drw ?_ | refine cnd_intro (fun hsp => ?_) fun hsp => ?_)
              exact ⟨by (repeat first | exact Agree.refl | assumption | refine Agree.put rfl ?_ | refine Agree.put0 ?_ | refine Agree.sub rfl (by assumption) ?_), by omega, by rw [hT]⟩
          · rintro fr3 K' hA3 ⟨r55, eK, r11⟩
            subst eK
            have c0 := hA3 0 rfl
            have c2 := hA3 2 rfl
            have c3 := hA3 3 rfl
            have c5 := hA3 5 rfl
            have c8 := hA3 8 rfl
            have c9 := hA3 9 rfl
            have c10 := hA3 10 rfl
            have c37 := hA3 37 rfl
            have c38 := hA3 38 rfl
            have c53 := hA3 53 rfl
            have c54 := hA3 54 rfl
            try simp (disch := first | exact dschL25 | fail) only [go_sem, ↓reduceIte, d2, d3, d37] at c0 c2 c3 c5 c8 c9 c10 c37 c38 c53 c54
            have c5 := hA3 5 rfl
            simp (disch := first | exact dschL25 | fail) only [go_sem, ↓reduceIte, r5'] at c5
            have c0' := hA3 0 rfl
            simp (disch := first | exact dschL25 | fail) only [go_sem, ↓reduceIte, r0] at c0'
            have c8 := hA3 8 rfl
            simp (disch := first | exact dschL25 | fail) only [go_sem, ↓reduceIte, r8] at c8
            have c38 := hA3 38 rfl
            simp (disch := first | exact dschL25 | fail) only [go_sem, ↓reduceIte, r38] at c38
            have hlt3 : ((e.length : Int) < ((n - 1 : Nat) : Int)) = False := eq_false (by omega)
            obtain ⟨t, et⟩ : ∃ t, t = T e.length := ⟨_, rfl⟩
            rw [← et] at r11
            have htn : t < n := by have := mndT_le (rest := e) (kept := s.kept) (k := (k : Int)) e.length; rw [et, eT]; omega
            have hstep : mndS s (k : Int) = ⟨mvL s.o f t, s.kept ++ [(k : Int)], if f = t then s.out else s.out ++ [((f : Int), (t : Int))]⟩ := by
              unfold mndS
              rw [if_neg m]
              simp only [← ef, ← ee]
              rw [← eT, ← et]
            obtain ⟨K5, eK5⟩ : ∃ K5, K5 = K' ++ [mvB (f : Int) (t : Int)] := ⟨_, rfl⟩
            have x5 : Ext K' K5 := by rw [eK5]; exact .app .refl
            have g5 : K5[K'.length]? = some (mvB (f : Int) (t : Int)) := by rw [eK5]; exact get_eq rfl
            have l5 := x5.len
            unfold mvB at eK5 g5
            have tail : ∀ (K : Heap) (u' : AVal) (out' : List (Int × Int)), b ≤ K.length → Ext H1 K → Own encI 3 b K w2 s.kept → Ints K v' s.o → Own encM 36 b K u' out' →
                ∃ v2 K6 w' K7, callL prog raw base (.fn 94 [] []) [v', .agg [.int .i64 (f : Int), .int .i64 (t : Int)]] K = some (v2, K6) ∧ One v2 ∧ One w' ∧ appendA prog base K6 25 w2 (.vals [.int .i64 (k : Int)]) = some (w', K7) ∧ Ext H1 K7 ∧ Own encI 3 b K7 v2 (mvL s.o f t) ∧ Asun w' v2 ∧ Own encI 3 b K7 w' (s.kept ++ [(k : Int)]) ∧ Own encM 36 b K7 u' out' := by
              intro K u' out' hbK xK hw hv hu
              obtain ⟨v2, K6, e6, x6, o6⟩ := run_made (base := base) (f := f) (t := t) (by omega) hv (by omega) (by omega) (by omega)
              have l6 := x6.len
              have hw6 := hw.ext x6
              have ea := app_sn1 (P := prog) (base := base) (y := (k : Int)) (a := .int .i64 (k : Int)) (t := 25) hw6 rfl rfl Fc.el25 encI_sc (by omega) (by omega)
              have hA := asun_lt hw o6 (Nat.le_refl _)
              have hAu := asun_ne hw6 (hu.ext x6) (by decide)
              refine ⟨v2, K6, snV K6 w2 1, snH encI 3 K6 w2 s.kept [(k : Int)], e6, o6.one, snV_one, ea, hw6.sn_ext (by omega) (xK.trans x6), (o6.sn_oth hA).low hbK, o6.sn_asun hA, hw6.sn (m := [(k : Int)]) (by omega) (by simp), (hu.ext x6).sn_oth hAu⟩
            have xK5 := x24.trans x5
            by_cases q1 : f = t
            · have t1 : ((t : Int) = (f : Int)) = True := eq_true (by omega)
              rw [if_pos q1] at hstep
              obtain ⟨v2, K6, w', K7, f1, f2, f3, f4, f5, f6, f7, f8, f9⟩ := tail K5 u s.out (by omega) (xK2.trans xK5) (hW.ext xK5) (iV.ext xK5) (hU.ext xK5)
              have hsp := @Nat.succ_ne_zero; repeat' (first | simp (disch := first | exact dschL25 | fail) only [go_sem, ↓reduceIte, hsp, r55, r11, c5, c0', c8, c38, c0, c2, c3, c5, c8, c9, c10, c37, c38, c53, c54, d2, d3, d37, q0, q2, q3, q22, q23, hlt3, ← eK5, g5, eq_self, t1, f1, f4] | refine WP_drw ?_ | refine cnd_intro (fun hsp => ?_) fun hsp => ?_)
              rw [hnext, hstep]
              exact ⟨by (repeat first | exact Agree.refl | assumption | refine Agree.put rfl ?_ | refine Agree.put0 ?_ | refine Agree.sub rfl (by assumption) ?_), by omega, f5, v2, w', u, rfl, rfl, rfl, .inr ⟨f6, f7⟩, f8, by simp; omega, f9⟩
            · have t1 : ((t : Int) = (f : Int)) = False := eq_false (by omega)
              rw [if_neg q1] at hstep
              obtain ⟨K5b, eK5b⟩ : ∃ K5b, K5b = K5 ++ [rowE encM 36 [((f : Int), (t : Int))] 0] := ⟨_, rfl⟩
              have x5b : Ext K5 K5b := by rw [eK5b]; exact .app .refl
              have g5b := x5b.get g5
              have l5b := x5b.len
              have hU5 := hU.ext (xK5.trans x5b)
              obtain ⟨u', K6u, ea, oU, lU, eU, oneU, kU⟩ := hU5.appendRX (P := prog) (base := base) (x := .slice (some ⟨K5.length, 0, 0⟩) 1 1) (m := [((f : Int), (t : Int))]) (t := 33) (Rows.own (by rw [eK5b]; exact get_eq rfl) rfl (by simp)) Fc.el33 encM_sc (by omega) (by omega) (by simp) (by simp; omega)
              have kU : KeepO encM 36 K5b K6u := kU
              have xK6u : Ext H1 K6u := eU _ (by omega) (xK2.trans (xK5.trans x5b))
              have iV6 : Ints K6u v' s.o := hV.elim (fun z => z.ext (x1.trans xK6u)) (fun z => own_ints (kU.own (z.1.ext (xK5.trans x5b)) (by decide)) hsm)
              have hW6 := kU.own (hW.ext (xK5.trans x5b)) (show 3 ≠ 36 by decide)
              have g6u := kU.box g5b
              obtain ⟨v2, K6, w', K7, f1, f2, f3, f4, f5, f6, f7, f8, f9⟩ := tail K6u u' (s.out ++ [((f : Int), (t : Int))]) (by omega) xK6u hW6 iV6 oU
              have hsp := @Nat.succ_ne_zero; repeat' (first | simp (disch := first | exact dschL25 | fail) only [go_sem, ↓reduceIte, hsp, r55, r11, c5, c0', c8, c38, c0, c2, c3, c5, c8, c9, c10, c37, c38, c53, c54, d2, d3, d37, q0, q2, q3, q22, q23, hlt3, ← eK5, g5, eq_self, t1, bsM1, ← eK5b, ea, g6u, f1, f4] | refine WP_drw ?_ | refine cnd_intro (fun hsp => ?_) fun hsp => ?_)
              rw [hnext, hstep]
              exact ⟨by (repeat first | exact Agree.refl | assumption | refine Agree.put rfl ?_ | refine Agree.put0 ?_ | refine Agree.sub rfl (by assumption) ?_), by omega, f5, v2, w', u', rfl, rfl, rfl, .inr ⟨f6, f7⟩, f8, by simp; omega, f9⟩
      · rintro fr2 K2 hA2 ⟨r38, xK2, v', w2, u, r0, r5', r8, hV, hW, hWl, hU⟩
        have d2 := hA2 2 rfl
        have d3 := hA2 3 rfl
        have d37 := hA2 37 rfl
        try simp (disch := first | exact dschL25 | fail) only [go_sem, ↓reduceIte, q2, q3] at d2 d3 d37
        have hlt2 : ((o.length : Int) < (o.length : Int)) = False := eq_false (by omega)
        have ou := hU.one
        rw [en] at hU
        have hsp := @Nat.succ_ne_zero; repeat' (first | simp (disch := first | exact dschL25 | fail) only [go_sem, ↓reduceIte, hsp, r38, r8, d2, d3, d37, q0, q2, q3, q22, q23, hlt2] | refine WP_drw ?_ | refine cnd_intro (fun hsp => ?_) fun hsp => ?_)
        exact ⟨x1.trans xK2, _, rfl, hU.low (by omega)⟩
  · have t1 : (aloL o = 0) = False := eq_false c
    have r : mndE o = ([], aloL o) := by unfold mndE; rw [if_neg c]
    rw [r]
    refine ret_raw func70 rfl (by kernel_rfl) ?_
    have hsp := @Nat.succ_ne_zero; repeat' (first | simp (disch := first | exact dschL25 | fail) only [go_sem, ↓reduceIte, hsp, ha, t1] | refine WP_drw ?_ | refine cnd_intro (fun hsp => ?_) fun hsp => ?_)
    exact ⟨.refl, _, rfl, Own.nil⟩
end Go.AM
