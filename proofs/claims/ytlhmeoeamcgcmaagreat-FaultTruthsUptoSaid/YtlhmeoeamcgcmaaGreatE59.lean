/-
  Contracts: the error of a truth as the reference says it; truths copied, compared.
-/
import Derived.Test.YtlhmeoeamcgcmaaGreatE58
import Derived.Test.YtlhmeoeamcgcmaaGreatE44
set_option linter.unusedSimpArgs false
set_option linter.unusedVariables false
namespace Go.AM
open Go.Proofs.Tryz
theorem dschE59 {p : Prop} (h : p := by first | exact Nat.ne_of_beq_eq_false rfl | assumption | (apply asOne; (first | exact One.int | exact One.bool | assumption | exact Ints.one (by assumption) | exact Rows.one (by assumption) | exact Own.one (by assumption) | exact One.lit ⟨rfl, rfl, rfl⟩)) | (apply asInts; (repeat first | assumption | exact ints_nil | apply Ints.app); done) | (apply asRows; (repeat first | assumption | exact Rows.nil | apply Rows.app); done) | (apply asScal; (first | apply allS1 | apply allS2 | apply allS3 | apply allS4) <;> (first | exact One.int | exact One.bool | assumption | exact Ints.one (by assumption) | exact Rows.one (by assumption) | exact Own.one (by assumption) | exact One.lit ⟨rfl, rfl, rfl⟩)) | exact litT rfl | exact litF rfl | omega | (simp only [List.length_append, List.length_cons, List.length_nil, List.length_set, List.length_reverse]; first | done | omega) | fail) : p := h
attribute [-go_sem] put_ne put_same
attribute [local go_sem ↓] put_if
set_option maxHeartbeats 2000000 in
theorem run_truthR {base : Nat} {h : Heap} {L : Lom} {pv sv tv : AVal} {t : List Brk} (hP : Parts h pv L.ps) (hS : One sv) (hpl : L.ps.length ≤ 1000) (hLT : -1000 ≤ L.T ∧ L.T ≤ 1000) (hT : Rows encB h tv t) (htl : t.length ≤ 1000) :
    callL prog raw base (.fn 34 [] []) [lomV L.R L.T pv sv, tv] h = some (.int .i64 (truM L t), h) := by
  have ho := hP.one
  have ho3 := hT.one
  obtain ⟨G, eG⟩ : ∃ G, G = h ++ [(⟨.cells [.int .i64 L.R, .int .i64 L.T, pv, sv] 32 false false, 0⟩ : ABlk)] := ⟨_, rfl⟩
  have xG : Ext h G := by rw [eG]; exact .app .refl
  have g1 : G[h.length]? = some ⟨.cells [.int .i64 L.R, .int .i64 L.T, pv, sv] 32 false false, 0⟩ := by rw [eG]; exact get_eq rfl
  have br := fun (base : Nat) (b : Brk) => run_brokenR (base := base) (b := b) (hP.ext xG) hS hpl hLT
  simp only [encB] at br
  have hTG := hT.ext xG
  have hl := hTG.len (P := prog) Fc.el66
  refine callL_run func34 rfl rfl ?_
  have hsp := @Nat.succ_ne_zero; repeat' (first | simp (disch := first | exact dschE59 | fail) only [go_sem, ↓reduceIte, hsp, ← eG] | refine WP_drw ?_ | refine cnd_intro (fun hsp => ?_) fun hsp => ?_)
  refine WP_count [(4, 37)] 0 t.length (Nat.zero_le _) (fun _ i fr h' => fr 5 = .int .i64 (i : Int) ∧ h' = G ∧ ∀ j, j < i → errAt L t j = 0) ?_ ?_ ?_
  · exact ⟨by (simp (disch := first | exact dschE59 | fail) only [go_sem, ↓reduceIte, Int.natCast_zero]; first | done | rfl), rfl, fun j hj => by omega⟩
  · rintro i fr H hi0 hi hA ⟨r5, eH, hno⟩
    subst eH
    have p1 := hA 1 rfl
    have p2 := hA 2 rfl
    try simp (disch := first | exact dschE59 | fail) only [go_sem, ↓reduceIte] at p1 p2
    have hlt : ((i : Int) < (t.length : Int)) = True := eq_true (by omega)
    obtain ⟨x, ex⟩ : ∃ x, x = t.getD i brk0 := ⟨_, rfl⟩
    have hx : t[i]? = some x := by rw [ex]; exact getD_some hi
    have ad := brkAddr hTG hi
    have d1 := brkLoad hTG hx
    have e := fun base => br base x
    by_cases c1 : brkM L x = 0
    · have t1 : (brkM L x = 0) = True := eq_true c1
      rw [c1] at e
      have nx : ∀ {f : AFrame}, errAt L t i = 0 → ∀ j, j < i + 1 → errAt L t j = 0 := fun {f} h j hj => by
        by_cases q : j = i
        · subst q; exact h
        · exact hno j (by omega)
      by_cases c0 : 0 < i
      · have t0 : ((i : Int) > 0) = True := eq_true (by omega)
        obtain ⟨y, ey⟩ : ∃ y, y = t.getD (i - 1) brk0 := ⟨_, rfl⟩
        have hy : t[i - 1]? = some y := by rw [ey]; exact getD_some (by omega)
        have ad2 : indexAddrA prog 66 tv (.int .i64 ((i : Int) - 1)) = some (elAdr tv encB.z (i - 1) 0) := by
          have := brkAddr hTG (show i - 1 < t.length by omega)
          rwa [show ((i - 1 : Nat) : Int) = (i : Int) - 1 by omega] at this
        have f1 : fieldAddrA prog 128 (elAdr tv encB.z i 0) 0 = some (elAdr tv encB.z i 0) := elAdr_field (P := prog) (i := i) (o := 0) (off := 0) (q := false) (n := 1) hTG (by omega) (by kernel_rfl) (by decide)
        have f2 : fieldAddrA prog 128 (elAdr tv encB.z (i - 1) 0) 0 = some (elAdr tv encB.z (i - 1) 0) := elAdr_field (P := prog) (i := i - 1) (o := 0) (off := 0) (q := false) (n := 1) hTG (by omega) (by kernel_rfl) (by decide)
        have l1 : loadP prog H 3 (elAdr tv encB.z i 0) = some (.int .i64 x.1) := hTG.cell (P := prog) Fc.ty3 hx (o := 0) (a := .int .i64 x.1) rfl
        have l2 : loadP prog H 3 (elAdr tv encB.z (i - 1) 0) = some (.int .i64 y.1) := hTG.cell (P := prog) Fc.ty3 hy (o := 0) (a := .int .i64 y.1) rfl
        by_cases c2 : x.1 ≤ y.1
        · have t2 : (x.1 ≤ y.1) = True := eq_true c2
          have er : errAt L t i = 4 := by unfold errAt; rw [← ex, ← ey, if_neg (by simp [c1]), if_pos ⟨c0, c2⟩]
          have r : truM L t = 4 := by unfold truM; rw [firstE_at (by rw [er]; decide) hno hi, er]
          rw [r]
          have hsp := @Nat.succ_ne_zero; repeat' (first | simp (disch := first | exact dschE59 | fail) only [go_sem, ↓reduceIte, hsp, r5, p1, p2, hlt, hl, g1, ad, d1, e, t0, ad2, f1, f2, l1, l2, t2, eq_self, not_true, decide_false] | refine WP_drw ?_ | refine cnd_intro (fun hsp => ?_) fun hsp => ?_)
          exact fI rfl xG
        · have t2 : (x.1 ≤ y.1) = False := eq_false c2
          have er : errAt L t i = 0 := by unfold errAt; rw [← ex, ← ey, if_neg (by simp [c1]), if_neg (fun q => c2 q.2)]
          have hsp := @Nat.succ_ne_zero; repeat' (first | simp (disch := first | exact dschE59 | fail) only [go_sem, ↓reduceIte, hsp, r5, p1, p2, hlt, hl, g1, ad, d1, e, t0, ad2, f1, f2, l1, l2, t2, eq_self, not_true, decide_false] | refine WP_drw ?_ | refine cnd_intro (fun hsp => ?_) fun hsp => ?_)
          exact ⟨by (repeat first | exact Agree.refl | assumption | refine Agree.put rfl ?_ | refine Agree.put0 ?_ | refine Agree.sub rfl (by assumption) ?_), by omega, nx (f := fr) er⟩
      · have t0 : ((i : Int) > 0) = False := eq_false (by omega)
        have er : errAt L t i = 0 := by unfold errAt; rw [← ex, if_neg (by simp [c1]), if_neg (fun q => c0 q.1)]
        have hsp := @Nat.succ_ne_zero; repeat' (first | simp (disch := first | exact dschE59 | fail) only [go_sem, ↓reduceIte, hsp, r5, p1, p2, hlt, hl, g1, ad, d1, e, t0, eq_self, not_true, decide_false] | refine WP_drw ?_ | refine cnd_intro (fun hsp => ?_) fun hsp => ?_)
        exact ⟨by (repeat first | exact Agree.refl | assumption | refine Agree.put rfl ?_ | refine Agree.put0 ?_ | refine Agree.sub rfl (by assumption) ?_), by omega, nx (f := fr) er⟩
    · have t1 : (brkM L x = 0) = False := eq_false c1
      have er : errAt L t i = brkM L x := by unfold errAt; rw [← ex, if_pos c1]
      have r : truM L t = brkM L x := by unfold truM; rw [firstE_at (by rw [er]; exact c1) hno hi, er]
      rw [r]
      have hsp := @Nat.succ_ne_zero; repeat' (first | simp (disch := first | exact dschE59 | fail) only [go_sem, ↓reduceIte, hsp, r5, p1, p2, hlt, hl, g1, ad, d1, e, t1, not_false_iff, decide_true] | refine WP_drw ?_ | refine cnd_intro (fun hsp => ?_) fun hsp => ?_)
      exact fI rfl xG
  · rintro fr H hA ⟨r5, eH, hno⟩
    subst eH
    have p1 := hA 1 rfl
    have p2 := hA 2 rfl
    try simp (disch := first | exact dschE59 | fail) only [go_sem, ↓reduceIte] at p1 p2
    have hlt : ((t.length : Int) < (t.length : Int)) = False := eq_false (by omega)
    have r : truM L t = 0 := firstE_no hno
    rw [r]
    have hsp := @Nat.succ_ne_zero; repeat' (first | simp (disch := first | exact dschE59 | fail) only [go_sem, ↓reduceIte, hsp, r5, p1, p2, hlt, hl] | refine WP_drw ?_ | refine cnd_intro (fun hsp => ?_) fun hsp => ?_)
    exact fI rfl xG
theorem bsBR {lit : Bool} {A : Heap} {b : Brk} : bsA prog lit A 66 1 [(0, .agg [.int .i64 b.1, .int .i64 b.2.1, .int .i64 b.2.2])] = some (.slice (some ⟨A.length, 0, 0⟩) 1 1, A ++ [rowE encB 128 [b] 0]) := by
  simp [bsA, rowOf, Fc.el66, fillA, repCells, AVal.isN, AVal.cells, splice, rowE, flat, encB]
set_option maxHeartbeats 1000000 in
theorem run_brokenL {base : Nat} {h : Heap} {tv : AVal} {t : List Brk} (hb : base ≤ h.length) (hT : Rows encB h tv t) (htl : t.length ≤ 1000) :
    Ret prog raw base (.fn 35 [] []) [tv] h (fun v H => Ext h H ∧ Own encB 128 h.length H v t) := by
  have ho3 := hT.one
  have hl := hT.len (P := prog) Fc.el60
  refine ret_raw func35 rfl (by kernel_rfl) ?_
  have hsp := @Nat.succ_ne_zero; repeat' (first | simp (disch := first | exact dschE59 | fail) only [go_sem, ↓reduceIte, hsp, hl] | refine WP_drw ?_ | refine cnd_intro (fun hsp => ?_) fun hsp => ?_)
  refine WP_count [(3, 5), (8, 16)] 0 t.length (Nat.zero_le _) (fun _ i fr h' => fr 8 = .int .i64 (i : Int) ∧ Ext h h' ∧ ∃ v, fr 3 = v ∧ Own encB 128 h.length h' v (t.take i)) ?_ ?_ ?_
  · exact ⟨by (simp (disch := first | exact dschE59 | fail) only [go_sem, ↓reduceIte, Int.natCast_zero]; first | done | rfl), .refl, .slice none 0 0, by simp (disch := first | exact dschE59 | fail) only [go_sem, ↓reduceIte], by rw [List.take_zero]; exact Own.nil⟩
  · rintro i fr H hi0 hi hA ⟨r8, xH, v, r3, hO⟩
    have p2 := hA 2 rfl
    have p6 := hA 6 rfl
    have p7 := hA 7 rfl
    try simp (disch := first | exact dschE59 | fail) only [go_sem, ↓reduceIte] at p2 p6 p7
    have hlt : ((i : Int) < (t.length : Int)) = True := eq_true (by omega)
    have hHl := xH.len
    obtain ⟨x, ex⟩ : ∃ x, x = t.getD i brk0 := ⟨_, rfl⟩
    have hx : t[i]? = some x := by rw [ex]; exact getD_some hi
    have ad := (hT.ext xH).addr (P := prog) (i := (i : Int)) Fc.el60 Fc.ar60 (by omega) (by omega)
    rw [Int.toNat_natCast] at ad
    have d1 : loadP prog H 75 (elAdr tv encB.z i 0) = some (.agg [.int .i64 x.1, .int .i64 x.2.1, .int .i64 x.2.2]) := (hT.ext xH).load (P := prog) Fc.ty75 hx
    have d2 : ∀ {T : Heap}, loadP prog (H ++ T) 75 (elAdr tv encB.z i 0) = some (.agg [.int .i64 x.1, .int .i64 x.2.1, .int .i64 x.2.2]) := fun {T} => (hT.ext (xH.trans (.app .refl))).load (P := prog) Fc.ty75 hx
    have bsN : ∀ {lit : Bool} {A : Heap}, bsA prog lit A 66 1 [(0, .agg [.int .i64 x.1, .int .i64 x.2.1, .int .i64 x.2.2])] = some (.slice (some ⟨A.length, 0, 0⟩) 1 1, A ++ [rowE encB 128 [x] 0]) := fun {lit A} => bsBR
    obtain ⟨v', h', ea', hO', hle, hE, h1'⟩ := (hO.ext (.app (t := [(⟨.cells [.int .i64 x.1, .int .i64 x.2.1, .int .i64 x.2.2] 75 false false, 0⟩ : ABlk)] ++ [rowE encB 128 [x] 0]) .refl)).appendR (x := .slice (some ⟨H.length + 1, 0, 0⟩) 1 1) (m := [x]) (base := base) (t := 66) (Rows.own (by rw [← List.append_assoc]; exact get_eq (by simp)) rfl (by simp)) Fc.el66 encB_sc hb (by simp; omega) (by simp) (by simp; omega)
    rw [← List.append_assoc] at ea'
    have hsp := @Nat.succ_ne_zero; repeat' (first | simp (disch := first | exact dschE59 | fail) only [go_sem, ↓reduceIte, hsp, r8, r3, p2, p6, p7, hlt, ad, d1, d2, bsN, ea'] | refine WP_drw ?_ | refine cnd_intro (fun hsp => ?_) fun hsp => ?_)
    refine ⟨by (repeat first | exact Agree.refl | assumption | refine Agree.put rfl ?_ | refine Agree.put0 ?_ | refine Agree.sub rfl (by assumption) ?_), by omega, hE h (Nat.le_refl _) (by rw [← List.append_assoc]; exact (xH.trans (.app (.app .refl)))), v', rfl, ?_⟩
    rwa [show t.take i ++ [x] = t.take (i + 1) by rw [List.take_add_one, hx]; rfl] at hO'
  · rintro fr H hA ⟨r8, xH, v, r3, hO⟩
    have p2 := hA 2 rfl
    have p6 := hA 6 rfl
    have p7 := hA 7 rfl
    try simp (disch := first | exact dschE59 | fail) only [go_sem, ↓reduceIte] at p2 p6 p7
    have hlt : ((t.length : Int) < (t.length : Int)) = False := eq_false (by omega)
    rw [List.take_length] at hO
    have hsp := @Nat.succ_ne_zero; repeat' (first | simp (disch := first | exact dschE59 | fail) only [go_sem, ↓reduceIte, hsp, r8, r3, p2, p6, p7, hlt] | refine WP_drw ?_ | refine cnd_intro (fun hsp => ?_) fun hsp => ?_)
    exact ⟨xH, hO⟩
theorem run_dupB {base : Nat} {h : Heap} {v : AVal} {l : List Brk} (hb : base ≤ h.length) (hR : Rows encB h v l) (hl : l.length ≤ 1000) :
    Ret prog raw base (.fn 43 [] []) [v] h (fun w H => Ext h H ∧ OwnE encB 75 h.length H w l) := by
  have ho := hR.one
  have hn := hR.len Fc.el60
  refine ret_raw func43 rfl (by kernel_rfl) ?_
  by_cases hl0 : l = []
  · subst hl0
    have ha := fun base => app_none (base := base) hR Fc.el60
    have hsp := @Nat.succ_ne_zero; repeat' (first | simp (disch := first | exact dschE59 | fail) only [go_sem, ↓reduceIte, hsp, hn, mk_none Fc.el60, ha, List.length_nil, Int.natCast_zero] | refine WP_drw ?_ | refine cnd_intro (fun hsp => ?_) fun hsp => ?_)
    exact ⟨.refl, .inr ⟨rfl, rfl⟩⟩
  · have hl1 : 0 < l.length := List.length_pos_iff.2 hl0
    have hm := mk_room (h := h) (n := l.length) Fc.el60 hl1 (by omega)
    have ha := app_fill (base := base) hR Fc.el60 rfl encB_sc rfl hb
    have hsp := @Nat.succ_ne_zero; repeat' (first | simp (disch := first | exact dschE59 | fail) only [go_sem, ↓reduceIte, hsp, hn, hm, ha] | refine WP_drw ?_ | refine cnd_intro (fun hsp => ?_) fun hsp => ?_)
    exact ⟨.app .refl, .inl (.inr ⟨h.length, 0, rfl, get_eq rfl, Nat.le_refl _, hl1⟩)⟩
theorem run_eqB0 {base : Nat} {h : Heap} {a b : AVal} {l : List Brk} (ha : Rows encB h a l) (hb : Rows encB h b l) (hl : l.length ≤ 1000) : callL prog raw base (.fn 106 [] []) [a, b] h = some (.bool true, h) := by
  have h1 := ha.len Fc.el60
  have h2 := hb.len Fc.el60
  have oa := ha.one
  have ob := hb.one
  refine callL_run func106 rfl rfl ?_
  have hsp := @Nat.succ_ne_zero; repeat' (first | simp (disch := first | exact dschE59 | fail) only [go_sem, ↓reduceIte, hsp, h1, h2] | refine WP_drw ?_ | refine cnd_intro (fun hsp => ?_) fun hsp => ?_)
  refine WP_count [(4, 5), (13, 25)] 0 l.length (Nat.zero_le _) (fun H0 n fr h' => fr 13 = .int .i64 (n : Int) ∧ h' = H0) ?_ ?_ ?_
  · exact ⟨by (simp (disch := first | exact dschE59 | fail) only [go_sem, ↓reduceIte, Int.natCast_zero]; first | done | rfl), rfl⟩
  · rintro n fr H hn0 hn hA ⟨r13, eH⟩
    subst eH
    have p0 := hA 0 rfl
    have p1 := hA 1 rfl
    have p12 := hA 12 rfl
    try simp (disch := first | exact dschE59 | fail) only [go_sem, ↓reduceIte] at p0 p1 p12
    have hlt : ((n : Int) < (l.length : Int)) = True := eq_true (by omega)
    obtain ⟨x, ex⟩ : ∃ x, x = l.getD n brk0 := ⟨_, rfl⟩
    have hx : l[n]? = some x := by rw [ex]; exact getD_some hn
    have a1 := ha.addr (P := prog) (i := (n : Int)) Fc.el60 Fc.ar60 (by omega) (by omega)
    have a2 := hb.addr (P := prog) (i := (n : Int)) Fc.el60 Fc.ar60 (by omega) (by omega)
    rw [Int.toNat_natCast] at a1 a2
    have d1 : loadP prog H 75 (elAdr a encB.z n 0) = some (.agg [.int .i64 x.1, .int .i64 x.2.1, .int .i64 x.2.2]) := ha.load (P := prog) Fc.ty75 hx
    have d2 : loadP prog H 75 (elAdr b encB.z n 0) = some (.agg [.int .i64 x.1, .int .i64 x.2.1, .int .i64 x.2.2]) := hb.load (P := prog) Fc.ty75 hx
    have hsp := @Nat.succ_ne_zero; repeat' (first | simp (disch := first | exact dschE59 | fail) only [go_sem, ↓reduceIte, hsp, r13, p0, p1, p12, hlt, a1, a2, d1, d2, Fc.ne75, eq_self, and_self, not_true, decide_false] | refine WP_drw ?_ | refine cnd_intro (fun hsp => ?_) fun hsp => ?_)
    exact ⟨by (repeat first | exact Agree.refl | assumption | refine Agree.put rfl ?_ | refine Agree.put0 ?_ | refine Agree.sub rfl (by assumption) ?_), by omega⟩
  · rintro fr H hA ⟨r13, eH⟩
    subst eH
    have p0 := hA 0 rfl
    have p1 := hA 1 rfl
    have p12 := hA 12 rfl
    try simp (disch := first | exact dschE59 | fail) only [go_sem, ↓reduceIte] at p0 p1 p12
    have hlt : ((l.length : Int) < (l.length : Int)) = False := eq_false (by omega)
    have hsp := @Nat.succ_ne_zero; repeat' (first | simp (disch := first | exact dschE59 | fail) only [go_sem, ↓reduceIte, hsp, r13, p0, p1, p12, hlt] | refine WP_drw ?_ | refine cnd_intro (fun hsp => ?_) fun hsp => ?_)
    exact fB rfl
theorem run_eqB {base : Nat} {h : Heap} {a b : AVal} {l : List Brk} (ha : Rows encB h a l) (hb : Rows encB h b l) (hl : l.length ≤ 1000) : callL prog raw base (.fn 47 [] []) [a, b] h = some (.bool true, h) := by
  have e := fun base => run_eqB0 (base := base) ha hb hl
  refine callL_run func47 rfl rfl ?_
  have hsp := @Nat.succ_ne_zero; repeat' (first | simp (disch := first | exact dschE59 | fail) only [go_sem, ↓reduceIte, hsp, e] | refine WP_drw ?_ | refine cnd_intro (fun hsp => ?_) fun hsp => ?_)
  exact fB rfl
end Go.AM
