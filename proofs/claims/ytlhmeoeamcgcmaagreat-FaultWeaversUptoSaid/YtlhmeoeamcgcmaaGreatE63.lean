/-
  Contracts: the reference's weavers.
-/
import Derived.Test.YtlhmeoeamcgcmaaGreatE62
set_option linter.unusedSimpArgs false
set_option linter.unusedVariables false
namespace Go.AM
open Go.Proofs.Tryz
theorem dschE63 {p : Prop} (h : p := by first | exact Nat.ne_of_beq_eq_false rfl | assumption | (apply asOne; (first | exact One.int | exact One.bool | assumption | exact Ints.one (by assumption) | exact Rows.one (by assumption) | exact Own.one (by assumption) | exact One.lit ⟨rfl, rfl, rfl⟩)) | (apply asInts; (repeat first | assumption | exact ints_nil | apply Ints.app); done) | (apply asRows; (repeat first | assumption | exact Rows.nil | apply Rows.app); done) | (apply asScal; (first | apply allS1 | apply allS2 | apply allS3 | apply allS4) <;> (first | exact One.int | exact One.bool | assumption | exact Ints.one (by assumption) | exact Rows.one (by assumption) | exact Own.one (by assumption) | exact One.lit ⟨rfl, rfl, rfl⟩)) | exact litT rfl | exact litF rfl | omega | (simp only [List.length_append, List.length_cons, List.length_nil, List.length_set, List.length_reverse]; first | done | omega) | fail) : p := h
attribute [-go_sem] put_ne put_same
attribute [local go_sem ↓] put_if

theorem Parts.atW {h : Heap} {pv : AVal} {ps : List Prt} {k : Nat} {p : Prt} (hP : Parts h pv ps) (hp : ps[k]? = some p) : ∃ a a3, indexAddrA prog 29 pv (.int .i64 (k : Int)) = some a ∧ fieldAddrA prog 125 a 3 = some a3 ∧ (∀ H, Ext h H → loadP prog H 4 a3 = some (.bool p.wv)) := by
  obtain ⟨vs, hR, hvl, h3⟩ := hP
  have hkl : k < ps.length := (List.getElem?_eq_some_iff.1 hp).1
  have hx : vs[k]? = some vs[k] := List.getElem?_eq_getElem (by omega)
  obtain ⟨q1, q2, q3, q4⟩ := h3 k _ _ hx hp
  have had := hR.addr (P := prog) (i := (k : Int)) Fc.el29 Fc.ar29 (by omega) (by omega)
  rw [Int.toNat_natCast] at had
  refine ⟨_, _, had, elAdr_field (P := prog) (i := k) (o := 0) (off := 3) (q := false) (n := 1) hR (by omega) (by kernel_rfl) (by decide), fun H e => ?_⟩
  rw [(hR.ext e).cell Fc.ty4 hx (o := 3) (a := .bool p.wv) (by simp [encP, q4])]
set_option maxHeartbeats 2000000 in
theorem run_weaverR {base : Nat} {h : Heap} {L : Lom} {pv sv tv : AVal} {t : List Brk} {k : Nat} {s : Sgt} (hP : Parts h pv L.ps) (hS : Rows encS h sv L.ss) (hc : chkM L = 0) (hr : ∀ p ∈ L.ps, p.rib.length ≤ 1000) (hT : Rows encB h tv t) (htl : t.length ≤ 1000) (ht : ∀ b ∈ t, brkOk L b) (hs : L.ss[k]? = some s) :
    callL prog raw base (.fn 41 [] []) [lomV L.R L.T pv sv, tv, .int .i64 (k : Int)] h = some (.bool (wvB L t s), h) := by
  have ho := hP.one
  have ho2 := hS.one
  have ho3 := hT.one
  obtain ⟨k1, k2, k3, k4, k5, k6⟩ := chkM_ok hc
  have k6s := k6 s (List.mem_of_getElem? hs)
  have hk : k < L.ss.length := (List.getElem?_eq_some_iff.1 hs).1
  obtain ⟨G, eG⟩ : ∃ G, G = h ++ [(⟨.cells [.int .i64 L.R, .int .i64 L.T, pv, sv] 32 false false, 0⟩ : ABlk)] := ⟨_, rfl⟩
  have xG : Ext h G := by rw [eG]; exact .app .refl
  have g1 : G[h.length]? = some ⟨.cells [.int .i64 L.R, .int .i64 L.T, pv, sv] 32 false false, 0⟩ := by rw [eG]; exact get_eq rfl
  have hTG := hT.ext xG
  have hl := hTG.len (P := prog) Fc.el66
  have ads := (hS.ext xG).addr (P := prog) (i := (k : Int)) Fc.el30 Fc.ar30 (by omega) (by omega)
  rw [Int.toNat_natCast] at ads
  have ss1 : loadP prog G 126 (elAdr sv encS.z k 0) = some (.agg [.int .i64 s.rib, .int .i64 s.lo, .int .i64 s.hi, .bool s.bad]) := (hS.ext xG).load (P := prog) Fc.ty126 hs
  have tc := fun (base : Nat) (b : Brk) (hb : b ∈ t) => run_touches (base := base) (s := s) (hP.ext xG) ho2 hc hr (ht b hb) ⟨by omega, by omega, by omega⟩
  simp only [encB, encS] at tc
  refine callL_run func41 rfl rfl ?_
  have hsp := @Nat.succ_ne_zero; repeat' (first | simp (disch := first | exact dschE63 | fail) only [go_sem, ↓reduceIte, hsp, ← eG] | refine WP_drw ?_ | refine cnd_intro (fun hsp => ?_) fun hsp => ?_)
  refine WP_count [(6, 36)] 0 t.length (Nat.zero_le _) (fun _ i fr h' => fr 7 = .int .i64 (i : Int) ∧ h' = G ∧ ((t.take i).any fun b => (prtOf L b).wv && splB L b s) = false) ?_ ?_ ?_
  · exact ⟨by (simp (disch := first | exact dschE63 | fail) only [go_sem, ↓reduceIte, Int.natCast_zero]; first | done | rfl), rfl, by simp⟩
  · rintro i fr H hi0 hi hA ⟨r7, eH, hno⟩
    subst eH
    have p1 := hA 1 rfl
    have p2 := hA 2 rfl
    have p3 := hA 3 rfl
    try simp (disch := first | exact dschE63 | fail) only [go_sem, ↓reduceIte] at p1 p2 p3
    have pr1 := hA 1 rfl
    simp (disch := first | exact dschE63 | fail) only [go_sem, ↓reduceIte] at pr1
    have pr2 := hA 2 rfl
    simp (disch := first | exact dschE63 | fail) only [go_sem, ↓reduceIte] at pr2
    have hlt : ((i : Int) < (t.length : Int)) = True := eq_true (by omega)
    obtain ⟨x, ex⟩ : ∃ x, x = t.getD i brk0 := ⟨_, rfl⟩
    have hx : t[i]? = some x := by rw [ex]; exact getD_some hi
    have hxo := ht x (List.mem_of_getElem? hx)
    have ad := brkAddr hTG hi
    have d1 := brkLoad hTG hx
    have f1 : fieldAddrA prog 128 (elAdr tv encB.z i 0) 0 = some (elAdr tv encB.z i 0) := elAdr_field (P := prog) (i := i) (o := 0) (off := 0) (q := false) (n := 1) hTG (by omega) (by kernel_rfl) (by decide)
    have l1 : loadP prog H 3 (elAdr tv encB.z i 0) = some (.int .i64 x.1) := hTG.cell (P := prog) Fc.ty3 hx (o := 0) (a := .int .i64 x.1) rfl
    obtain ⟨n, en⟩ := Int.eq_ofNat_of_zero_le hxo.1
    have hn : n < L.ps.length := by have := hxo.2.1; omega
    obtain ⟨q, eq⟩ : ∃ q, q = prtOf L x := ⟨_, rfl⟩
    have hq : L.ps[n]? = some q := by
      rw [eq]
      unfold prtOf
      rw [show x.1.toNat = n by omega]
      exact getD_some hn
    obtain ⟨a, a3, adp, fp, lp⟩ := (hP.ext xG).atW hq
    rw [← en] at adp
    have lw := lp _ .refl
    have e := fun base => tc base x (List.mem_of_getElem? hx)
    rcases Bool.eq_false_or_eq_true q.wv with w1 | w1
    · rw [w1] at lw
      rcases Bool.eq_false_or_eq_true (splB L x s) with c1 | c1
      · rw [c1] at e
        have r : wvB L t s = true := List.any_eq_true.2 ⟨x, List.mem_of_getElem? hx, by rw [← eq, w1, c1]; rfl⟩
        rw [r]
        have hsp := @Nat.succ_ne_zero; repeat' (first | simp (disch := first | exact dschE63 | fail) only [go_sem, ↓reduceIte, hsp, r7, pr1, pr2, p1, p2, p3, hlt, hl, g1, ad, d1, f1, l1, adp, fp, lw, ads, ss1, e] | refine WP_drw ?_ | refine cnd_intro (fun hsp => ?_) fun hsp => ?_)
        exact fB rfl xG
      · rw [c1] at e
        have hsp := @Nat.succ_ne_zero; repeat' (first | simp (disch := first | exact dschE63 | fail) only [go_sem, ↓reduceIte, hsp, r7, pr1, pr2, p1, p2, p3, hlt, hl, g1, ad, d1, f1, l1, adp, fp, lw, ads, ss1, e] | refine WP_drw ?_ | refine cnd_intro (fun hsp => ?_) fun hsp => ?_)
        exact ⟨by (repeat first | exact Agree.refl | assumption | refine Agree.put rfl ?_ | refine Agree.put0 ?_ | refine Agree.sub rfl (by assumption) ?_), by omega, by rw [any_take_succ _ hx, hno, c1, Bool.and_false]; rfl⟩
    · rw [w1] at lw
      have hsp := @Nat.succ_ne_zero; repeat' (first | simp (disch := first | exact dschE63 | fail) only [go_sem, ↓reduceIte, hsp, r7, pr1, pr2, p1, p2, p3, hlt, hl, g1, ad, d1, f1, l1, adp, fp, lw] | refine WP_drw ?_ | refine cnd_intro (fun hsp => ?_) fun hsp => ?_)
      exact ⟨by (repeat first | exact Agree.refl | assumption | refine Agree.put rfl ?_ | refine Agree.put0 ?_ | refine Agree.sub rfl (by assumption) ?_), by omega, by rw [any_take_succ _ hx, hno, ← eq, w1]; rfl⟩
  · rintro fr H hA ⟨r7, eH, hno⟩
    subst eH
    have p1 := hA 1 rfl
    have p2 := hA 2 rfl
    have p3 := hA 3 rfl
    try simp (disch := first | exact dschE63 | fail) only [go_sem, ↓reduceIte] at p1 p2 p3
    have pr1 := hA 1 rfl
    simp (disch := first | exact dschE63 | fail) only [go_sem, ↓reduceIte] at pr1
    have hlt : ((t.length : Int) < (t.length : Int)) = False := eq_false (by omega)
    rw [List.take_length] at hno
    have r : wvB L t s = false := hno
    rw [r]
    have hsp := @Nat.succ_ne_zero; repeat' (first | simp (disch := first | exact dschE63 | fail) only [go_sem, ↓reduceIte, hsp, r7, pr1, p1, p2, p3, hlt, hl] | refine WP_drw ?_ | refine cnd_intro (fun hsp => ?_) fun hsp => ?_)
    exact fB rfl xG
end Go.AM
