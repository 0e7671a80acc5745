/-
  FaultApart, walked.
-/
import Derived.Test.YtlhmeoeamcgcmaaG5
set_option linter.unusedSimpArgs false
set_option linter.unusedVariables false
namespace Go.AM
open Go.Proofs.Try
theorem dschE38 {p : Prop} (h : p := by first | exact Nat.ne_of_beq_eq_false rfl | assumption | (apply asOne; (first | exact One.int | exact One.bool | assumption | exact Ints.one (by assumption) | exact Rows.one (by assumption) | exact Own.one (by assumption) | exact One.lit ⟨rfl, rfl, rfl⟩)) | (apply asSp; (repeat first | assumption | apply SpAt.set | (refine SpAt.new ?_ (by (first | rfl | (simp only [List.length_append, List.length_cons, List.length_nil, List.length_set]; done) | (simp only [List.length_append, List.length_cons, List.length_nil, List.length_set]; omega)))) | apply SpAt.app | apply Bytes.app); done) | (apply asBytes; (repeat first | assumption | apply Bytes.app); done) | (apply asInts; (repeat first | assumption | exact ints_nil | apply Ints.app); done) | (apply asRows; (repeat first | assumption | exact Rows.nil | apply Rows.app); done) | (apply asScal; (first | apply allS1 | apply allS2 | apply allS3 | apply allS4) <;> (first | exact One.int | exact One.bool | assumption | exact Ints.one (by assumption) | exact Rows.one (by assumption) | exact Own.one (by assumption) | exact One.lit ⟨rfl, rfl, rfl⟩)) | exact litT rfl | exact litF rfl | omega | (simp only [List.length_append, List.length_cons, List.length_nil, List.length_set, List.length_reverse]; first | done | omega) | fail) : p := h
attribute [-go_sem] put_ne put_same
attribute [local go_sem ↓] put_if

theorem SpE.old {H h' : Heap} {v : AVal} {silk : List Int} {k0 k : Nat} (x : SpE (H ++ [spB v silk k0]) H.length v silk k h') : Ext H h' := by
  unfold SpE at x
  rw [List.set_append_right _ _ (Nat.le_refl _)] at x
  exact (Ext.app .refl).trans x
theorem run_ap1 {base i1 i2 : Nat} {h : Heap} {L : Lom} {pv sv : AVal} {b : Brk} {s : Sgt} (g1 : h[i1]? = some (lmB' L pv sv)) (g2 : h[i2]? = some ⟨.cells [.int .i64 b.1, .int .i64 b.2.1, .int .i64 b.2.2] 61 false false, 0⟩) (hP : Parts h pv L.ps) (hS : One sv) (hc : chkM L = 0) (hb : brkOk L b) (hs : sgOk s) :
    callL prog raw base (.fn 32 [] [.ptr (some ⟨i1, 0, 0⟩), .ptr (some ⟨i2, 0, 0⟩)]) [.agg (encS.cells s)] h = some (.bool (!s.bad && splB L b s), h) := by
  have e : ∀ {base : Nat} {a : ABlk}, callL prog raw base (.fn 33 [] []) [lomV L.R L.T pv sv, .agg (encB.cells b), .agg (encS.cells s)] (h ++ [a]) = some (.bool (splB L b s), h ++ [a]) := fun {base a} => run_spoilsC (hP.ext (.app .refl)) hS hc hb hs
  rw [lmB'] at g1
  have g1' : ∀ {a : ABlk}, (h ++ [a])[i1]? = _ := fun {a} => get_app g1
  have g2' : ∀ {a : ABlk}, (h ++ [a])[i2]? = _ := fun {a} => get_app g2
  simp only [encB, encS] at e ⊢
  refine callL_run func32 rfl rfl ?_
  cases hbd : s.bad with
  | true =>
    rw [hbd] at e
    have hsp := @Nat.succ_ne_zero; repeat' (first | simp (disch := first | exact dschE38 | fail) only [go_sem, ↓reduceIte, hsp, g1', g2', e, Bool.not_true, eq_self, Bool.false_eq_true] | refine WP_drw ?_ | refine cnd_intro (fun hsp => ?_) fun hsp => ?_)
    exact fB (Bool.false_and _).symm
  | false =>
    rw [hbd] at e
    have hsp := @Nat.succ_ne_zero; repeat' (first | simp (disch := first | exact dschE38 | fail) only [go_sem, ↓reduceIte, hsp, g1', g2', e, Bool.not_false, eq_self, Bool.false_eq_true] | refine WP_drw ?_ | refine cnd_intro (fun hsp => ?_) fun hsp => ?_)
    exact fB (Bool.true_and _).symm
theorem run_ap2 {base i1 i2 i3 : Nat} {h : Heap} {L : Lom} {pv sv : AVal} {b : Brk} {s u : Sgt} (g1 : h[i1]? = some (lmB' L pv sv)) (g2 : h[i2]? = some (sgB' s)) (g3 : h[i3]? = some (sgB' u)) (hP : Parts h pv L.ps) (hS : One sv) (hc : chkM L = 0) (hb : brkOk L b) (hs : sgOk s) (hu : sgOk u) :
    callL prog raw base (.fn 35 [] [.ptr (some ⟨i1, 0, 0⟩), .ptr (some ⟨i2, 0, 0⟩), .ptr (some ⟨i3, 0, 0⟩)]) [.agg (encB.cells b)] h = some (.bool (splB L b s && splB L b u), h) := by
  have e : ∀ {base : Nat} {a : ABlk}, callL prog raw base (.fn 33 [] []) [lomV L.R L.T pv sv, .agg (encB.cells b), .agg (encS.cells s)] (h ++ [a]) = some (.bool (splB L b s), h ++ [a]) := fun {base a} => run_spoilsC (hP.ext (.app .refl)) hS hc hb hs
  have e2 : ∀ {base : Nat} {a : ABlk}, callL prog raw base (.fn 33 [] []) [lomV L.R L.T pv sv, .agg (encB.cells b), .agg (encS.cells u)] (h ++ [a]) = some (.bool (splB L b u), h ++ [a]) := fun {base a} => run_spoilsC (hP.ext (.app .refl)) hS hc hb hu
  rw [lmB'] at g1
  rw [sgB'] at g2 g3
  have g1' : ∀ {a : ABlk}, (h ++ [a])[i1]? = _ := fun {a} => get_app g1
  have g2' : ∀ {a : ABlk}, (h ++ [a])[i2]? = _ := fun {a} => get_app g2
  have g3' : ∀ {a : ABlk}, (h ++ [a])[i3]? = _ := fun {a} => get_app g3
  simp only [encB, encS] at e e2 ⊢
  refine callL_run func35 rfl rfl ?_
  have hsp := @Nat.succ_ne_zero; repeat' (first | simp (disch := first | exact dschE38 | fail) only [go_sem, ↓reduceIte, hsp, g1', g2', g3', e, e2] | refine WP_drw ?_ | refine cnd_intro (fun hsp => ?_) fun hsp => ?_)
  · exact fB (Bool.true_and _).symm
  · exact fB (Bool.false_and _).symm
theorem stE38 {base : Nat} {l : List Oper} {s : St} {Q : AExit → St → Prop} : WP prog raw base (.region 10 l.toArray true) s Q = WPS prog raw base (.region 10 l.toArray true) s Q := WP_stop
attribute [local go_sem ↓ 3000] stE38
set_option maxRecDepth 100000 in
set_option maxHeartbeats 4000000 in
theorem run_FaultApart {base : Nat} {h : Heap} {v0 v1 : AVal} {s0 s1 : List Int} (hB0 : Bytes h v0 s0) (hB1 : Bytes h v1 s1) :
    callL prog raw base (.fn 5 [] []) [v0, v1] h = some (.bool true, h) := by
  obtain ⟨H1, L, t, pv, sv, tv, e1, x1, M1, b1, b2, b3, b4⟩ := run_start (base := h.length) (T0 := 10) (P0 := 5) (S0 := 8) (Nat.le_refl _) hB0 (by omega) (by omega) (by omega)
  obtain ⟨k1, k2, k3, k4, k5, k6⟩ := chkM_ok M1.hc
  have hp1 := M1.hP.one
  have hs1 := M1.hS.one
  have ht1 := M1.hT.one
  have hv1 := hB1.one
  have y1 : Ext h (H1 ++ [lmB' L pv sv]) := x1.trans (.app .refl)
  have M2 := M1.ext (.app (t := [lmB' L pv sv]) .refl)
  obtain ⟨w2, H2, e2, x2, u2, rfl, o2⟩ := run_fewest (base := h.length) y1.len M2.lom M2.ok
  obtain ⟨w3, H3, e3, x3, u3, rfl, o3⟩ := run_packed (base := h.length) (y1.trans x2).len (M2.lom.ext x2) M2.ok
  have hf := fewM_truth M1.hc M1.xp
  have hk := pckM_best M1.hc M1.xp
  rw [hf.1] at e2
  rw [hk.1] at e3
  have y3 := (y1.trans x2).trans x3
  have M3 := (M2.ext x2).ext x3
  have gl3 : H3[H1.length]? = some (lmB' L pv sv) := (x2.trans x3).get (by simp)
  have gl2 : H2[H1.length]? = some (lmB' L pv sv) := x2.get (by simp)
  have hl13 : H1.length < H3.length := lt_of_get gl3
  have hSp3 : SpAt (H3 ++ [spB v1 s1 0]) H3.length v1 s1 0 := SpAt.new (hB1.ext y3) rfl
  have hw := run_wound (base := h.length) (hB1.ext y3)
  have hw0 := run_wound (base := h.length) hB0
  unfold lmB' at e2 gl2 gl3
  have hl1 := x1.len
  have hl3 := y3.len
  refine callL_run func5 rfl rfl ?_
  have hsp := @Nat.succ_ne_zero; repeat' (first | simp (disch := first | exact dschE38 | fail) only [go_sem, ↓reduceIte, hsp, hw0, e1, e2, e3, hw, gl2, gl3, eq_self] | refine WP_drw ?_ | refine cnd_intro (fun hsp => ?_) fun hsp => ?_)
  refine WP_count [(12, 82)] 0 12 (Nat.zero_le _) (fun _ i fr h' => fr 48 = .int .i64 (i : Int) ∧ ∃ bs k2, k2 ≤ 3 * i ∧ SpE (H3 ++ [spB v1 s1 0]) H3.length v1 s1 k2 h' ∧ ∃ w, fr 12 = w ∧ Own encB 61 (H3.length + 1) h' w bs ∧ bs.length ≤ i ∧ ∀ b ∈ bs, brkOk L b ∧ clean L (allI L) b) ?_ ?_ ?_
  · exact ⟨by (simp (disch := first | exact dschE38 | fail) only [go_sem, ↓reduceIte, Int.natCast_zero]; first | done | rfl), [], 0, by omega, SpE.refl hSp3, _, by simp (disch := first | exact dschE38 | fail) only [go_sem, ↓reduceIte], Own.nil, Nat.le_refl _, fun b hb => by simp at hb⟩
  · rintro i fr H hi0 hi hA ⟨r48, bs, kk, hk2, xH, w, r12, oB, hbl, hbs⟩
    have p4 := hA 4 rfl
    have p5 := hA 5 rfl
    have p7 := hA 7 rfl
    have p9 := hA 9 rfl
    have p11 := hA 11 rfl
    try simp (disch := first | exact dschE38 | fail) only [go_sem, ↓reduceIte] at p4 p5 p7 p9 p11
    have hlt : ((i : Int) < 12) = True := eq_true (by omega)
    have hSp := xH.at hSp3
    have hkk : kk ≤ 1000000 := by omega
    have xO := xH.old
    have hHl := xH.len
    simp only [List.length_append, List.length_cons, List.length_nil] at hHl
    have gl : H[H1.length]? = some ⟨.cells [.int .i64 L.R, .int .i64 L.T, pv, sv] 26 false false, 0⟩ := xO.get gl3
    have gl' : ∀ {b : ABlk}, (H.set H3.length b)[H1.length]? = some ⟨.cells [.int .i64 L.R, .int .i64 L.T, pv, sv] 26 false false, 0⟩ := fun {b} => by rw [List.getElem?_set_ne (by omega)]; exact gl
    have u1 := up_bd (silk := s1) (k := kk) (n := L.T - 1) (by omega)
    have u2 := up_bd (silk := s1) (k := kk + 1) (n := L.T - 1) (by omega)
    have u3 := up_bd (silk := s1) (k := kk + 1 + 1) (n := (L.ps.length : Int) - 1) (by omega)
    have hsp := @Nat.succ_ne_zero; repeat' (first | simp (disch := first | exact dschE38 | fail) only [go_sem, ↓reduceIte, hsp, r48, r12, p4, p5, p7, p9, p11, hlt] | refine WP_drw ?_ | refine cnd_intro (fun hsp => ?_) fun hsp => ?_)
    refine WPS_go ?_
    refine WP_wild [⟨7, 3, 56, ⟨H1.length, 0, 1⟩, .int .i64 L.T, 9⟩] (by kernel_rfl) (by kernel_rfl) (by kernel_rfl) ⟨refsLow_int, trivial⟩ fun K hK => ?_
    iterate 12
      rw [TRS_cons]
      refine ⟨by first | (simp (disch := first | exact dschE38 | fail) only [go_sem, ↓reduceIte, run_upto, r48, r12, p4, p5, p7, p9, p11, gl, gl', ldsQ_cons, ldsQ_nil, if_true, Nat.reduceLeDiff]; done) | exact trivial, ?_⟩
      simp (disch := first | exact dschE38 | fail) only [go_sem, ↓reduceIte, run_upto, r48, r12, p4, p5, p7, p9, p11, gl, gl']
    rw [TRS_nil]
    refine ⟨by first | (simp (disch := first | exact dschE38 | fail) only [go_sem, ↓reduceIte, run_upto, r48, r12, p4, p5, p7, p9, p11, gl, gl', ldsQ_cons, ldsQ_nil, if_true, Nat.reduceLeDiff]; done) | exact trivial, ?_⟩
    subst hK
    have hid3 : H3.length < (H3 ++ [spB v1 s1 0]).length := by simp
    have xK : ∀ {k' : Nat}, Ext H3 (H.set H3.length (spB v1 s1 k')) := fun {k'} => (xH.step (k' := k') hid3).old
    have hlP : ∀ {k' : Nat}, lenOpA prog (H.set H3.length (spB v1 s1 k')) 23 pv = some (.int .i64 (L.ps.length : Int)) := fun {k'} => (M3.ext xK).hP.len
    obtain ⟨nb, enb⟩ : ∃ nb : Brk, nb = (up s1 (kk + 1 + 1) ((L.ps.length : Int) - 1), min (up s1 kk (L.T - 1)) (up s1 (kk + 1) (L.T - 1)), max (up s1 kk (L.T - 1)) (up s1 (kk + 1) (L.T - 1))) := ⟨_, rfl⟩
    have hnb : brkOk L nb := by rw [enb]; exact ⟨by simp only; omega, by simp only; omega, by simp only; omega, by simp only; omega, by simp only; omega⟩
    have eb1 : nb.1 = up s1 (kk + 1 + 1) ((L.ps.length : Int) - 1) := by rw [enb]
    have eb2 : nb.2.1 = min (up s1 kk (L.T - 1)) (up s1 (kk + 1) (L.T - 1)) := by rw [enb]
    have eb3 : nb.2.2 = max (up s1 kk (L.T - 1)) (up s1 (kk + 1) (L.T - 1)) := by rw [enb]
    obtain ⟨H4, eH4⟩ : ∃ H4, H4 = H.set H3.length (spB v1 s1 (kk + 1 + 1 + 1)) ++ [⟨.cells [.int .i64 nb.1, .int .i64 nb.2.1, .int .i64 nb.2.2] 61 false false, 0⟩] := ⟨_, rfl⟩
    have xS4 : SpE (H3 ++ [spB v1 s1 0]) H3.length v1 s1 (kk + 1 + 1 + 1) H4 := by rw [eH4]; exact (xH.step hid3).app
    have x4 := xS4.old
    have M4 := M3.ext x4
    have gl4 : H4[H1.length]? = some (lmB' L pv sv) := x4.get gl3
    have oB4 : Own encB 61 (H3.length + 1) H4 w bs := by rw [eH4]; exact (oB.set (by omega)).app
    have hl4 : H4.length = H.length + 1 := by rw [eH4]; simp
    have gb4 : H4[H.length]? = some ⟨.cells [.int .i64 nb.1, .int .i64 nb.2.1, .int .i64 nb.2.2] 61 false false, 0⟩ := by rw [eH4]; exact get_eq (by simp)
    have hany := fun base => anyF_S (base := base) (h := H4) (g := .fn 32 [] [.ptr (some ⟨H1.length, 0, 0⟩), .ptr (some ⟨H.length, 0, 0⟩)]) (fun s => !s.bad && splB L nb s) M4.hS (fun base s hs => run_ap1 gl4 gb4 M4.hP hs1 M4.hc hnb (sgOk_of M4.hc s hs))
    unfold lmB' at gl4
    have cl : ((L.ss.any fun s => !s.bad && splB L nb s) = false) → clean L (allI L) nb := fun q i hi hb htc => by
      have hm := sgtI_mem (upto_mem.1 hi)
      have := List.any_eq_false.1 q _ hm
      rw [show (sgtI L i).bad = false from hb, (splB_iff hnb).2 htc] at this
      exact this rfl
    have hRw : ∀ {A : Heap}, Rows encB (A ++ [rowE encB 61 [nb] 0]) (.slice (some ⟨A.length, 0, 0⟩) 1 1) [nb] := fun {A} => Rows.own (get_eq rfl) rfl (by simp)
    obtain ⟨v', h', ea, hO', hle, hE, h1'⟩ := (oB4.app (T := [rowE encB 61 [nb] 0])).appendR (base := h.length) (t := 27) hRw Fc.el27 encB_sc (by omega) (by simp; omega) (by simp) (by simp; omega)
    have bsN : ∀ {lit : Bool} {A : Heap}, bsA prog lit A 27 1 [(0, .agg [.int .i64 nb.1, .int .i64 nb.2.1, .int .i64 nb.2.2])] = some (.slice (some ⟨A.length, 0, 0⟩) 1 1, A ++ [rowE encB 61 [nb] 0]) := fun {lit A} => bsB
    cases ha : L.ss.any fun s => !s.bad && splB L nb s with
    | true =>
      rw [ha] at hany
      have hsp := @Nat.succ_ne_zero; repeat' (first | simp (disch := first | exact dschE38 | fail) only [go_sem, ↓reduceIte, hsp, run_upto, r48, r12, p4, p5, p7, p9, p11, gl, gl', hlP, ← eb1, ← eb2, ← eb3, ← eH4, hany, gl4, Bool.not_true, Bool.false_eq_true] | refine WP_drw ?_ | refine cnd_intro (fun hsp => ?_) fun hsp => ?_)
      exact ⟨by (repeat first | exact Agree.refl | assumption | refine Agree.put rfl ?_ | refine Agree.put0 ?_ | refine Agree.sub rfl (by assumption) ?_), by omega, bs, kk + 1 + 1 + 1, by omega, xS4, w, rfl, oB4, by omega, hbs⟩
    | false =>
      rw [ha] at hany
      have hsp := @Nat.succ_ne_zero; repeat' (first | simp (disch := first | exact dschE38 | fail) only [go_sem, ↓reduceIte, hsp, run_upto, r48, r12, p4, p5, p7, p9, p11, gl, gl', hlP, ← eb1, ← eb2, ← eb3, ← eH4, hany, gl4, gb4, Bool.not_false, eq_self, bsN, ea] | refine WP_drw ?_ | refine cnd_intro (fun hsp => ?_) fun hsp => ?_)
      refine ⟨by (repeat first | exact Agree.refl | assumption | refine Agree.put rfl ?_ | refine Agree.put0 ?_ | refine Agree.sub rfl (by assumption) ?_), by omega, bs ++ [nb], kk + 1 + 1 + 1, by omega, hE _ (by simp) xS4.app, v', rfl, hO', by simp; omega, fun b hb => ?_⟩
      rcases List.mem_append.1 hb with hb | hb
      · exact hbs b hb
      · rw [List.mem_singleton] at hb; rw [hb]; exact ⟨hnb, cl ha⟩
  · rintro fr H hA ⟨r48, bs, kk, hk2, xH, w, r12, oB, hbl, hbs⟩
    have p4 := hA 4 rfl
    have p5 := hA 5 rfl
    have p7 := hA 7 rfl
    have p9 := hA 9 rfl
    have p11 := hA 11 rfl
    try simp (disch := first | exact dschE38 | fail) only [go_sem, ↓reduceIte] at p4 p5 p7 p9 p11
    have hlt : ((12 : Int) < 12) = False := eq_false (by omega)
    have xO := xH.old
    have gl : H[H1.length]? = some ⟨.cells [.int .i64 L.R, .int .i64 L.T, pv, sv] 26 false false, 0⟩ := xO.get gl3
    have hlS : lenOpA prog H 24 sv = some (.int .i64 (L.ss.length : Int)) := (M3.ext xO).hS.len Fc.el24
    have hsp := @Nat.succ_ne_zero; repeat' (first | simp (disch := first | exact dschE38 | fail) only [go_sem, ↓reduceIte, hsp, r48, r12, p4, p5, p7, p9, p11, hlt, gl, hlS] | refine WP_drw ?_ | refine cnd_intro (fun hsp => ?_) fun hsp => ?_)
    have MH := M3.ext xO
    have oBH := oB.rows (show bs.length < 2 ^ 60 by omega)
    have hw1 := oB.one
    have hu2 := o2.one
    have hu3 := o3.one
    have c2H : lenOpA prog H 27 u2 = some (.int .i64 ((fewM L).1.length : Int)) := own_len (o2.ext (x3.trans xO)) Fc.el27 (by have := truth_len hf.2.1.1; omega)
    have hkl : (pckM L).1.length ≤ 10 := by have := hk.2.1.length_le; have := (deskL_A M1.hc M1.ok).2.1; omega
    have c3H : lenOpA prog H 32 u3 = some (.int .i64 ((pckM L).1.length : Int)) := own_len (o3.ext xO) Fc.el32 (by omega)
    have yH := y3.trans xO
    have hHl := yH.len
    refine WP_count [(4, 4), (16, 23), (86, 165)] 0 L.ss.length (Nat.zero_le _) (fun _ a fr h' => fr 86 = .int .i64 (a : Int) ∧ Ext H h') ?_ ?_ ?_
    · exact ⟨by (simp (disch := first | exact dschE38 | fail) only [go_sem, ↓reduceIte, Int.natCast_zero]; first | done | rfl), .refl⟩
    · rintro a fr2 G ha0 ha hA2 ⟨r86, xG⟩
      have q5 := hA2 5 rfl
      have q7 := hA2 7 rfl
      have q9 := hA2 9 rfl
      have q12 := hA2 12 rfl
      have q84 := hA2 84 rfl
      have q85 := hA2 85 rfl
      try simp (disch := first | exact dschE38 | fail) only [go_sem, ↓reduceIte, p5, p7, p9] at q5 q7 q9 q12 q84 q85
      have hlta : ((a : Int) < (L.ss.length : Int)) = True := eq_true (by omega)
      have MG := MH.ext xG
      have hga := getD_some (d := sgt0) ha
      have hada := MG.hS.addr (P := prog) (i := (a : Int)) Fc.el24 Fc.ar24 (by omega) (by omega)
      rw [Int.toNat_natCast] at hada
      obtain ⟨x, ex⟩ : ∃ x, x = L.ss.getD a sgt0 := ⟨_, rfl⟩
      have hlda : loadP prog G 39 (elAdr sv encS.z a 0) = some (.agg [.int .i64 x.rib, .int .i64 x.lo, .int .i64 x.hi, .bool x.bad]) := by rw [ex]; exact MG.hS.load (P := prog) Fc.ty39 hga
      have glG : G[H1.length]? = some ⟨.cells [.int .i64 L.R, .int .i64 L.T, pv, sv] 26 false false, 0⟩ := xG.get gl
      have glG' : ∀ {T : Heap}, (G ++ T)[H1.length]? = some ⟨.cells [.int .i64 L.R, .int .i64 L.T, pv, sv] 26 false false, 0⟩ := fun {T} => get_app glG
      have hlSG : ∀ {T : Heap}, lenOpA prog (G ++ T) 24 sv = some (.int .i64 (L.ss.length : Int)) := fun {T} => MG.hS.app.len Fc.el24
      have hGl := xG.len
      have hsp := @Nat.succ_ne_zero; repeat' (first | simp (disch := first | exact dschE38 | fail) only [go_sem, ↓reduceIte, hsp, r86, q5, q7, q9, q12, q84, q85, p4, p5, p7, p9, p11, hlta, hada, hlda, glG', hlSG] | refine WP_drw ?_ | refine cnd_intro (fun hsp => ?_) fun hsp => ?_)
      refine WP_count [(4, 4), (18, 23), (94, 164)] 0 L.ss.length (Nat.zero_le _) (fun _ b fr h' => fr 94 = .int .i64 (b : Int) ∧ Ext (G ++ [sgB' x]) h') ?_ ?_ ?_
      · exact ⟨by (simp (disch := first | exact dschE38 | fail) only [go_sem, ↓reduceIte, Int.natCast_zero]; first | done | rfl), .refl⟩
      · rintro b fr3 K hb0 hb hA3 ⟨r94, xK⟩
        have z5 := hA3 5 rfl
        have z7 := hA3 7 rfl
        have z9 := hA3 9 rfl
        have z12 := hA3 12 rfl
        have z16 := hA3 16 rfl
        have z17 := hA3 17 rfl
        have z84 := hA3 84 rfl
        have z85 := hA3 85 rfl
        have z86 := hA3 86 rfl
        have z92 := hA3 92 rfl
        have z93 := hA3 93 rfl
        try simp (disch := first | exact dschE38 | fail) only [go_sem, ↓reduceIte, q5, q7, q9, q12, q84, q85] at z5 z7 z9 z12 z16 z17 z84 z85 z86 z92 z93
        have hltb : ((b : Int) < (L.ss.length : Int)) = True := eq_true (by omega)
        have xGK : Ext G K := (Ext.app .refl).trans xK
        have MK := MG.ext xGK
        have hgb := getD_some (d := sgt0) hb
        have hadb := MK.hS.addr (P := prog) (i := (b : Int)) Fc.el24 Fc.ar24 (by omega) (by omega)
        rw [Int.toNat_natCast] at hadb
        obtain ⟨y, ey⟩ : ∃ y, y = L.ss.getD b sgt0 := ⟨_, rfl⟩
        have hldb : loadP prog K 39 (elAdr sv encS.z b 0) = some (.agg [.int .i64 y.rib, .int .i64 y.lo, .int .i64 y.hi, .bool y.bad]) := by rw [ey]; exact MK.hS.load (P := prog) Fc.ty39 hgb
        obtain ⟨K2, eK2⟩ : ∃ K2, K2 = K ++ [⟨.cells [.int .i64 y.rib, .int .i64 y.lo, .int .i64 y.hi, .bool y.bad] 39 false false, 0⟩] := ⟨_, rfl⟩
        have xK2 : Ext K K2 := by rw [eK2]; exact .app .refl
        have xHK := (xG.trans xGK).trans xK2
        have MK2 := MH.ext xHK
        have glK : K2[H1.length]? = some ⟨.cells [.int .i64 L.R, .int .i64 L.T, pv, sv] 26 false false, 0⟩ := xHK.get gl
        have gxK : K2[G.length]? = some ⟨.cells [.int .i64 x.rib, .int .i64 x.lo, .int .i64 x.hi, .bool x.bad] 39 false false, 0⟩ := (xK.trans xK2).get (get_eq rfl)
        have gyK : K2[K.length]? = some ⟨.cells [.int .i64 y.rib, .int .i64 y.lo, .int .i64 y.hi, .bool y.bad] 39 false false, 0⟩ := by rw [eK2]; exact get_eq rfl
        have ra := fun base => run_Apart (base := base) (a := (a : Int)) (b := (b : Int)) MK2.lom MK2.ok
        have rb := fun base => run_Apart (base := base) (a := (b : Int)) (b := (a : Int)) MK2.lom MK2.ok
        have c2K : lenOpA prog K2 27 u2 = some (.int .i64 ((fewM L).1.length : Int)) := own_len (o2.ext ((x3.trans xO).trans xHK)) Fc.el27 (by have := truth_len hf.2.1.1; omega)
        have c3K : lenOpA prog K2 32 u3 = some (.int .i64 ((pckM L).1.length : Int)) := own_len (o3.ext (xO.trans xHK)) Fc.el32 (by omega)
        have hxb : badI L (a : Int) = x.bad := by rw [ex]; exact badI_nat
        have hyb : badI L (b : Int) = y.bad := by rw [ey]; exact badI_nat
        have hno : ∀ {i j : Int}, sgtB L i = true → sgtB L j = true → ¬ (badI L i = true ∧ badI L j = true ∧ i ≠ j) → aptM L i j = (false, 8) := fun {i j} h1 h2 h3 => by
          unfold aptM
          rw [if_neg (by simp [M1.hc]), if_neg (fun q => q ⟨h1, h2⟩), if_pos h3]
        have ga := sgtB_iff (L := L) (i := (a : Int)).2 (by omega)
        have gb := sgtB_iff (L := L) (i := (b : Int)).2 (by omega)
        have hKl : h.length ≤ K.length := ((yH.trans xG).trans xGK).len
        have done1 : Ext (G ++ [sgB' x]) K2 := xK.trans xK2
        by_cases good : x.bad = true ∧ y.bad = true ∧ a ≠ b
        · obtain ⟨g1, g2, g3⟩ := good
          have t3 : ((a : Int) = (b : Int)) = False := eq_false (by omega)
          have haD : (0 ≤ (a : Int) ∧ (a : Int) < (L.ss.length : Int)) ∧ badI L (a : Int) = true := ⟨by omega, by rw [hxb, g1]⟩
          have hbD : (0 ≤ (b : Int) ∧ (b : Int) < (L.ss.length : Int)) ∧ badI L (b : Int) = true := ⟨by omega, by rw [hyb, g2]⟩
          obtain ⟨A1, A2⟩ := aptM_iff M1.hc haD hbD (by omega)
          obtain ⟨B1, B2⟩ := aptM_iff M1.hc hbD haD (by omega)
          have eAB : (aptM L (b : Int) (a : Int)).1 = (aptM L (a : Int) (b : Int)).1 := by rw [Bool.eq_iff_iff, A2, B2]; exact ⟨aprT_comm, aprT_comm⟩
          rw [A1] at ra
          rw [B1, eAB] at rb
          have eX : ({ rib := x.rib, lo := x.lo, hi := x.hi, bad := true } : Sgt) = x := by rw [← g1]
          have eY : ({ rib := y.rib, lo := y.lo, hi := y.hi, bad := true } : Sgt) = y := by rw [← g2]
          have gxs : K2[G.length]? = some (sgB' x) := gxK
          have gys : K2[K.length]? = some (sgB' y) := gyK
          rw [g1] at gxK
          rw [g2] at gyK eK2 hldb
          cases hAp : (aptM L (a : Int) (b : Int)).1 with
          | false =>
            rw [hAp] at ra rb
            have hsp := @Nat.succ_ne_zero; repeat' (first | simp (disch := first | exact dschE38 | fail) only [go_sem, ↓reduceIte, hsp, r94, z5, z7, z9, z12, z16, z17, z84, z85, z86, z92, z93, q5, q7, q9, q12, q84, q85, p4, p5, p7, p9, p11, hltb, hadb, hldb, ← eK2, glK, gxK, gyK, ra, rb, t3, Bool.not_true, Bool.false_eq_true, eq_self, neB] | refine WP_drw ?_ | refine cnd_intro (fun hsp => ?_) fun hsp => ?_)
            exact ⟨by (repeat first | exact Agree.refl | assumption | refine Agree.put rfl ?_ | refine Agree.put0 ?_ | refine Agree.sub rfl (by assumption) ?_), by omega, done1⟩
          | true =>
            have hap := A2.1 hAp
            obtain ⟨l1, l2⟩ := apart_two M1.hc M1.xp (deskA_mem.2 haD) (deskA_mem.2 hbD) (by omega) hap
            have t5 : (((fewM L).1.length : Int) < 2) = False := eq_false (by omega)
            have t6 : (((pckM L).1.length : Int) < 2) = False := eq_false (by omega)
            rw [hAp] at ra rb
            have hany := fun base => anyF_B (base := base) (h := K2) (g := .fn 35 [] [.ptr (some ⟨H1.length, 0, 0⟩), .ptr (some ⟨G.length, 0, 0⟩), .ptr (some ⟨K.length, 0, 0⟩)]) (fun c => splB L c x && splB L c y) (oBH.ext xHK) (fun base c hcb => run_ap2 glK gxs gys MK2.hP hs1 MK2.hc (hbs c hcb).1 (sgOk_of MK2.hc _ (by rw [ex]; exact getD_mem' ha)) (sgOk_of MK2.hc _ (by rw [ey]; exact getD_mem' hb)))
            have hnone : (bs.any fun c => splB L c x && splB L c y) = false := by
              rw [List.any_eq_false]
              intro c hcb q
              rw [Bool.and_eq_true, splB_iff (hbs c hcb).1, splB_iff (hbs c hcb).1] at q
              refine hap c (hbs c hcb).1 (hbs c hcb).2 ?_
              rw [sgtI_nat, sgtI_nat, ← ex, ← ey]
              exact q
            rw [hnone] at hany
            have hsp := @Nat.succ_ne_zero; repeat' (first | simp (disch := first | exact dschE38 | fail) only [go_sem, ↓reduceIte, hsp, r12, r94, z5, z7, z9, z12, z16, z17, z84, z85, z86, z92, z93, q5, q7, q9, q12, q84, q85, p4, p5, p7, p9, p11, hltb, hadb, hldb, ← eK2, glK, gxK, gyK, ra, rb, t3, c2K, c3K, t5, t6, hany, Bool.not_true, Bool.false_eq_true, eq_self, neB] | refine WP_drw ?_ | refine cnd_intro (fun hsp => ?_) fun hsp => ?_)
            exact ⟨by (repeat first | exact Agree.refl | assumption | refine Agree.put rfl ?_ | refine Agree.put0 ?_ | refine Agree.sub rfl (by assumption) ?_), by omega, done1⟩
        · have hna := hno ga gb (by rw [hxb, hyb]; exact fun q => good ⟨q.1, q.2.1, by omega⟩)
          have hnb' := hno gb ga (by rw [hxb, hyb]; exact fun q => good ⟨q.2.1, q.1, by omega⟩)
          rw [hna] at ra
          rw [hnb'] at rb
          dsimp only at ra rb
          rcases Bool.eq_false_or_eq_true x.bad with g1 | g1
          · rw [g1] at gxK
            rcases Bool.eq_false_or_eq_true y.bad with g2 | g2
            · have g3 : a = b := Classical.not_not.1 fun q => good ⟨g1, g2, q⟩
              have t3 : ((a : Int) = (b : Int)) = True := eq_true (by omega)
              rw [g2] at gyK eK2 hldb
              have hsp := @Nat.succ_ne_zero; repeat' (first | simp (disch := first | exact dschE38 | fail) only [go_sem, ↓reduceIte, hsp, r94, z5, z7, z9, z12, z16, z17, z84, z85, z86, z92, z93, q5, q7, q9, q12, q84, q85, p4, p5, p7, p9, p11, hltb, hadb, hldb, ← eK2, glK, gxK, gyK, ra, rb, t3, Bool.not_false, Bool.not_true, Bool.false_eq_true, eq_self] | refine WP_drw ?_ | refine cnd_intro (fun hsp => ?_) fun hsp => ?_)
              exact ⟨by (repeat first | exact Agree.refl | assumption | refine Agree.put rfl ?_ | refine Agree.put0 ?_ | refine Agree.sub rfl (by assumption) ?_), by omega, done1⟩
            · rw [g2] at gyK eK2 hldb
              have hsp := @Nat.succ_ne_zero; repeat' (first | simp (disch := first | exact dschE38 | fail) only [go_sem, ↓reduceIte, hsp, r94, z5, z7, z9, z12, z16, z17, z84, z85, z86, z92, z93, q5, q7, q9, q12, q84, q85, p4, p5, p7, p9, p11, hltb, hadb, hldb, ← eK2, glK, gxK, gyK, ra, rb, Bool.not_false, Bool.not_true, Bool.false_eq_true, eq_self] | refine WP_drw ?_ | refine cnd_intro (fun hsp => ?_) fun hsp => ?_)
              exact ⟨by (repeat first | exact Agree.refl | assumption | refine Agree.put rfl ?_ | refine Agree.put0 ?_ | refine Agree.sub rfl (by assumption) ?_), by omega, done1⟩
          · rw [g1] at gxK
            have hsp := @Nat.succ_ne_zero; repeat' (first | simp (disch := first | exact dschE38 | fail) only [go_sem, ↓reduceIte, hsp, r94, z5, z7, z9, z12, z16, z17, z84, z85, z86, z92, z93, q5, q7, q9, q12, q84, q85, p4, p5, p7, p9, p11, hltb, hadb, hldb, ← eK2, glK, gxK, gyK, ra, rb, Bool.not_false, Bool.not_true, Bool.false_eq_true, eq_self] | refine WP_drw ?_ | refine cnd_intro (fun hsp => ?_) fun hsp => ?_)
            exact ⟨by (repeat first | exact Agree.refl | assumption | refine Agree.put rfl ?_ | refine Agree.put0 ?_ | refine Agree.sub rfl (by assumption) ?_), by omega, done1⟩
      · rintro fr3 K hA3 ⟨r94, xK⟩
        have z5 := hA3 5 rfl
        have z7 := hA3 7 rfl
        have z9 := hA3 9 rfl
        have z12 := hA3 12 rfl
        have z16 := hA3 16 rfl
        have z17 := hA3 17 rfl
        have z84 := hA3 84 rfl
        have z85 := hA3 85 rfl
        have z86 := hA3 86 rfl
        have z92 := hA3 92 rfl
        have z93 := hA3 93 rfl
        try simp (disch := first | exact dschE38 | fail) only [go_sem, ↓reduceIte, q5, q7, q9, q12, q84, q85] at z5 z7 z9 z12 z16 z17 z84 z85 z86 z92 z93
        have hltb : ((L.ss.length : Int) < (L.ss.length : Int)) = False := eq_false (by omega)
        have hsp := @Nat.succ_ne_zero; repeat' (first | simp (disch := first | exact dschE38 | fail) only [go_sem, ↓reduceIte, hsp, r86, r94, z5, z7, z9, z12, z16, z17, z84, z85, z86, z92, z93, q5, q7, q9, q12, q84, q85, p4, p5, p7, p9, p11, hltb] | refine WP_drw ?_ | refine cnd_intro (fun hsp => ?_) fun hsp => ?_)
        exact ⟨by (repeat first | exact Agree.refl | assumption | refine Agree.put rfl ?_ | refine Agree.put0 ?_ | refine Agree.sub rfl (by assumption) ?_), by omega, (xG.trans (.app .refl)).trans xK⟩
    · rintro fr2 G hA2 ⟨r86, xG⟩
      have q5 := hA2 5 rfl
      have q7 := hA2 7 rfl
      have q9 := hA2 9 rfl
      have q12 := hA2 12 rfl
      have q84 := hA2 84 rfl
      have q85 := hA2 85 rfl
      try simp (disch := first | exact dschE38 | fail) only [go_sem, ↓reduceIte, p5, p7, p9] at q5 q7 q9 q12 q84 q85
      have hlta : ((L.ss.length : Int) < (L.ss.length : Int)) = False := eq_false (by omega)
      have hsp := @Nat.succ_ne_zero; repeat' (first | simp (disch := first | exact dschE38 | fail) only [go_sem, ↓reduceIte, hsp, r86, q5, q7, q9, q12, q84, q85, p4, p5, p7, p9, p11, hlta, run_awake] | refine WP_drw ?_ | refine cnd_intro (fun hsp => ?_) fun hsp => ?_)
      exact fB rfl (yH.trans xG)
end Go.AM
