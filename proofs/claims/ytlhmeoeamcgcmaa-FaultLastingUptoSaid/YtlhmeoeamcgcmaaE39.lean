/-
  Truths in a list.
-/
import Derived.Test.YtlhmeoeamcgcmaaE38
set_option linter.unusedSimpArgs false
set_option linter.unusedVariables false
namespace Go.AM
open Go.Proofs.Try

/-- Values, by cells. -/
def encV : Enc AVal := ⟨1, fun v => [norm v], fun _ => rfl, by decide⟩
theorem encV_sc : ∀ y, (encV.cells y).all AVal.scalar = true := fun y => by
  have : (norm y).scalar = true := by unfold norm; split <;> simp_all [AVal.scalar]
  simp only [encV, List.all_cons, this, List.all_nil]
  rfl
theorem bsV0 {lit : Bool} {A : Heap} {v : AVal} (h1 : One v) (hl : lit = false) : bsA prog lit A 53 1 [(0, v)] = some (.slice (some ⟨A.length, 0, 0⟩) 1 1, A ++ [rowE encV 27 [v] 0]) := by
  subst hl
  rcases h1 with ⟨h1, h2, h3⟩
  simp [bsA, rowOf, Fc.el53, fillA, repCells, h1, h2, h3, splice, rowE, flat, encV, norm]
/-- One value more. -/
theorem snocV {A : Heap} {w v : AVal} {vs : List AVal} {b base : Nat} (hO : Own encV 27 b A w vs) (h1 : One v) (hb : base ≤ b) (hbh : b ≤ A.length) (hl : vs.length ≤ 1000) :
    ∃ x A', (∀ {lit : Bool}, lit = true → bsA prog lit A 53 1 [(0, v)] = some (x, A')) ∧ Ext A A' ∧ ∃ w' h', appendA prog base A' 53 w x = some (w', h') ∧ Own encV 27 b h' w' (vs ++ [v]) ∧ A.length ≤ h'.length ∧ (∀ G, G.length ≤ b → Ext G A → Ext G h') ∧ One w' ∧ KeepO encV 27 A h' := by
  have hn := norm_one h1
  rcases h1 with ⟨q1, q2, q3⟩
  have hr : rowOf prog 53 1 [(0, v)] = some (27, 1, [v]) := by
    simp [rowOf, Fc.el53, fillA, repCells, q1, q2, q3, splice]
  by_cases hbare : AVal.bare v = true
  · obtain ⟨w', h', a1, a2, a3, a4, a5, a6⟩ := hO.append1X (P := prog) (y := v) (a := v) (base := base) (t := 53) rfl (by simp only [encV, hn]) Fc.el53 encV_sc hb hbh (by omega)
    refine ⟨.vals [v], A, fun {lit} hlit => ?_, .refl, w', h', a1, a2, a3, a4, a5, a6⟩
    subst hlit
    simp only [bsA, hr]
    rw [if_neg (by decide), if_pos ⟨trivial, trivial, by simp [hbare]⟩]
  · obtain ⟨w', h', a1, a2, a3, a4, a5, a6⟩ := (hO.app (T := [rowE encV 27 [v] 0])).appendRX (P := prog) (x := .slice (some ⟨A.length, 0, 0⟩) 1 1) (m := [v]) (base := base) (t := 53) (Rows.own (get_eq rfl) rfl (by simp)) Fc.el53 encV_sc hb (by simp; omega) (by simp) (by simp; omega)
    refine ⟨.slice (some ⟨A.length, 0, 0⟩) 1 1, A ++ [rowE encV 27 [v] 0], fun {lit} hlit => ?_, .app .refl, w', h', a1, a2, by simp at a3; omega, fun G hG e => a4 G hG (e.trans (.app .refl)), a5, fun i y g hy => a6 i y (get_app g) hy⟩
    simp only [bsA, hr]
    rw [if_neg (by decide), if_neg (fun q => hbare (by simpa using q.2.2))]
    simp [rowE, flat, encV, hn]
/-- Truths of a loom in a list. -/
def TrsAt (L : Lom) (H : Heap) (vs : List AVal) : Prop := ∀ v ∈ vs, ∃ t, Own encB 61 0 H v t ∧ XpA L t
theorem TrsAt.ext {L : Lom} {H H' : Heap} {vs : List AVal} (x : TrsAt L H vs) (e : Ext H H') : TrsAt L H' vs := fun v hv => by
  obtain ⟨t, a, b⟩ := x v hv
  exact ⟨t, a.ext e, b⟩
theorem TrsAt.setBox {L : Lom} {H : Heap} {vs : List AVal} {k : ABlk} {a : Nat} {c : List AVal} {t : TypeId} {ro : Bool} {u : Nat} (x : TrsAt L H vs) (hg : H[a]? = some ⟨.cells c t false ro, u⟩) : TrsAt L (H.set a k) vs := fun v hv => by
  obtain ⟨t, p, q⟩ := x v hv
  exact ⟨t, p.setBox hg, q⟩
theorem TrsAt.keep {L : Lom} {H H' : Heap} {vs : List AVal} (x : TrsAt L H vs) (k : KeepO encV 27 H H') : TrsAt L H' vs := fun v hv => by
  obtain ⟨t, p, q⟩ := x v hv
  exact ⟨t, k.own p (by decide), q⟩
end Go.AM
/-
  FaultLasting, walked.
-/
namespace Go.AM
open Go.Proofs.Try
theorem dschE40 {p : Prop} (h : p := by first | exact Nat.ne_of_beq_eq_false rfl | assumption | (apply asOne; (first | exact One.int | exact One.bool | assumption | exact Ints.one (by assumption) | exact Rows.one (by assumption) | exact Own.one (by assumption) | exact One.lit ⟨rfl, rfl, rfl⟩)) | (apply asInts; (repeat first | assumption | exact ints_nil | apply Ints.app); done) | (apply asRows; (repeat first | assumption | exact Rows.nil | apply Rows.app); done) | (apply asScal; (first | apply allS1 | apply allS2 | apply allS3 | apply allS4) <;> (first | exact One.int | exact One.bool | assumption | exact Ints.one (by assumption) | exact Rows.one (by assumption) | exact Own.one (by assumption) | exact One.lit ⟨rfl, rfl, rfl⟩)) | exact litT rfl | exact litF rfl | omega | (simp only [List.length_append, List.length_cons, List.length_nil, List.length_set, List.length_reverse]; first | done | omega) | fail) : p := h
attribute [-go_sem] put_ne put_same
attribute [local go_sem ↓] put_if

/-- A good sight excludes a part at a throw. -/
def excB (p : Prt) (x : Int) (s : Sgt) : Bool := !s.bad && decide (s.lo ≤ x) && decide (x ≤ s.hi) && decide (s.rib ∈ p.rib)
theorem run_la1 {base i1 i2 : Nat} {h : Heap} {r : AVal} {p : Prt} {x : Int} {s : Sgt} (g1 : h[i1]? = some (intB x)) (g2 : h[i2]? = some ⟨.cells [r, .int .i64 p.each, .int .i64 p.ph, .bool p.wv] 55 false false, 0⟩) (hr : Ints h r p.rib) :
    callL prog raw base (.fn 26 [] [.ptr (some ⟨i1, 0, 0⟩), .ptr (some ⟨i2, 0, 0⟩)]) [.agg (encS.cells s)] h = some (.bool (excB p x s), h) := by
  rw [intB] at g1
  have g1' : ∀ {a : ABlk}, (h ++ [a])[i1]? = _ := fun {a} => get_app g1
  have g2' : ∀ {a : ABlk}, (h ++ [a])[i2]? = _ := fun {a} => get_app g2
  have e : ∀ {base : Nat} {a : ABlk}, callL prog raw base (.fn 25 [] []) [r, .int .i64 s.rib] (h ++ [a]) = some (.bool (decide (s.rib ∈ p.rib)), h ++ [a]) := fun {base a} => run_contains hr.app
  unfold excB
  simp only [encS]
  refine callL_run func26 rfl rfl ?_
  rcases Bool.eq_false_or_eq_true s.bad with c0 | c0
  · rw [c0]
    have hsp := @Nat.succ_ne_zero; repeat' (first | simp (disch := first | exact dschE40 | fail) only [go_sem, ↓reduceIte, hsp, g1', g2', e, Bool.not_true, Bool.false_eq_true, eq_self] | refine WP_drw ?_ | refine cnd_intro (fun hsp => ?_) fun hsp => ?_)
    exact fB rfl
  · rw [c0]
    by_cases c1 : s.lo ≤ x
    · have t1 : (s.lo ≤ x) = True := eq_true c1
      by_cases c2 : x ≤ s.hi
      · have t2 : (x ≤ s.hi) = True := eq_true c2
        have hsp := @Nat.succ_ne_zero; repeat' (first | simp (disch := first | exact dschE40 | fail) only [go_sem, ↓reduceIte, hsp, g1', g2', e, Bool.not_false, eq_self, t1, t2] | refine WP_drw ?_ | refine cnd_intro (fun hsp => ?_) fun hsp => ?_)
        refine fB ?_
        simp [c1, c2]
      · have t2 : (x ≤ s.hi) = False := eq_false c2
        have hsp := @Nat.succ_ne_zero; repeat' (first | simp (disch := first | exact dschE40 | fail) only [go_sem, ↓reduceIte, hsp, g1', g2', e, Bool.not_false, eq_self, t1, t2] | refine WP_drw ?_ | refine cnd_intro (fun hsp => ?_) fun hsp => ?_)
        refine fB ?_
        simp [c1, c2]
    · have t1 : (s.lo ≤ x) = False := eq_false c1
      have hsp := @Nat.succ_ne_zero; repeat' (first | simp (disch := first | exact dschE40 | fail) only [go_sem, ↓reduceIte, hsp, g1', g2', e, Bool.not_false, eq_self, t1] | refine WP_drw ?_ | refine cnd_intro (fun hsp => ?_) fun hsp => ?_)
      refine fB ?_
      simp [c1]
theorem run_la2 {base i1 : Nat} {h : Heap} {k : Int} {b : Brk} (g1 : h[i1]? = some (intB k)) :
    callL prog raw base (.fn 29 [] [.ptr (some ⟨i1, 0, 0⟩)]) [.agg (encB.cells b)] h = some (.bool (decide (b.1 = k)), h) := by
  rw [intB] at g1
  have g1' : ∀ {a : ABlk}, (h ++ [a])[i1]? = _ := fun {a} => get_app g1
  simp only [encB]
  refine callL_run func29 rfl rfl ?_
  have hsp := @Nat.succ_ne_zero; repeat' (first | simp (disch := first | exact dschE40 | fail) only [go_sem, ↓reduceIte, hsp, g1'] | refine WP_drw ?_ | refine cnd_intro (fun hsp => ?_) fun hsp => ?_)
  exact fB rfl
theorem excB_iff {L : Lom} (hc : chkM L = 0) {k t : Nat} (hk : k < L.ps.length) : (((t : Int).tmod (L.ps.getD k prt0).each = (L.ps.getD k prt0).ph) ∧ (L.ss.any (excB (L.ps.getD k prt0) (t : Int))) = true) ↔ ∃ i ∈ allI L, exclI L k t i := by
  constructor
  · rintro ⟨h1, h2⟩
    obtain ⟨s, hs, q⟩ := List.any_eq_true.1 h2
    obtain ⟨i, hi, rfl⟩ := List.getElem_of_mem hs
    unfold excB at q
    simp only [Bool.and_eq_true, Bool.not_eq_true', decide_eq_true_eq] at q
    refine ⟨(i : Int), upto_mem.2 ⟨by omega, by omega⟩, ?_⟩
    unfold exclI
    rw [sgtI_nat, badI_nat, getD_at hi]
    exact ⟨q.1.1.1, q.1.1.2, q.1.2, h1, q.2⟩
  · rintro ⟨i, hi, q1, q2, q3, q4, q5⟩
    refine ⟨q4, List.any_eq_true.2 ⟨sgtI L i, sgtI_mem (upto_mem.1 hi), ?_⟩⟩
    unfold excB
    simp only [Bool.and_eq_true, Bool.not_eq_true', decide_eq_true_eq]
    exact ⟨⟨⟨q1, q2⟩, q3⟩, q5⟩
/-- No break lasts where its part is excluded. -/
theorem excl_not {L : Lom} (hc : chkM L = 0) {k t : Nat} {i : Int} (hi : i ∈ allI L) (hx : exclI L k t i) {u : List Brk} (hu : XpA L u) : ¬ lst4 u (k : Int) (t : Int) := by
  rintro ⟨b, hb, h1, h2, h3⟩
  obtain ⟨q1, q2, q3, q4, q5⟩ := hx
  have := (hu.2 i hi).1 ⟨b, hb, by
    unfold tch prtOf
    rw [h1, Int.toNat_natCast]
    exact ⟨q5, (t : Int), h2, h3, q2, q3, q4⟩⟩
  rw [q1] at this
  cases this
theorem small_of {l : List Int} (hl : l.length ≤ 1000) (hb : ∀ x ∈ l, 0 ≤ x ∧ x < 1000) : Small l := ⟨by omega, fun x hx => by have := hb x hx; omega⟩
theorem mstM_small {L : Lom} (hc : chkM L = 0) {t : List Brk} (ht : XpA L t) : Small (mstM L).1 := by
  have k3 := (chkM_ok hc).2.2.1
  refine small_of ?_ fun x hx => by have := ((mstM_mem hc ht).2 x).1 hx; omega
  unfold mstM
  rw [tolE_val hc ht]
  have := selN_len (p := fun k => decide ((expA L (mstF k)).1 = 0)) (g := fun k => (k : Int)) L.ps.length
  show (selN _ _ _).length ≤ _
  omega
theorem sryM_small {L : Lom} (hc : chkM L = 0) {t : List Brk} (ht : XpA L t) {k : Int} (hk : 0 ≤ k ∧ k < (L.ps.length : Int)) : Small (sryM L k).1 := by
  have k3 := (chkM_ok hc).2.1
  refine small_of ?_ fun x hx => by have := ((sryM_mem hc ht hk).2 x).1 hx; omega
  unfold sryM
  rw [prtB_iff.2 hk, tolE_val hc ht]
  have := selN_len (p := fun t => decide ((expA L (sryF k t)).1 = 0)) (g := fun k => (k : Int)) L.T.toNat
  show (selN _ _ _).length ≤ _
  omega
theorem canM_small {L : Lom} (hc : chkM L = 0) {t : List Brk} (ht : XpA L t) {k : Int} (hk : 0 ≤ k ∧ k < (L.ps.length : Int)) : Small (canM L k).1 := by
  have k3 := (chkM_ok hc).2.1
  refine small_of ?_ fun x hx => by have := ((canM_mem hc ht hk).2 x).1 hx; omega
  unfold canM
  rw [prtB_iff.2 hk, tolE_val hc ht]
  have := numsN_len (l := canA L k.toNat) (n := L.T.toNat)
  show (numsN _ _).length ≤ _
  omega
theorem excM_small {L : Lom} (hc : chkM L = 0) {k : Int} (hk : 0 ≤ k ∧ k < (L.ps.length : Int)) : Small (excM L k).1 := by
  have k3 := (chkM_ok hc).2.1
  refine small_of ?_ fun x hx => by have := ((excM_mem hc hk).2 x).1 hx; omega
  unfold excM
  rw [if_neg (by simp [hc]), if_neg (by omega)]
  have := numsN_len (l := (deskA L).2.getD k.toNat []) (n := L.T.toNat)
  show (numsN _ _).length ≤ _
  omega
end Go.AM
/-
  FaultLasting, walked: the whole.
-/
namespace Go.AM
open Go.Proofs.Try
theorem dschE41 {p : Prop} (h : p := by first | exact Nat.ne_of_beq_eq_false rfl | assumption | (apply asOne; (first | exact One.int | exact One.bool | assumption | exact Ints.one (by assumption) | exact Rows.one (by assumption) | exact Own.one (by assumption) | exact One.lit ⟨rfl, rfl, rfl⟩)) | (apply asSp; (repeat first | assumption | apply SpAt.set | (refine SpAt.new ?_ (by (first | rfl | (simp only [List.length_append, List.length_cons, List.length_nil, List.length_set]; done) | (simp only [List.length_append, List.length_cons, List.length_nil, List.length_set]; omega)))) | apply SpAt.app | apply Bytes.app); done) | (apply asBytes; (repeat first | assumption | apply Bytes.app); done) | (apply asInts; (repeat first | assumption | exact ints_nil | apply Ints.app); done) | (apply asRows; (repeat first | assumption | exact Rows.nil | apply Rows.app); done) | (apply asScal; (first | apply allS1 | apply allS2 | apply allS3 | apply allS4) <;> (first | exact One.int | exact One.bool | assumption | exact Ints.one (by assumption) | exact Rows.one (by assumption) | exact Own.one (by assumption) | exact One.lit ⟨rfl, rfl, rfl⟩)) | exact litT rfl | exact litF rfl | omega | (simp only [List.length_append, List.length_cons, List.length_nil, List.length_set, List.length_reverse]; first | done | omega) | fail) : p := h
attribute [-go_sem] put_ne put_same
attribute [local go_sem ↓] put_if

theorem stE41 {base : Nat} {l : List Oper} {s : St} {Q : AExit → St → Prop} : WP prog raw base (.region 19 l.toArray false) s Q = WPS prog raw base (.region 19 l.toArray false) s Q := WP_stop
attribute [local go_sem ↓ 3000] stE41
set_option maxRecDepth 100000 in
set_option maxHeartbeats 4000000 in
theorem run_FaultLasting {base : Nat} {h : Heap} {v0 v1 : AVal} {s0 s1 : List Int} (hB0 : Bytes h v0 s0) (hB1 : Bytes h v1 s1) :
    callL prog raw base (.fn 4 [] []) [v0, v1] h = some (.bool true, h) := by
  obtain ⟨H1, L, t, pv, sv, tv, e1, x1, M1, b1, b2, b3, b4⟩ := run_start (base := h.length) (T0 := 10) (P0 := 5) (S0 := 8) (Nat.le_refl _) hB0 (by omega) (by omega) (by omega)
  obtain ⟨k1, k2, k3, k4, k5, k6⟩ := chkM_ok M1.hc
  have hp1 := M1.hP.one
  have hs1 := M1.hS.one
  have ht1 := M1.hT.one
  have hv1 := hB1.one
  have hl1 := x1.len
  have y1 : Ext h (H1 ++ [lmB' L pv sv]) := x1.trans (.app .refl)
  have M2 := M1.ext (.app (t := [lmB' L pv sv]) .refl)
  obtain ⟨w2, H2, e2, x2, u2, rfl, o2⟩ := run_must (base := h.length) y1.len M2.lom M2.ok
  have hm := mstM_mem M1.hc M1.xp
  rw [hm.1] at e2
  have y2 := y1.trans x2
  have gl2 : H2[H1.length]? = some (lmB' L pv sv) := x2.get (by simp)
  obtain ⟨H3, eH3⟩ : ∃ H3, H3 = H2 ++ [rowE encV 27 [tv] 0] := ⟨_, rfl⟩
  have x3 : Ext H2 H3 := by rw [eH3]; exact .app .refl
  have y3 := y2.trans x3
  have M2' := M2.ext x2
  have hl12 : H1.length < H2.length := lt_of_get gl2
  have hV3 : Own encV 27 H2.length H3 (.slice (some ⟨H2.length, 0, 0⟩) 1 1) [tv] := .inr ⟨H2.length, 0, rfl, by rw [eH3]; exact get_eq rfl, Nat.le_refl _, by simp⟩
  have hTr3 : TrsAt L H3 [tv] := fun v hv => by
    rw [List.mem_singleton] at hv
    subst hv
    exact ⟨t, (M2'.ext x3).oT, M1.xp⟩
  have hSp3 : SpAt (H3 ++ [spB v1 s1 0]) H3.length v1 s1 0 := SpAt.new (hB1.ext y3) rfl
  have hl23 : H2.length + 1 = H3.length := by rw [eH3]; simp
  have hw := run_wound (base := h.length) (hB1.ext y3)
  have hw0 := run_wound (base := h.length) hB0
  have bs0 : ∀ {lit : Bool} {A : Heap}, lit = false → bsA prog lit A 53 1 [(0, tv)] = some (.slice (some ⟨A.length, 0, 0⟩) 1 1, A ++ [rowE encV 27 [tv] 0]) := fun {lit A} hl => bsV0 ht1 hl
  unfold lmB' at e2 gl2
  have hl3 := y3.len
  refine callL_run func4 rfl rfl ?_
  have hsp := @Nat.succ_ne_zero; repeat' (first | simp (disch := first | exact dschE41 | fail) only [go_sem, ↓reduceIte, hsp, hw0, e1, e2, gl2, eq_self, bs0, ← eH3, hw] | refine WP_drw ?_ | refine cnd_intro (fun hsp => ?_) fun hsp => ?_)
  refine WP_count [(9, 9), (11, 56)] 0 8 (Nat.zero_le _) (fun _ i fr h' => fr 44 = .int .i64 (i : Int) ∧ ∃ vs k2, k2 ≤ 18 * i ∧ Ext H2 h' ∧ SpAt h' H3.length v1 s1 k2 ∧ ∃ w, fr 9 = w ∧ Own encV 27 H2.length h' w vs ∧ vs.length ≤ i + 1 ∧ TrsAt L h' vs) ?_ ?_ ?_
  · exact ⟨by (simp (disch := first | exact dschE41 | fail) only [go_sem, ↓reduceIte, Int.natCast_zero]; first | done | rfl), [tv], 0, by omega, x3.trans (.app .refl), hSp3, _, by simp (disch := first | exact dschE41 | fail) only [go_sem, ↓reduceIte]; exact ⟨rfl, hV3.app, by simp, hTr3.ext (.app .refl)⟩⟩
  · rintro i fr H hi0 hi hA ⟨r44, vs, kk, hk2, xO, hSp, w, r9, oV, hvl, hTr⟩
    have p4 := hA 4 rfl
    have p5 := hA 5 rfl
    have p7 := hA 7 rfl
    have p10 := hA 10 rfl
    try simp (disch := first | exact dschE41 | fail) only [go_sem, ↓reduceIte] at p4 p5 p7 p10
    have hlt : ((i : Int) < 8) = True := eq_true (by omega)
    have MH := M2'.ext xO
    have hHl := (y2.trans xO).len
    have gl : H[H1.length]? = some ⟨.cells [.int .i64 L.R, .int .i64 L.T, pv, sv] 26 false false, 0⟩ := xO.get gl2
    obtain ⟨w4, H4, e4, t4, k4', hk4, x4, o4, hT4⟩ := run_tried (base := h.length) (L := L) (sv := sv) (by omega) hSp (by omega) MH.hP hs1 MH.hc
    have xO4 : Ext H2 H4 := (xO.set (by omega)).trans x4
    have hSp4 := x4.at hSp
    have M4 := M2'.ext xO4
    have oV4 := (oV.setBox (k := spB v1 s1 k4') hSp.1).ext x4
    have hTr4 := (hTr.setBox (k := spB v1 s1 k4') hSp.1).ext x4
    have htl := truth_len hT4
    have hw41 := o4.one
    have gl4 : H4[H1.length]? = some ⟨.cells [.int .i64 L.R, .int .i64 L.T, pv, sv] 26 false false, 0⟩ := xO4.get gl2
    have hH4l : h.length ≤ H4.length := (y2.trans xO4).len
    have hx := fun base => run_explains4 (base := base) M4.hP M4.hS M4.hc (o4.rows (by omega)) (by omega)
    have hw1 := oV.one
    rcases Bool.eq_false_or_eq_true (xplM L t4) with c | c
    · rw [c] at hx
      obtain ⟨xa, A', ab, aE, w', h', aa, a2, a3, a4, a5, a6⟩ := snocV (base := h.length) (b := H2.length) oV4 hw41 y2.len xO4.len (by omega)
      have hsp := @Nat.succ_ne_zero; repeat' (first | simp (disch := first | exact dschE41 | fail) only [go_sem, ↓reduceIte, hsp, r44, r9, p4, p5, p7, p10, hlt, gl, e4, gl4, hx, ab, aa] | refine WP_drw ?_ | refine cnd_intro (fun hsp => ?_) fun hsp => ?_)
      refine ⟨by (repeat first | exact Agree.refl | assumption | refine Agree.put rfl ?_ | refine Agree.put0 ?_ | refine Agree.sub rfl (by assumption) ?_), by omega, vs ++ [w4], k4', by omega, a4 _ (Nat.le_refl _) xO4, ⟨a6.box hSp4.1, hB1.ext (y2.trans (a4 _ (Nat.le_refl _) xO4)), hSp4.2.2⟩, w', rfl, a2, by simp; omega, fun v hv => ?_⟩
      rcases List.mem_append.1 hv with hv | hv
      · exact (hTr4.keep a6) v hv
      · rw [List.mem_singleton] at hv
        subst hv
        exact ⟨t4, a6.own (o4.low (Nat.zero_le _)) (by decide), (xplM_iff MH.hc).1 c⟩
    · rw [c] at hx
      have hsp := @Nat.succ_ne_zero; repeat' (first | simp (disch := first | exact dschE41 | fail) only [go_sem, ↓reduceIte, hsp, r44, r9, p4, p5, p7, p10, hlt, gl, e4, gl4, hx] | refine WP_drw ?_ | refine cnd_intro (fun hsp => ?_) fun hsp => ?_)
      exact ⟨by (repeat first | exact Agree.refl | assumption | refine Agree.put rfl ?_ | refine Agree.put0 ?_ | refine Agree.sub rfl (by assumption) ?_), by omega, vs, k4', by omega, xO4, hSp4, w, rfl, oV4, by omega, hTr4⟩
  · rintro fr H hA ⟨r44, vs, kk, hk2, xO, hSp, w, r9, oV, hvl, hTr⟩
    have p4 := hA 4 rfl
    have p5 := hA 5 rfl
    have p7 := hA 7 rfl
    have p10 := hA 10 rfl
    try simp (disch := first | exact dschE41 | fail) only [go_sem, ↓reduceIte] at p4 p5 p7 p10
    have hlt : ((8 : Int) < 8) = False := eq_false (by omega)
    have gl : H[H1.length]? = some ⟨.cells [.int .i64 L.R, .int .i64 L.T, pv, sv] 26 false false, 0⟩ := xO.get gl2
    have MH := M2'.ext xO
    have hlP : lenOpA prog H 23 pv = some (.int .i64 (L.ps.length : Int)) := MH.hP.len
    have hsp := @Nat.succ_ne_zero; repeat' (first | simp (disch := first | exact dschE41 | fail) only [go_sem, ↓reduceIte, hsp, r44, r9, p4, p5, p7, p10, hlt, gl, hlP] | refine WP_drw ?_ | refine cnd_intro (fun hsp => ?_) fun hsp => ?_)
    have yH := y2.trans xO
    have oVH := oV.rows (show vs.length < 2 ^ 60 by omega)
    have hw1 := oV.one
    have hu2 := o2.one
    have i2 := (own_ints o2 (mstM_small M1.hc M1.xp)).ext xO
    have htoT : ((L.T.toNat : Nat) : Int) = L.T := by omega
    refine WP_count [(4, 4), (12, 26), (60, 189)] 0 L.ps.length (Nat.zero_le _) (fun _ k fr h' => fr 60 = .int .i64 (k : Int) ∧ Ext H h') ?_ ?_ ?_
    · exact ⟨by (simp (disch := first | exact dschE41 | fail) only [go_sem, ↓reduceIte, Int.natCast_zero]; first | done | rfl), .refl⟩
    · rintro k fr2 G ha0 hk hA2 ⟨r60, xG⟩
      have q5 := hA2 5 rfl
      have q7 := hA2 7 rfl
      have q9 := hA2 9 rfl
      have q58 := hA2 58 rfl
      have q59 := hA2 59 rfl
      try simp (disch := first | exact dschE41 | fail) only [go_sem, ↓reduceIte, p5, p7] at q5 q7 q9 q58 q59
      have hltk : ((k : Int) < (L.ps.length : Int)) = True := eq_true (by omega)
      have hkk : 0 ≤ (k : Int) ∧ (k : Int) < (L.ps.length : Int) := by omega
      have MG := MH.ext xG
      have hpk : L.ps[k]? = some (L.ps.getD k prt0) := getD_some hk
      obtain ⟨q, eq⟩ : ∃ q, q = L.ps.getD k prt0 := ⟨_, rfl⟩
      rw [← eq] at hpk
      obtain ⟨ad, r, a3, had, hld, hI, _, _⟩ := MG.hP.at hpk
      have hld' : ∀ {T : Heap}, loadP prog (G ++ T) 55 ad = some (.agg [r, .int .i64 q.each, .int .i64 q.ph, .bool q.wv]) := fun {T} => hld _ (.app .refl)
      have hld0 := hld G .refl
      have hr1 := hI.one
      have yG := yH.trans xG
      have hGl := yG.len
      have glG : G[H1.length]? = some ⟨.cells [.int .i64 L.R, .int .i64 L.T, pv, sv] 26 false false, 0⟩ := xG.get gl
      obtain ⟨G0, eG0⟩ : ∃ G0, G0 = G ++ [⟨.cells [.int .i64 (k : Int)] 3 false false, 0⟩] ++ [⟨.cells [r, .int .i64 q.each, .int .i64 q.ph, .bool q.wv] 55 false false, 0⟩] := ⟨_, rfl⟩
      have xG0 : Ext G G0 := by rw [eG0]; exact .app (.app .refl)
      have gk0 : G0[G.length]? = some (intB k) := by rw [eG0]; exact get_app (get_eq rfl)
      have gp0 : G0[G.length + 1]? = some ⟨.cells [r, .int .i64 q.each, .int .i64 q.ph, .bool q.wv] 55 false false, 0⟩ := by rw [eG0]; exact get_eq (by simp)
      have y0 := yG.trans xG0
      obtain ⟨w5, H5, e5, x5, u5, rfl, o5⟩ := run_can (base := h.length) (k := (k : Int)) y0.len (MG.ext xG0).lom M1.ok
      obtain ⟨w6, H6, e6, x6, u6, rfl, o6⟩ := run_surely (base := h.length) (k := (k : Int)) (y0.trans x5).len (MG.ext (xG0.trans x5)).lom M1.ok
      obtain ⟨w7, H7, e7, x7, u7, rfl, o7⟩ := run_excluded (base := h.length) (k := (k : Int)) ((y0.trans x5).trans x6).len (MG.ext ((xG0.trans x5).trans x6)).lom M1.ok
      have hcan := canM_mem M1.hc M1.xp hkk
      have hsry := sryM_mem M1.hc M1.xp hkk
      have hexc := excM_mem M1.hc hkk
      rw [hcan.1] at e5
      rw [hsry.1] at e6
      rw [hexc.1] at e7
      have gl0 := xG0.get glG
      have gl5 := x5.get gl0
      have gl6 := x6.get gl5
      have gk5 := x5.get gk0
      have gk6 := x6.get gk5
      have x07 := (x5.trans x6).trans x7
      have gk7 := x07.get gk0
      have gp7 := x07.get gp0
      have gl7 := x7.get gl6
      have i5 := ((own_ints o5 (canM_small M1.hc M1.xp hkk)).ext x6).ext x7
      have i6 := (own_ints o6 (sryM_small M1.hc M1.xp hkk)).ext x7
      have i7 := own_ints o7 (excM_small M1.hc hkk)
      have xG7 := xG0.trans x07
      have i27 := (i2.ext xG).ext xG7
      have hu5 := o5.one
      have hu6 := o6.one
      have hu7 := o7.one
      unfold intB at gk0 gk5 gk6 gk7
      have y7 := yG.trans xG7
      have hH7 := y7.len
      obtain ⟨R5, eR5, hA5⟩ := hA2.name
      rw [← eR5]
      have z60 := r60
      have z5 := q5
      have z7 := q7
      have z9 := q9
      try rw [r9] at z9
      have hsp := @Nat.succ_ne_zero; repeat' (first | simp (disch := first | exact dschE41 | fail) only [go_sem, ↓reduceIte, hsp, r60, q5, q7, q9, q58, q59, p4, p5, p7, p10, hltk, had, hld', hld0, ← eG0, gl0, gl5, gl6, gk0, gk5, gk6, e5, e6, e7] | refine WP_drw ?_ | refine cnd_intro (fun hsp => ?_) fun hsp => ?_)
      
      refine WPS_restF fun Z eZ => ?_
      rw [← WP_seq]
      have kZ5 := congrFun eZ 5
      have kZ7 := congrFun eZ 7
      have kZ9 := congrFun eZ 9
      have kZ12 := congrFun eZ 12
      have kZ13 := congrFun eZ 13
      have kZ14 := congrFun eZ 14
      have kZ15 := congrFun eZ 15
      have kZ16 := congrFun eZ 16
      have kZ17 := congrFun eZ 17
      have kZ18 := congrFun eZ 18
      have kZ19 := congrFun eZ 19
      have kZ60 := congrFun eZ 60
      try simp (disch := first | exact dschE41 | fail) only [go_sem, ↓reduceIte, z5, z7, z9, z60] at kZ5 kZ7 kZ9 kZ12 kZ13 kZ14 kZ15 kZ16 kZ17 kZ18 kZ19 kZ60
      have aZ : Agree [(4, 4), (12, 26), (60, 189)] Z R5 := by rw [eZ]; (repeat first | exact Agree.refl | assumption | refine Agree.put rfl ?_ | refine Agree.put0 ?_ | refine Agree.sub rfl (by assumption) ?_)
      clear eZ
      refine WP_meet (fun fr h => Agree [(83, 113)] fr Z ∧ h = H7) ?_ ?_
      · rw [WP_seq, WP_region]
        by_cases cm : (k : Int) ∈ (mstM L).1
        · have tm : ((k : Int) ∈ (mstM L).1) = True := eq_true cm
          have tc : (((canM L (k : Int)).1.length : Int) = 0) = False := eq_false fun q => by
            obtain ⟨b, hb, h1⟩ := ((hm.2 k).1 cm).2 t M1.xp
            have hbo := M1.xp.1.2 b hb
            have hin := (hcan.2 b.2.1).2 ⟨⟨hbo.2.2.1, by have := hbo.2.2.2; omega⟩, t, M1.xp, b, hb, h1, Int.le_refl _, hbo.2.2.2.1⟩
            have hnil : (canM L (k : Int)).1 = [] := List.eq_nil_of_length_eq_zero (by omega)
            rw [hnil] at hin
            cases hin
          have hsp := @Nat.succ_ne_zero; repeat' (first | simp (disch := first | exact dschE41 | fail) only [go_sem, ↓reduceIte, hsp, kZ5, kZ7, kZ9, kZ12, kZ13, kZ14, kZ15, kZ16, kZ17, kZ18, kZ19, kZ60, gk7, run_contains, tm, tc, decide_true, Bool.not_true, Bool.false_eq_true, eq_self] | refine WP_drw ?_ | refine cnd_intro (fun hsp => ?_) fun hsp => ?_)
          all_goals exact (by (repeat first | exact Agree.refl | assumption | refine Agree.put rfl ?_ | refine Agree.put0 ?_ | refine Agree.sub rfl (by assumption) ?_))
        · have tm : ((k : Int) ∈ (mstM L).1) = False := eq_false cm
          have ts : (((sryM L (k : Int)).1.length : Int) > 0) = False := eq_false fun q => by
            obtain ⟨x, hx⟩ := List.exists_mem_of_length_pos (show 0 < (sryM L (k : Int)).1.length by omega)
            have h2 := ((hsry.2 x).1 hx).2
            exact cm ((hm.2 k).2 ⟨hkk, fun u hu => by obtain ⟨b, hb, h1, _⟩ := h2 u hu; exact ⟨b, hb, h1⟩⟩)
          have hsp := @Nat.succ_ne_zero; repeat' (first | simp (disch := first | exact dschE41 | fail) only [go_sem, ↓reduceIte, hsp, kZ5, kZ7, kZ9, kZ12, kZ13, kZ14, kZ15, kZ16, kZ17, kZ18, kZ19, kZ60, gk7, run_contains, tm, ts, decide_false, Bool.not_false, Bool.false_eq_true, eq_self] | refine WP_drw ?_ | refine cnd_intro (fun hsp => ?_) fun hsp => ?_)
          all_goals exact (by (repeat first | exact Agree.refl | assumption | refine Agree.put rfl ?_ | refine Agree.put0 ?_ | refine Agree.sub rfl (by assumption) ?_))
      · rintro fr6 H8 ⟨hA6, eH8⟩
        subst eH8
        have cc5 := hA6 5 rfl
        have cc7 := hA6 7 rfl
        have cc9 := hA6 9 rfl
        have cc12 := hA6 12 rfl
        have cc13 := hA6 13 rfl
        have cc14 := hA6 14 rfl
        have cc16 := hA6 16 rfl
        have cc18 := hA6 18 rfl
        have cc60 := hA6 60 rfl
        try simp (disch := first | exact dschE41 | fail) only [go_sem, ↓reduceIte, kZ5, kZ7, kZ9, kZ12, kZ13, kZ14, kZ16, kZ18, kZ60] at cc5 cc7 cc9 cc12 cc13 cc14 cc16 cc18 cc60
        have hsp := @Nat.succ_ne_zero; repeat' (first | simp (disch := first | exact dschE41 | fail) only [go_sem, ↓reduceIte, hsp, cc5, cc7, cc9, cc12, cc13, cc14, cc16, cc18, cc60, kZ5, kZ7, kZ9, kZ12, kZ13, kZ14, kZ15, kZ16, kZ17, kZ18, kZ19, kZ60, gl7] | refine WP_drw ?_ | refine cnd_intro (fun hsp => ?_) fun hsp => ?_)
        have x8G := xG7
        refine WP_count [(4, 4), (20, 24), (116, 172)] 0 L.T.toNat (Nat.zero_le _) (fun H0 x fr h' => fr 116 = .int .i64 (x : Int) ∧ Ext H0 h') ?_ ?_ ?_
        · exact ⟨by (simp (disch := first | exact dschE41 | fail) only [go_sem, ↓reduceIte, Int.natCast_zero]; first | done | rfl), .refl⟩
        · rintro x fr7 K hx0 hxT hA7 ⟨r116, xK⟩
          have d5 := hA7 5 rfl
          have d7 := hA7 7 rfl
          have d9 := hA7 9 rfl
          have d12 := hA7 12 rfl
          have d13 := hA7 13 rfl
          have d14 := hA7 14 rfl
          have d16 := hA7 16 rfl
          have d18 := hA7 18 rfl
          have d58 := hA7 58 rfl
          have d59 := hA7 59 rfl
          have d60 := hA7 60 rfl
          have d115 := hA7 115 rfl
          try simp (disch := first | exact dschE41 | fail) only [go_sem, ↓reduceIte, cc5, cc7, cc9, cc12, cc13, cc14, cc16, cc18, cc60] at d5 d7 d9 d12 d13 d14 d16 d18 d58 d59 d60 d115
          have hltx : ((x : Int) < L.T) = True := eq_true (by omega)
          obtain ⟨K0, eK0⟩ : ∃ K0, K0 = K ++ [⟨.cells [.int .i64 (x : Int)] 3 false false, 0⟩] := ⟨_, rfl⟩
          have xK0 : Ext K K0 := by rw [eK0]; exact .app .refl
          have xKK := xK.trans xK0
          have gx0 : K0[K.length]? = some (intB x) := by rw [eK0]; exact get_eq rfl
          have yK := (y7.trans xK).len
          have MK := (MG.ext x8G).ext xKK
          have glK := xKK.get gl7
          have gkK := xKK.get gk7
          have gpK := xKK.get gp7
          have j5 := i5.ext xKK
          have j6 := i6.ext xKK
          have j7 := i7.ext xKK
          have hIr := (hI.ext x8G).ext xKK
          have oVK := (oVH.ext (xG.trans x8G)).ext xKK
          have hTrK := (hTr.ext (xG.trans x8G)).ext xKK
          have hany := fun base => anyF_S (base := base) (h := K0) (g := .fn 26 [] [.ptr (some ⟨K.length, 0, 0⟩), .ptr (some ⟨G.length + 1, 0, 0⟩)]) (excB q (x : Int)) MK.hS (fun base s hs => run_la1 gx0 gpK hIr)
          have gx0' : K0[K.length]? = some ⟨.cells [.int .i64 (x : Int)] 3 false false, 0⟩ := gx0
          have hqe := k5 q (List.mem_of_getElem? hpk)
          have hrem : binA prog .rem 3 (.int .i64 (x : Int)) (.int .i64 q.each) = some (.int .i64 ((x : Int).tmod q.each)) := bin_rem (by omega)
          have hlV : lenOpA prog K0 53 w = some (.int .i64 (vs.length : Int)) := oVK.len Fc.el53
          have hEx := excB_iff M1.hc (k := k) (t := x) hk
          rw [← eq] at hEx
          have hm7 := hexc.2 (x : Int)
          rw [Int.toNat_natCast, Int.toNat_natCast] at hm7
          by_cases ce : ∃ i ∈ allI L, exclI L k x i
          · obtain ⟨ct, ca⟩ := hEx.2 ce
            have t1 : ((x : Int).tmod q.each = q.ph) = True := eq_true ct
            have t7 : ((x : Int) ∈ (excM L (k : Int)).1) = True := eq_true (hm7.2 ⟨by omega, ce⟩)
            have t5 : ((x : Int) ∈ (canM L (k : Int)).1) = False := eq_false fun q2 => by
              obtain ⟨u, hu, hl⟩ := ((hcan.2 _).1 q2).2
              obtain ⟨i, hi, he⟩ := ce
              exact excl_not M1.hc hi he hu hl
            rw [ca] at hany
            have hsp := @Nat.succ_ne_zero; repeat' (first | simp (disch := first | exact dschE41 | fail) only [go_sem, ↓reduceIte, hsp, r116, d5, d7, d9, d12, d13, d14, d16, d18, d58, d59, d60, d115, cc5, cc7, cc9, cc12, cc13, cc14, cc16, cc18, cc60, kZ5, kZ7, kZ9, kZ12, kZ13, kZ14, kZ15, kZ16, kZ17, kZ18, kZ19, kZ60, hltx, ← eK0, glK, gx0', gpK, hrem, hany, hlV, run_contains, t1, t7, t5, decide_true, decide_false, neB, eq_self, Bool.not_true, Bool.not_false, Bool.false_eq_true] | refine WP_drw ?_ | refine cnd_intro (fun hsp => ?_) fun hsp => ?_)
            refine WP_count [(4, 4), (23, 24), (147, 171)] 0 vs.length (Nat.zero_le _) (fun H0 j fr h' => fr 147 = .int .i64 (j : Int) ∧ h' = H0) ?_ ?_ ?_
            · exact ⟨by (simp (disch := first | exact dschE41 | fail) only [go_sem, ↓reduceIte, Int.natCast_zero]; first | done | rfl), rfl⟩
            · rintro j fr8 K1 hj0 hj hA8 ⟨r147, eK1⟩
              subst eK1
              have e5 := hA8 5 rfl
              have e7 := hA8 7 rfl
              have e9 := hA8 9 rfl
              have e12 := hA8 12 rfl
              have e13 := hA8 13 rfl
              have e14 := hA8 14 rfl
              have e16 := hA8 16 rfl
              have e18 := hA8 18 rfl
              have e20 := hA8 20 rfl
              have e58 := hA8 58 rfl
              have e59 := hA8 59 rfl
              have e60 := hA8 60 rfl
              have e115 := hA8 115 rfl
              have e116 := hA8 116 rfl
              have e145 := hA8 145 rfl
              have e146 := hA8 146 rfl
              try simp (disch := first | exact dschE41 | fail) only [go_sem, ↓reduceIte, d5, d7, d9, d12, d13, d14, d16, d18, d58, d59, d60, d115] at e5 e7 e9 e12 e13 e14 e16 e18 e20 e58 e59 e60 e115 e116 e145 e146
              have hltj : ((j : Int) < (vs.length : Int)) = True := eq_true (by omega)
              have hgj := getD_some (d := AVal.none) hj
              obtain ⟨ty, oy, hy⟩ := hTrK _ (List.mem_of_getElem? hgj)
              have hadj := oVK.addr (P := prog) (i := (j : Int)) Fc.el53 Fc.ar53 (by omega) (by omega)
              rw [Int.toNat_natCast] at hadj
              have hldj : loadP prog K1 27 (elAdr w encV.z j 0) = some (vs.getD j AVal.none) := oVK.cell (P := prog) Fc.ty27 (o := 0) hgj (by simp only [encV, norm_one oy.one]; rfl)
              have hyl := truth_len hy.1
              have hla := fun base => run_lasts (base := base) (k := (k : Int)) (x := (x : Int)) (oy.rows (by omega))
              rcases Bool.eq_false_or_eq_true (lstB ty (k : Int) (x : Int)) with cl | cl
              · have t9 : ((x : Int) ∈ (canM L (k : Int)).1) = True := eq_true ((hcan.2 _).2 ⟨by omega, ty, hy, lstB_iff.1 cl⟩)
                rw [cl] at hla
                have hsp := @Nat.succ_ne_zero; repeat' (first | simp (disch := first | exact dschE41 | fail) only [go_sem, ↓reduceIte, hsp, r147, e5, e7, e9, e12, e13, e14, e16, e18, e20, e58, e59, e60, e115, e116, e145, e146, d5, d7, d9, d12, d13, d14, d16, d18, d58, d59, d60, d115, cc5, cc7, cc9, cc12, cc13, cc14, cc16, cc18, cc60, kZ5, kZ7, kZ9, kZ12, kZ13, kZ14, kZ15, kZ16, kZ17, kZ18, kZ19, kZ60, hltj, hadj, hldj, gkK, gx0', hla, run_contains, t9, decide_true, eq_self, Bool.not_true, Bool.not_false, Bool.false_eq_true] | refine WP_drw ?_ | refine cnd_intro (fun hsp => ?_) fun hsp => ?_)
                exact ⟨by (repeat first | exact Agree.refl | assumption | refine Agree.put rfl ?_ | refine Agree.put0 ?_ | refine Agree.sub rfl (by assumption) ?_), by omega⟩
              · have t9 : ((x : Int) ∈ (sryM L (k : Int)).1) = False := eq_false fun q2 => by
                  have := lstB_iff.2 (((hsry.2 _).1 q2).2 ty hy)
                  rw [cl] at this
                  cases this
                rw [cl] at hla
                have hsp := @Nat.succ_ne_zero; repeat' (first | simp (disch := first | exact dschE41 | fail) only [go_sem, ↓reduceIte, hsp, r147, e5, e7, e9, e12, e13, e14, e16, e18, e20, e58, e59, e60, e115, e116, e145, e146, d5, d7, d9, d12, d13, d14, d16, d18, d58, d59, d60, d115, cc5, cc7, cc9, cc12, cc13, cc14, cc16, cc18, cc60, kZ5, kZ7, kZ9, kZ12, kZ13, kZ14, kZ15, kZ16, kZ17, kZ18, kZ19, kZ60, hltj, hadj, hldj, gkK, gx0', hla, run_contains, t9, decide_false, eq_self, Bool.not_true, Bool.not_false, Bool.false_eq_true] | refine WP_drw ?_ | refine cnd_intro (fun hsp => ?_) fun hsp => ?_)
                exact ⟨by (repeat first | exact Agree.refl | assumption | refine Agree.put rfl ?_ | refine Agree.put0 ?_ | refine Agree.sub rfl (by assumption) ?_), by omega⟩
            · rintro fr8 K1 hA8 ⟨r147, eK1⟩
              subst eK1
              have e5 := hA8 5 rfl
              have e7 := hA8 7 rfl
              have e9 := hA8 9 rfl
              have e12 := hA8 12 rfl
              have e13 := hA8 13 rfl
              have e14 := hA8 14 rfl
              have e16 := hA8 16 rfl
              have e18 := hA8 18 rfl
              have e20 := hA8 20 rfl
              have e58 := hA8 58 rfl
              have e59 := hA8 59 rfl
              have e60 := hA8 60 rfl
              have e115 := hA8 115 rfl
              have e116 := hA8 116 rfl
              have e145 := hA8 145 rfl
              have e146 := hA8 146 rfl
              try simp (disch := first | exact dschE41 | fail) only [go_sem, ↓reduceIte, d5, d7, d9, d12, d13, d14, d16, d18, d58, d59, d60, d115] at e5 e7 e9 e12 e13 e14 e16 e18 e20 e58 e59 e60 e115 e116 e145 e146
              have hltj : ((vs.length : Int) < (vs.length : Int)) = False := eq_false (by omega)
              have hsp := @Nat.succ_ne_zero; repeat' (first | simp (disch := first | exact dschE41 | fail) only [go_sem, ↓reduceIte, hsp, r147, r116, e5, e7, e9, e12, e13, e14, e16, e18, e20, e58, e59, e60, e115, e116, e145, e146, d5, d7, d9, d12, d13, d14, d16, d18, d58, d59, d60, d115, cc5, cc7, cc9, cc12, cc13, cc14, cc16, cc18, cc60, kZ5, kZ7, kZ9, kZ12, kZ13, kZ14, kZ15, kZ16, kZ17, kZ18, kZ19, kZ60, hltj] | refine WP_drw ?_ | refine cnd_intro (fun hsp => ?_) fun hsp => ?_)
              exact ⟨by (repeat first | exact Agree.refl | assumption | refine Agree.put rfl ?_ | refine Agree.put0 ?_ | refine Agree.sub rfl (by assumption) ?_), by omega, xKK⟩
          · have t7 : ((x : Int) ∈ (excM L (k : Int)).1) = False := eq_false fun q2 => ce (hm7.1 q2).2
            by_cases ct : (x : Int).tmod q.each = q.ph
            · have t1 : ((x : Int).tmod q.each = q.ph) = True := eq_true ct
              have ca : (L.ss.any (excB q (x : Int))) = false := Bool.eq_false_iff.2 fun q2 => ce (hEx.1 ⟨ct, q2⟩)
              rw [ca] at hany
              have hsp := @Nat.succ_ne_zero; repeat' (first | simp (disch := first | exact dschE41 | fail) only [go_sem, ↓reduceIte, hsp, r116, d5, d7, d9, d12, d13, d14, d16, d18, d58, d59, d60, d115, cc5, cc7, cc9, cc12, cc13, cc14, cc16, cc18, cc60, kZ5, kZ7, kZ9, kZ12, kZ13, kZ14, kZ15, kZ16, kZ17, kZ18, kZ19, kZ60, hltx, ← eK0, glK, gx0', gpK, hrem, hany, hlV, run_contains, t1, t7, decide_true, decide_false, neB, eq_self, Bool.not_true, Bool.not_false, Bool.false_eq_true] | refine WP_drw ?_ | refine cnd_intro (fun hsp => ?_) fun hsp => ?_)
              refine WP_count [(4, 4), (23, 24), (147, 171)] 0 vs.length (Nat.zero_le _) (fun H0 j fr h' => fr 147 = .int .i64 (j : Int) ∧ h' = H0) ?_ ?_ ?_
              · exact ⟨by (simp (disch := first | exact dschE41 | fail) only [go_sem, ↓reduceIte, Int.natCast_zero]; first | done | rfl), rfl⟩
              · rintro j fr8 K1 hj0 hj hA8 ⟨r147, eK1⟩
                subst eK1
                have e5 := hA8 5 rfl
                have e7 := hA8 7 rfl
                have e9 := hA8 9 rfl
                have e12 := hA8 12 rfl
                have e13 := hA8 13 rfl
                have e14 := hA8 14 rfl
                have e16 := hA8 16 rfl
                have e18 := hA8 18 rfl
                have e20 := hA8 20 rfl
                have e58 := hA8 58 rfl
                have e59 := hA8 59 rfl
                have e60 := hA8 60 rfl
                have e115 := hA8 115 rfl
                have e116 := hA8 116 rfl
                have e145 := hA8 145 rfl
                have e146 := hA8 146 rfl
                try simp (disch := first | exact dschE41 | fail) only [go_sem, ↓reduceIte, d5, d7, d9, d12, d13, d14, d16, d18, d58, d59, d60, d115] at e5 e7 e9 e12 e13 e14 e16 e18 e20 e58 e59 e60 e115 e116 e145 e146
                have hltj : ((j : Int) < (vs.length : Int)) = True := eq_true (by omega)
                have hgj := getD_some (d := AVal.none) hj
                obtain ⟨ty, oy, hy⟩ := hTrK _ (List.mem_of_getElem? hgj)
                have hadj := oVK.addr (P := prog) (i := (j : Int)) Fc.el53 Fc.ar53 (by omega) (by omega)
                rw [Int.toNat_natCast] at hadj
                have hldj : loadP prog K1 27 (elAdr w encV.z j 0) = some (vs.getD j AVal.none) := oVK.cell (P := prog) Fc.ty27 (o := 0) hgj (by simp only [encV, norm_one oy.one]; rfl)
                have hyl := truth_len hy.1
                have hla := fun base => run_lasts (base := base) (k := (k : Int)) (x := (x : Int)) (oy.rows (by omega))
                rcases Bool.eq_false_or_eq_true (lstB ty (k : Int) (x : Int)) with cl | cl
                · have t9 : ((x : Int) ∈ (canM L (k : Int)).1) = True := eq_true ((hcan.2 _).2 ⟨by omega, ty, hy, lstB_iff.1 cl⟩)
                  rw [cl] at hla
                  have hsp := @Nat.succ_ne_zero; repeat' (first | simp (disch := first | exact dschE41 | fail) only [go_sem, ↓reduceIte, hsp, r147, e5, e7, e9, e12, e13, e14, e16, e18, e20, e58, e59, e60, e115, e116, e145, e146, d5, d7, d9, d12, d13, d14, d16, d18, d58, d59, d60, d115, cc5, cc7, cc9, cc12, cc13, cc14, cc16, cc18, cc60, kZ5, kZ7, kZ9, kZ12, kZ13, kZ14, kZ15, kZ16, kZ17, kZ18, kZ19, kZ60, hltj, hadj, hldj, gkK, gx0', hla, run_contains, t9, decide_true, eq_self, Bool.not_true, Bool.not_false, Bool.false_eq_true] | refine WP_drw ?_ | refine cnd_intro (fun hsp => ?_) fun hsp => ?_)
                  exact ⟨by (repeat first | exact Agree.refl | assumption | refine Agree.put rfl ?_ | refine Agree.put0 ?_ | refine Agree.sub rfl (by assumption) ?_), by omega⟩
                · have t9 : ((x : Int) ∈ (sryM L (k : Int)).1) = False := eq_false fun q2 => by
                    have := lstB_iff.2 (((hsry.2 _).1 q2).2 ty hy)
                    rw [cl] at this
                    cases this
                  rw [cl] at hla
                  have hsp := @Nat.succ_ne_zero; repeat' (first | simp (disch := first | exact dschE41 | fail) only [go_sem, ↓reduceIte, hsp, r147, e5, e7, e9, e12, e13, e14, e16, e18, e20, e58, e59, e60, e115, e116, e145, e146, d5, d7, d9, d12, d13, d14, d16, d18, d58, d59, d60, d115, cc5, cc7, cc9, cc12, cc13, cc14, cc16, cc18, cc60, kZ5, kZ7, kZ9, kZ12, kZ13, kZ14, kZ15, kZ16, kZ17, kZ18, kZ19, kZ60, hltj, hadj, hldj, gkK, gx0', hla, run_contains, t9, decide_false, eq_self, Bool.not_true, Bool.not_false, Bool.false_eq_true] | refine WP_drw ?_ | refine cnd_intro (fun hsp => ?_) fun hsp => ?_)
                  exact ⟨by (repeat first | exact Agree.refl | assumption | refine Agree.put rfl ?_ | refine Agree.put0 ?_ | refine Agree.sub rfl (by assumption) ?_), by omega⟩
              · rintro fr8 K1 hA8 ⟨r147, eK1⟩
                subst eK1
                have e5 := hA8 5 rfl
                have e7 := hA8 7 rfl
                have e9 := hA8 9 rfl
                have e12 := hA8 12 rfl
                have e13 := hA8 13 rfl
                have e14 := hA8 14 rfl
                have e16 := hA8 16 rfl
                have e18 := hA8 18 rfl
                have e20 := hA8 20 rfl
                have e58 := hA8 58 rfl
                have e59 := hA8 59 rfl
                have e60 := hA8 60 rfl
                have e115 := hA8 115 rfl
                have e116 := hA8 116 rfl
                have e145 := hA8 145 rfl
                have e146 := hA8 146 rfl
                try simp (disch := first | exact dschE41 | fail) only [go_sem, ↓reduceIte, d5, d7, d9, d12, d13, d14, d16, d18, d58, d59, d60, d115] at e5 e7 e9 e12 e13 e14 e16 e18 e20 e58 e59 e60 e115 e116 e145 e146
                have hltj : ((vs.length : Int) < (vs.length : Int)) = False := eq_false (by omega)
                have hsp := @Nat.succ_ne_zero; repeat' (first | simp (disch := first | exact dschE41 | fail) only [go_sem, ↓reduceIte, hsp, r147, r116, e5, e7, e9, e12, e13, e14, e16, e18, e20, e58, e59, e60, e115, e116, e145, e146, d5, d7, d9, d12, d13, d14, d16, d18, d58, d59, d60, d115, cc5, cc7, cc9, cc12, cc13, cc14, cc16, cc18, cc60, kZ5, kZ7, kZ9, kZ12, kZ13, kZ14, kZ15, kZ16, kZ17, kZ18, kZ19, kZ60, hltj] | refine WP_drw ?_ | refine cnd_intro (fun hsp => ?_) fun hsp => ?_)
                exact ⟨by (repeat first | exact Agree.refl | assumption | refine Agree.put rfl ?_ | refine Agree.put0 ?_ | refine Agree.sub rfl (by assumption) ?_), by omega, xKK⟩
            · have t1 : ((x : Int).tmod q.each = q.ph) = False := eq_false ct
              have hsp := @Nat.succ_ne_zero; repeat' (first | simp (disch := first | exact dschE41 | fail) only [go_sem, ↓reduceIte, hsp, r116, d5, d7, d9, d12, d13, d14, d16, d18, d58, d59, d60, d115, cc5, cc7, cc9, cc12, cc13, cc14, cc16, cc18, cc60, kZ5, kZ7, kZ9, kZ12, kZ13, kZ14, kZ15, kZ16, kZ17, kZ18, kZ19, kZ60, hltx, ← eK0, glK, gx0', gpK, hrem, hlV, run_contains, t1, t7, decide_true, decide_false, neB, eq_self, Bool.not_true, Bool.not_false, Bool.false_eq_true] | refine WP_drw ?_ | refine cnd_intro (fun hsp => ?_) fun hsp => ?_)
              refine WP_count [(4, 4), (23, 24), (147, 171)] 0 vs.length (Nat.zero_le _) (fun H0 j fr h' => fr 147 = .int .i64 (j : Int) ∧ h' = H0) ?_ ?_ ?_
              · exact ⟨by (simp (disch := first | exact dschE41 | fail) only [go_sem, ↓reduceIte, Int.natCast_zero]; first | done | rfl), rfl⟩
              · rintro j fr8 K1 hj0 hj hA8 ⟨r147, eK1⟩
                subst eK1
                have e5 := hA8 5 rfl
                have e7 := hA8 7 rfl
                have e9 := hA8 9 rfl
                have e12 := hA8 12 rfl
                have e13 := hA8 13 rfl
                have e14 := hA8 14 rfl
                have e16 := hA8 16 rfl
                have e18 := hA8 18 rfl
                have e20 := hA8 20 rfl
                have e58 := hA8 58 rfl
                have e59 := hA8 59 rfl
                have e60 := hA8 60 rfl
                have e115 := hA8 115 rfl
                have e116 := hA8 116 rfl
                have e145 := hA8 145 rfl
                have e146 := hA8 146 rfl
                try simp (disch := first | exact dschE41 | fail) only [go_sem, ↓reduceIte, d5, d7, d9, d12, d13, d14, d16, d18, d58, d59, d60, d115] at e5 e7 e9 e12 e13 e14 e16 e18 e20 e58 e59 e60 e115 e116 e145 e146
                have hltj : ((j : Int) < (vs.length : Int)) = True := eq_true (by omega)
                have hgj := getD_some (d := AVal.none) hj
                obtain ⟨ty, oy, hy⟩ := hTrK _ (List.mem_of_getElem? hgj)
                have hadj := oVK.addr (P := prog) (i := (j : Int)) Fc.el53 Fc.ar53 (by omega) (by omega)
                rw [Int.toNat_natCast] at hadj
                have hldj : loadP prog K1 27 (elAdr w encV.z j 0) = some (vs.getD j AVal.none) := oVK.cell (P := prog) Fc.ty27 (o := 0) hgj (by simp only [encV, norm_one oy.one]; rfl)
                have hyl := truth_len hy.1
                have hla := fun base => run_lasts (base := base) (k := (k : Int)) (x := (x : Int)) (oy.rows (by omega))
                rcases Bool.eq_false_or_eq_true (lstB ty (k : Int) (x : Int)) with cl | cl
                · have t9 : ((x : Int) ∈ (canM L (k : Int)).1) = True := eq_true ((hcan.2 _).2 ⟨by omega, ty, hy, lstB_iff.1 cl⟩)
                  rw [cl] at hla
                  have hsp := @Nat.succ_ne_zero; repeat' (first | simp (disch := first | exact dschE41 | fail) only [go_sem, ↓reduceIte, hsp, r147, e5, e7, e9, e12, e13, e14, e16, e18, e20, e58, e59, e60, e115, e116, e145, e146, d5, d7, d9, d12, d13, d14, d16, d18, d58, d59, d60, d115, cc5, cc7, cc9, cc12, cc13, cc14, cc16, cc18, cc60, kZ5, kZ7, kZ9, kZ12, kZ13, kZ14, kZ15, kZ16, kZ17, kZ18, kZ19, kZ60, hltj, hadj, hldj, gkK, gx0', hla, run_contains, t9, decide_true, eq_self, Bool.not_true, Bool.not_false, Bool.false_eq_true] | refine WP_drw ?_ | refine cnd_intro (fun hsp => ?_) fun hsp => ?_)
                  exact ⟨by (repeat first | exact Agree.refl | assumption | refine Agree.put rfl ?_ | refine Agree.put0 ?_ | refine Agree.sub rfl (by assumption) ?_), by omega⟩
                · have t9 : ((x : Int) ∈ (sryM L (k : Int)).1) = False := eq_false fun q2 => by
                    have := lstB_iff.2 (((hsry.2 _).1 q2).2 ty hy)
                    rw [cl] at this
                    cases this
                  rw [cl] at hla
                  have hsp := @Nat.succ_ne_zero; repeat' (first | simp (disch := first | exact dschE41 | fail) only [go_sem, ↓reduceIte, hsp, r147, e5, e7, e9, e12, e13, e14, e16, e18, e20, e58, e59, e60, e115, e116, e145, e146, d5, d7, d9, d12, d13, d14, d16, d18, d58, d59, d60, d115, cc5, cc7, cc9, cc12, cc13, cc14, cc16, cc18, cc60, kZ5, kZ7, kZ9, kZ12, kZ13, kZ14, kZ15, kZ16, kZ17, kZ18, kZ19, kZ60, hltj, hadj, hldj, gkK, gx0', hla, run_contains, t9, decide_false, eq_self, Bool.not_true, Bool.not_false, Bool.false_eq_true] | refine WP_drw ?_ | refine cnd_intro (fun hsp => ?_) fun hsp => ?_)
                  exact ⟨by (repeat first | exact Agree.refl | assumption | refine Agree.put rfl ?_ | refine Agree.put0 ?_ | refine Agree.sub rfl (by assumption) ?_), by omega⟩
              · rintro fr8 K1 hA8 ⟨r147, eK1⟩
                subst eK1
                have e5 := hA8 5 rfl
                have e7 := hA8 7 rfl
                have e9 := hA8 9 rfl
                have e12 := hA8 12 rfl
                have e13 := hA8 13 rfl
                have e14 := hA8 14 rfl
                have e16 := hA8 16 rfl
                have e18 := hA8 18 rfl
                have e20 := hA8 20 rfl
                have e58 := hA8 58 rfl
                have e59 := hA8 59 rfl
                have e60 := hA8 60 rfl
                have e115 := hA8 115 rfl
                have e116 := hA8 116 rfl
                have e145 := hA8 145 rfl
                have e146 := hA8 146 rfl
                try simp (disch := first | exact dschE41 | fail) only [go_sem, ↓reduceIte, d5, d7, d9, d12, d13, d14, d16, d18, d58, d59, d60, d115] at e5 e7 e9 e12 e13 e14 e16 e18 e20 e58 e59 e60 e115 e116 e145 e146
                have hltj : ((vs.length : Int) < (vs.length : Int)) = False := eq_false (by omega)
                have hsp := @Nat.succ_ne_zero; repeat' (first | simp (disch := first | exact dschE41 | fail) only [go_sem, ↓reduceIte, hsp, r147, r116, e5, e7, e9, e12, e13, e14, e16, e18, e20, e58, e59, e60, e115, e116, e145, e146, d5, d7, d9, d12, d13, d14, d16, d18, d58, d59, d60, d115, cc5, cc7, cc9, cc12, cc13, cc14, cc16, cc18, cc60, kZ5, kZ7, kZ9, kZ12, kZ13, kZ14, kZ15, kZ16, kZ17, kZ18, kZ19, kZ60, hltj] | refine WP_drw ?_ | refine cnd_intro (fun hsp => ?_) fun hsp => ?_)
                exact ⟨by (repeat first | exact Agree.refl | assumption | refine Agree.put rfl ?_ | refine Agree.put0 ?_ | refine Agree.sub rfl (by assumption) ?_), by omega, xKK⟩
        · rintro fr7 K hA7 ⟨r116, xK⟩
          have d5 := hA7 5 rfl
          have d7 := hA7 7 rfl
          have d9 := hA7 9 rfl
          have d12 := hA7 12 rfl
          have d13 := hA7 13 rfl
          have d14 := hA7 14 rfl
          have d16 := hA7 16 rfl
          have d18 := hA7 18 rfl
          have d58 := hA7 58 rfl
          have d59 := hA7 59 rfl
          have d60 := hA7 60 rfl
          have d115 := hA7 115 rfl
          try simp (disch := first | exact dschE41 | fail) only [go_sem, ↓reduceIte, cc5, cc7, cc9, cc12, cc13, cc14, cc16, cc18, cc60] at d5 d7 d9 d12 d13 d14 d16 d18 d58 d59 d60 d115
          have hltx : (((L.T.toNat : Nat) : Int) < L.T) = False := eq_false (by omega)
          have oVK := (oVH.ext (xG.trans x8G)).ext xK
          have hTrK := (hTr.ext (xG.trans x8G)).ext xK
          have gkK := xK.get gk7
          have gkS : K[G.length]? = some (intB k) := gkK
          have j2 := i27.ext xK
          have hlV : lenOpA prog K 53 w = some (.int .i64 (vs.length : Int)) := oVK.len Fc.el53
          have yK := (y7.trans xK).len
          have hsp := @Nat.succ_ne_zero; repeat' (first | simp (disch := first | exact dschE41 | fail) only [go_sem, ↓reduceIte, hsp, r116, d5, d7, d9, d12, d13, d14, d16, d18, d58, d59, d60, d115, cc5, cc7, cc9, cc12, cc13, cc14, cc16, cc18, cc60, kZ5, kZ7, kZ9, kZ12, kZ13, kZ14, kZ15, kZ16, kZ17, kZ18, kZ19, kZ60, hltx, hlV] | refine WP_drw ?_ | refine cnd_intro (fun hsp => ?_) fun hsp => ?_)
          refine WP_count [(4, 4), (26, 26), (175, 188)] 0 vs.length (Nat.zero_le _) (fun H0 j fr h' => fr 175 = .int .i64 (j : Int) ∧ h' = H0) ?_ ?_ ?_
          · exact ⟨by (simp (disch := first | exact dschE41 | fail) only [go_sem, ↓reduceIte, Int.natCast_zero]; first | done | rfl), rfl⟩
          · rintro j fr8 K1 hj0 hj hA8 ⟨r175, eK1⟩
            subst eK1
            have e5 := hA8 5 rfl
            have e7 := hA8 7 rfl
            have e9 := hA8 9 rfl
            have e12 := hA8 12 rfl
            have e58 := hA8 58 rfl
            have e59 := hA8 59 rfl
            have e60 := hA8 60 rfl
            have e173 := hA8 173 rfl
            have e174 := hA8 174 rfl
            try simp (disch := first | exact dschE41 | fail) only [go_sem, ↓reduceIte, d5, d7, d9, d12, d58, d59, d60] at e5 e7 e9 e12 e58 e59 e60 e173 e174
            have hltj : ((j : Int) < (vs.length : Int)) = True := eq_true (by omega)
            have hgj := getD_some (d := AVal.none) hj
            obtain ⟨ty, oy, hy⟩ := hTrK _ (List.mem_of_getElem? hgj)
            have hadj := oVK.addr (P := prog) (i := (j : Int)) Fc.el53 Fc.ar53 (by omega) (by omega)
            rw [Int.toNat_natCast] at hadj
            have hldj : loadP prog K1 27 (elAdr w encV.z j 0) = some (vs.getD j AVal.none) := oVK.cell (P := prog) Fc.ty27 (o := 0) hgj (by simp only [encV, norm_one oy.one]; rfl)
            have hyl := truth_len hy.1
            have hany := fun base => anyF_B (base := base) (h := K1) (g := .fn 29 [] [.ptr (some ⟨G.length, 0, 0⟩)]) (fun b => decide (b.1 = (k : Int))) (oy.rows (by omega)) (fun base b hb => run_la2 gkS)
            by_cases cm : (k : Int) ∈ (mstM L).1
            · have tm : ((k : Int) ∈ (mstM L).1) = True := eq_true cm
              have ta : (ty.any fun b => decide (b.1 = (k : Int))) = true := by
                obtain ⟨b, hb, h1⟩ := ((hm.2 k).1 cm).2 ty hy
                exact List.any_eq_true.2 ⟨b, hb, decide_eq_true h1⟩
              rw [ta] at hany
              have hsp := @Nat.succ_ne_zero; repeat' (first | simp (disch := first | exact dschE41 | fail) only [go_sem, ↓reduceIte, hsp, r175, e5, e7, e9, e12, e58, e59, e60, e173, e174, d5, d7, d9, d12, d13, d14, d16, d18, d58, d59, d60, d115, cc5, cc7, cc9, cc12, cc13, cc14, cc16, cc18, cc60, kZ5, kZ7, kZ9, kZ12, kZ13, kZ14, kZ15, kZ16, kZ17, kZ18, kZ19, kZ60, hltj, hadj, hldj, gkK, hany, run_contains, tm, decide_true, eq_self, Bool.not_true, Bool.not_false, Bool.false_eq_true] | refine WP_drw ?_ | refine cnd_intro (fun hsp => ?_) fun hsp => ?_)
              exact ⟨by (repeat first | exact Agree.refl | assumption | refine Agree.put rfl ?_ | refine Agree.put0 ?_ | refine Agree.sub rfl (by assumption) ?_), by omega⟩
            · have tm : ((k : Int) ∈ (mstM L).1) = False := eq_false cm
              have hsp := @Nat.succ_ne_zero; repeat' (first | simp (disch := first | exact dschE41 | fail) only [go_sem, ↓reduceIte, hsp, r175, e5, e7, e9, e12, e58, e59, e60, e173, e174, d5, d7, d9, d12, d13, d14, d16, d18, d58, d59, d60, d115, cc5, cc7, cc9, cc12, cc13, cc14, cc16, cc18, cc60, kZ5, kZ7, kZ9, kZ12, kZ13, kZ14, kZ15, kZ16, kZ17, kZ18, kZ19, kZ60, hltj, hadj, hldj, gkK, run_contains, tm, decide_false, eq_self, Bool.not_true, Bool.not_false, Bool.false_eq_true] | refine WP_drw ?_ | refine cnd_intro (fun hsp => ?_) fun hsp => ?_)
              exact ⟨by (repeat first | exact Agree.refl | assumption | refine Agree.put rfl ?_ | refine Agree.put0 ?_ | refine Agree.sub rfl (by assumption) ?_), by omega⟩
          · rintro fr8 K1 hA8 ⟨r175, eK1⟩
            subst eK1
            have e5 := hA8 5 rfl
            have e7 := hA8 7 rfl
            have e9 := hA8 9 rfl
            have e12 := hA8 12 rfl
            have e58 := hA8 58 rfl
            have e59 := hA8 59 rfl
            have e60 := hA8 60 rfl
            have e173 := hA8 173 rfl
            have e174 := hA8 174 rfl
            try simp (disch := first | exact dschE41 | fail) only [go_sem, ↓reduceIte, d5, d7, d9, d12, d58, d59, d60] at e5 e7 e9 e12 e58 e59 e60 e173 e174
            have hltj : ((vs.length : Int) < (vs.length : Int)) = False := eq_false (by omega)
            have hsp := @Nat.succ_ne_zero; repeat' (first | simp (disch := first | exact dschE41 | fail) only [go_sem, ↓reduceIte, hsp, r175, r116, e5, e7, e9, e12, e58, e59, e60, e173, e174, d5, d7, d9, d12, d13, d14, d16, d18, d58, d59, d60, d115, cc5, cc7, cc9, cc12, cc13, cc14, cc16, cc18, cc60, kZ5, kZ7, kZ9, kZ12, kZ13, kZ14, kZ15, kZ16, kZ17, kZ18, kZ19, kZ60, hltj] | refine WP_drw ?_ | refine cnd_intro (fun hsp => ?_) fun hsp => ?_)
            exact ⟨by (repeat first | exact Agree.refl | assumption | refine Agree.put rfl ?_ | refine Agree.put0 ?_ | refine Agree.sub rfl (by assumption) ?_), by omega, (xG.trans x8G).trans xK⟩
    · rintro fr2 G hA2 ⟨r60, xG⟩
      have q5 := hA2 5 rfl
      have q7 := hA2 7 rfl
      have q9 := hA2 9 rfl
      have q58 := hA2 58 rfl
      have q59 := hA2 59 rfl
      try simp (disch := first | exact dschE41 | fail) only [go_sem, ↓reduceIte, p5, p7] at q5 q7 q9 q58 q59
      have hltk : ((L.ps.length : Int) < (L.ps.length : Int)) = False := eq_false (by omega)
      have hsp := @Nat.succ_ne_zero; repeat' (first | simp (disch := first | exact dschE41 | fail) only [go_sem, ↓reduceIte, hsp, r60, q5, q7, q9, q58, q59, p4, p5, p7, p10, hltk, run_awake] | refine WP_drw ?_ | refine cnd_intro (fun hsp => ?_) fun hsp => ?_)
      exact fB rfl (yH.trans xG)
end Go.AM
