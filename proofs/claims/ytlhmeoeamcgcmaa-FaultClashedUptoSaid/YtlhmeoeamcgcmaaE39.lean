/-
  Truths in a list.
-/
import Derived.Test.YtlhmeoeamcgcmaaE38
set_option linter.unusedSimpArgs false
set_option linter.unusedVariables false
namespace Go.AM
open Go.Proofs.Try

/-- Values, by cells. -/
def encV : Enc AVal := ⟨1, fun v => [norm v], fun _ => rfl, by decide⟩
theorem encV_sc : ∀ y, (encV.cells y).all AVal.scalar = true := fun y => by
  have : (norm y).scalar = true := by unfold norm; split <;> simp_all [AVal.scalar]
  simp only [encV, List.all_cons, this, List.all_nil]
  rfl
theorem bsV0 {lit : Bool} {A : Heap} {v : AVal} (h1 : One v) (hl : lit = false) : bsA prog lit A 53 1 [(0, v)] = some (.slice (some ⟨A.length, 0, 0⟩) 1 1, A ++ [rowE encV 27 [v] 0]) := by
  subst hl
  rcases h1 with ⟨h1, h2, h3⟩
  simp [bsA, rowOf, Fc.el53, fillA, repCells, h1, h2, h3, splice, rowE, flat, encV, norm]
/-- One value more. -/
theorem snocV {A : Heap} {w v : AVal} {vs : List AVal} {b base : Nat} (hO : Own encV 27 b A w vs) (h1 : One v) (hb : base ≤ b) (hbh : b ≤ A.length) (hl : vs.length ≤ 1000) :
    ∃ x A', (∀ {lit : Bool}, lit = true → bsA prog lit A 53 1 [(0, v)] = some (x, A')) ∧ Ext A A' ∧ ∃ w' h', appendA prog base A' 53 w x = some (w', h') ∧ Own encV 27 b h' w' (vs ++ [v]) ∧ A.length ≤ h'.length ∧ (∀ G, G.length ≤ b → Ext G A → Ext G h') ∧ One w' ∧ KeepO encV 27 A h' := by
  have hn := norm_one h1
  rcases h1 with ⟨q1, q2, q3⟩
  have hr : rowOf prog 53 1 [(0, v)] = some (27, 1, [v]) := by
    simp [rowOf, Fc.el53, fillA, repCells, q1, q2, q3, splice]
  by_cases hbare : AVal.bare v = true
  · obtain ⟨w', h', a1, a2, a3, a4, a5, a6⟩ := hO.append1X (P := prog) (y := v) (a := v) (base := base) (t := 53) rfl (by simp only [encV, hn]) Fc.el53 encV_sc hb hbh (by omega)
    refine ⟨.vals [v], A, fun {lit} hlit => ?_, .refl, w', h', a1, a2, a3, a4, a5, a6⟩
    subst hlit
    simp only [bsA, hr]
    rw [if_neg (by decide), if_pos ⟨trivial, trivial, by simp [hbare]⟩]
  · obtain ⟨w', h', a1, a2, a3, a4, a5, a6⟩ := (hO.app (T := [rowE encV 27 [v] 0])).appendRX (P := prog) (x := .slice (some ⟨A.length, 0, 0⟩) 1 1) (m := [v]) (base := base) (t := 53) (Rows.own (get_eq rfl) rfl (by simp)) Fc.el53 encV_sc hb (by simp; omega) (by simp) (by simp; omega)
    refine ⟨.slice (some ⟨A.length, 0, 0⟩) 1 1, A ++ [rowE encV 27 [v] 0], fun {lit} hlit => ?_, .app .refl, w', h', a1, a2, by simp at a3; omega, fun G hG e => a4 G hG (e.trans (.app .refl)), a5, fun i y g hy => a6 i y (get_app g) hy⟩
    simp only [bsA, hr]
    rw [if_neg (by decide), if_neg (fun q => hbare (by simpa using q.2.2))]
    simp [rowE, flat, encV, hn]
/-- Truths of a loom in a list. -/
def TrsAt (L : Lom) (H : Heap) (vs : List AVal) : Prop := ∀ v ∈ vs, ∃ t, Own encB 61 0 H v t ∧ XpA L t
theorem TrsAt.ext {L : Lom} {H H' : Heap} {vs : List AVal} (x : TrsAt L H vs) (e : Ext H H') : TrsAt L H' vs := fun v hv => by
  obtain ⟨t, a, b⟩ := x v hv
  exact ⟨t, a.ext e, b⟩
theorem TrsAt.setBox {L : Lom} {H : Heap} {vs : List AVal} {k : ABlk} {a : Nat} {c : List AVal} {t : TypeId} {ro : Bool} {u : Nat} (x : TrsAt L H vs) (hg : H[a]? = some ⟨.cells c t false ro, u⟩) : TrsAt L (H.set a k) vs := fun v hv => by
  obtain ⟨t, p, q⟩ := x v hv
  exact ⟨t, p.setBox hg, q⟩
theorem TrsAt.keep {L : Lom} {H H' : Heap} {vs : List AVal} (x : TrsAt L H vs) (k : KeepO encV 27 H H') : TrsAt L H' vs := fun v hv => by
  obtain ⟨t, p, q⟩ := x v hv
  exact ⟨t, k.own p (by decide), q⟩
end Go.AM
/-
  FaultLasting, walked.
-/
namespace Go.AM
open Go.Proofs.Try
theorem dschE40 {p : Prop} (h : p := by first | exact Nat.ne_of_beq_eq_false rfl | assumption | (apply asOne; (first | exact One.int | exact One.bool | assumption | exact Ints.one (by assumption) | exact Rows.one (by assumption) | exact Own.one (by assumption) | exact One.lit ⟨rfl, rfl, rfl⟩)) | (apply asInts; (repeat first | assumption | exact ints_nil | apply Ints.app); done) | (apply asRows; (repeat first | assumption | exact Rows.nil | apply Rows.app); done) | (apply asScal; (first | apply allS1 | apply allS2 | apply allS3 | apply allS4) <;> (first | exact One.int | exact One.bool | assumption | exact Ints.one (by assumption) | exact Rows.one (by assumption) | exact Own.one (by assumption) | exact One.lit ⟨rfl, rfl, rfl⟩)) | exact litT rfl | exact litF rfl | omega | (simp only [List.length_append, List.length_cons, List.length_nil, List.length_set, List.length_reverse]; first | done | omega) | fail) : p := h
attribute [-go_sem] put_ne put_same
attribute [local go_sem ↓] put_if

/-- A good sight excludes a part at a throw. -/
def excB (p : Prt) (x : Int) (s : Sgt) : Bool := !s.bad && decide (s.lo ≤ x) && decide (x ≤ s.hi) && decide (s.rib ∈ p.rib)
theorem run_la1 {base i1 i2 : Nat} {h : Heap} {r : AVal} {p : Prt} {x : Int} {s : Sgt} (g1 : h[i1]? = some (intB x)) (g2 : h[i2]? = some ⟨.cells [r, .int .i64 p.each, .int .i64 p.ph, .bool p.wv] 55 false false, 0⟩) (hr : Ints h r p.rib) :
    callL prog raw base (.fn 26 [] [.ptr (some ⟨i1, 0, 0⟩), .ptr (some ⟨i2, 0, 0⟩)]) [.agg (encS.cells s)] h = some (.bool (excB p x s), h) := by
  rw [intB] at g1
  have g1' : ∀ {a : ABlk}, (h ++ [a])[i1]? = _ := fun {a} => get_app g1
  have g2' : ∀ {a : ABlk}, (h ++ [a])[i2]? = _ := fun {a} => get_app g2
  have e : ∀ {base : Nat} {a : ABlk}, callL prog raw base (.fn 25 [] []) [r, .int .i64 s.rib] (h ++ [a]) = some (.bool (decide (s.rib ∈ p.rib)), h ++ [a]) := fun {base a} => run_contains hr.app
  unfold excB
  simp only [encS]
  refine callL_run func26 rfl rfl ?_
  rcases Bool.eq_false_or_eq_true s.bad with c0 | c0
  · rw [c0]
    have hsp := @Nat.succ_ne_zero; repeat' (first | simp (disch := first | exact dschE40 | fail) only [go_sem, ↓reduceIte, hsp, g1', g2', e, Bool.not_true, Bool.false_eq_true, eq_self] | refine WP_drw ?_ | refine cnd_intro (fun hsp => ?_) fun hsp => ?_)
    exact fB rfl
  · rw [c0]
    by_cases c1 : s.lo ≤ x
    · have t1 : (s.lo ≤ x) = True := eq_true c1
      by_cases c2 : x ≤ s.hi
      · have t2 : (x ≤ s.hi) = True := eq_true c2
        have hsp := @Nat.succ_ne_zero; repeat' (first | simp (disch := first | exact dschE40 | fail) only [go_sem, ↓reduceIte, hsp, g1', g2', e, Bool.not_false, eq_self, t1, t2] | refine WP_drw ?_ | refine cnd_intro (fun hsp => ?_) fun hsp => ?_)
        refine fB ?_
        simp [c1, c2]
      · have t2 : (x ≤ s.hi) = False := eq_false c2
        have hsp := @Nat.succ_ne_zero; repeat' (first | simp (disch := first | exact dschE40 | fail) only [go_sem, ↓reduceIte, hsp, g1', g2', e, Bool.not_false, eq_self, t1, t2] | refine WP_drw ?_ | refine cnd_intro (fun hsp => ?_) fun hsp => ?_)
        refine fB ?_
        simp [c1, c2]
    · have t1 : (s.lo ≤ x) = False := eq_false c1
      have hsp := @Nat.succ_ne_zero; repeat' (first | simp (disch := first | exact dschE40 | fail) only [go_sem, ↓reduceIte, hsp, g1', g2', e, Bool.not_false, eq_self, t1] | refine WP_drw ?_ | refine cnd_intro (fun hsp => ?_) fun hsp => ?_)
      refine fB ?_
      simp [c1]
theorem run_la2 {base i1 : Nat} {h : Heap} {k : Int} {b : Brk} (g1 : h[i1]? = some (intB k)) :
    callL prog raw base (.fn 29 [] [.ptr (some ⟨i1, 0, 0⟩)]) [.agg (encB.cells b)] h = some (.bool (decide (b.1 = k)), h) := by
  rw [intB] at g1
  have g1' : ∀ {a : ABlk}, (h ++ [a])[i1]? = _ := fun {a} => get_app g1
  simp only [encB]
  refine callL_run func29 rfl rfl ?_
  have hsp := @Nat.succ_ne_zero; repeat' (first | simp (disch := first | exact dschE40 | fail) only [go_sem, ↓reduceIte, hsp, g1'] | refine WP_drw ?_ | refine cnd_intro (fun hsp => ?_) fun hsp => ?_)
  exact fB rfl
theorem excB_iff {L : Lom} (hc : chkM L = 0) {k t : Nat} (hk : k < L.ps.length) : (((t : Int).tmod (L.ps.getD k prt0).each = (L.ps.getD k prt0).ph) ∧ (L.ss.any (excB (L.ps.getD k prt0) (t : Int))) = true) ↔ ∃ i ∈ allI L, exclI L k t i := by
  constructor
  · rintro ⟨h1, h2⟩
    obtain ⟨s, hs, q⟩ := List.any_eq_true.1 h2
    obtain ⟨i, hi, rfl⟩ := List.getElem_of_mem hs
    unfold excB at q
    simp only [Bool.and_eq_true, Bool.not_eq_true', decide_eq_true_eq] at q
    refine ⟨(i : Int), upto_mem.2 ⟨by omega, by omega⟩, ?_⟩
    unfold exclI
    rw [sgtI_nat, badI_nat, getD_at hi]
    exact ⟨q.1.1.1, q.1.1.2, q.1.2, h1, q.2⟩
  · rintro ⟨i, hi, q1, q2, q3, q4, q5⟩
    refine ⟨q4, List.any_eq_true.2 ⟨sgtI L i, sgtI_mem (upto_mem.1 hi), ?_⟩⟩
    unfold excB
    simp only [Bool.and_eq_true, Bool.not_eq_true', decide_eq_true_eq]
    exact ⟨⟨⟨q1, q2⟩, q3⟩, q5⟩
/-- No break lasts where its part is excluded. -/
theorem excl_not {L : Lom} (hc : chkM L = 0) {k t : Nat} {i : Int} (hi : i ∈ allI L) (hx : exclI L k t i) {u : List Brk} (hu : XpA L u) : ¬ lst4 u (k : Int) (t : Int) := by
  rintro ⟨b, hb, h1, h2, h3⟩
  obtain ⟨q1, q2, q3, q4, q5⟩ := hx
  have := (hu.2 i hi).1 ⟨b, hb, by
    unfold tch prtOf
    rw [h1, Int.toNat_natCast]
    exact ⟨q5, (t : Int), h2, h3, q2, q3, q4⟩⟩
  rw [q1] at this
  cases this
theorem small_of {l : List Int} (hl : l.length ≤ 1000) (hb : ∀ x ∈ l, 0 ≤ x ∧ x < 1000) : Small l := ⟨by omega, fun x hx => by have := hb x hx; omega⟩
theorem mstM_small {L : Lom} (hc : chkM L = 0) {t : List Brk} (ht : XpA L t) : Small (mstM L).1 := by
  have k3 := (chkM_ok hc).2.2.1
  refine small_of ?_ fun x hx => by have := ((mstM_mem hc ht).2 x).1 hx; omega
  unfold mstM
  rw [tolE_val hc ht]
  have := selN_len (p := fun k => decide ((expA L (mstF k)).1 = 0)) (g := fun k => (k : Int)) L.ps.length
  show (selN _ _ _).length ≤ _
  omega
theorem sryM_small {L : Lom} (hc : chkM L = 0) {t : List Brk} (ht : XpA L t) {k : Int} (hk : 0 ≤ k ∧ k < (L.ps.length : Int)) : Small (sryM L k).1 := by
  have k3 := (chkM_ok hc).2.1
  refine small_of ?_ fun x hx => by have := ((sryM_mem hc ht hk).2 x).1 hx; omega
  unfold sryM
  rw [prtB_iff.2 hk, tolE_val hc ht]
  have := selN_len (p := fun t => decide ((expA L (sryF k t)).1 = 0)) (g := fun k => (k : Int)) L.T.toNat
  show (selN _ _ _).length ≤ _
  omega
theorem canM_small {L : Lom} (hc : chkM L = 0) {t : List Brk} (ht : XpA L t) {k : Int} (hk : 0 ≤ k ∧ k < (L.ps.length : Int)) : Small (canM L k).1 := by
  have k3 := (chkM_ok hc).2.1
  refine small_of ?_ fun x hx => by have := ((canM_mem hc ht hk).2 x).1 hx; omega
  unfold canM
  rw [prtB_iff.2 hk, tolE_val hc ht]
  have := numsN_len (l := canA L k.toNat) (n := L.T.toNat)
  show (numsN _ _).length ≤ _
  omega
theorem excM_small {L : Lom} (hc : chkM L = 0) {k : Int} (hk : 0 ≤ k ∧ k < (L.ps.length : Int)) : Small (excM L k).1 := by
  have k3 := (chkM_ok hc).2.1
  refine small_of ?_ fun x hx => by have := ((excM_mem hc hk).2 x).1 hx; omega
  unfold excM
  rw [if_neg (by simp [hc]), if_neg (by omega)]
  have := numsN_len (l := (deskA L).2.getD k.toNat []) (n := L.T.toNat)
  show (numsN _ _).length ≤ _
  omega
end Go.AM
/-
  FaultFound, walked.
-/
namespace Go.AM
open Go.Proofs.Try
attribute [-go_sem] put_ne put_same
attribute [local go_sem ↓] put_if

theorem Ints.take {H : Heap} {id ver o n k i : Nat} {l : List Int} (x : Ints H (.slice (some ⟨id, ver, o⟩) n k) l) (hi : i ≤ n) : Ints H (.slice (some ⟨id, ver, o⟩) i k) (l.take i) := by
  rcases x.2 with ⟨q, _⟩ | ⟨q, _⟩ | ⟨r, kk, c, e, row, ro, q, h1, h2, h3, h4⟩
  · cases q
  · cases q
  · simp only [AVal.slice.injEq, Option.some.injEq] at q
    obtain ⟨rfl, hn, rfl⟩ := q
    have hl : (l.take i).length = i := by rw [List.length_take]; omega
    have h3' : o + l.length ≤ c.length := h3
    refine ⟨⟨by rw [hl]; have := x.1.1; omega, fun y hy => x.1.2 y (List.mem_of_mem_take hy)⟩, .inr (.inr ⟨_, _, c, e, row, ro, by rw [hl], h1, ?_, by rw [hl]; show o + i ≤ c.length; omega, by rw [hl]; omega⟩)⟩
    rw [hl]
    have := congrArg (List.take i) h2
    rw [List.take_take, Nat.min_eq_left (by omega)] at this
    rw [this]
    simp [ints, List.map_take]
theorem wvrM_small {L : Lom} (hc : chkM L = 0) {t : List Brk} (ht : XpA L t) : Small (wvrM L).1 := by
  have k4 := (chkM_ok hc).2.2.2.1
  refine small_of ?_ fun x hx => by have := ((wvrM_mem hc ht).2 x).1 hx; omega
  unfold wvrM
  rw [tolE_val hc ht]
  have h1 := selN_len (p := fun k => decide ((expA L (othF L (2 ^ k))).1 = 0)) (g := fun k => (deskA L).1.getD k 0) (deskA L).1.length
  have h2 := (deskN_len (L := L) (upto L.ss.length)).2.2
  rw [upto_len] at h2
  show (selN _ _ _).length ≤ _
  have h3 : (deskA L).1.length ≤ L.ss.length := h2
  omega
theorem pckM_small {L : Lom} (hc : chkM L = 0) {t : List Brk} (ht : XpA L t) : Small (pckM L).1 := by
  have k4 := (chkM_ok hc).2.2.2.1
  have hk := pckM_best hc ht
  have hd : ∀ x ∈ (pckM L).1, 0 ≤ x ∧ x < (L.ss.length : Int) := fun x hx => (deskA_mem.1 (hk.2.1.subset hx)).1
  have h2 := (deskN_len (L := L) (upto L.ss.length)).2.2
  rw [upto_len] at h2
  have h3 : (deskA L).1.length ≤ L.ss.length := h2
  refine small_of ?_ fun x hx => by have := hd x hx; omega
  have := hk.2.1.length_le
  omega
theorem lftM_small {L : Lom} (hc : chkM L = 0) {t : List Brk} (ht : truOk L t) : Small (lftM L t).1 := by
  have k4 := (chkM_ok hc).2.2.2.1
  have h1 := @lftM_len L t
  refine small_of (by omega) fun x hx => ?_
  unfold lftM at hx
  rw [if_neg (by simp [hc]), if_neg (by simp [truM_iff.2 ht])] at hx
  have := (lftN_mem ht).1 hx
  omega
/-- What is left, and whether it is nothing. -/
theorem lftM_ok {L : Lom} (hc : chkM L = 0) {t : List Brk} (ht : truOk L t) : (lftM L t).2 = 0 ∧ (xplM L t = true ↔ (lftM L t).1.length = 0) ∧ ∀ i, i ∈ (lftM L t).1 ↔ (0 ≤ i ∧ i < (L.ss.length : Int)) ∧ ¬ (bdT L t (sgtI L i) ↔ badI L i = true) := by
  have e : lftM L t = (lftN (spoS L t t.length) L.ss L.ss.length, 0) := by
    unfold lftM
    rw [if_neg (by simp [hc]), if_neg (by simp [truM_iff.2 ht])]
  rw [e]
  refine ⟨rfl, ?_, fun i => lftN_mem ht⟩
  rw [xplM_iff hc, List.length_eq_zero_iff]
  exact (xp_left ht).symm
/-- Packed sights rise. -/
theorem pckM_sorted {L : Lom} (hc : chkM L = 0) {t : List Brk} (ht : XpA L t) : (pckM L).1.Pairwise (· < ·) := deskA_sorted.sublist (pckM_best hc ht).2.1
theorem pckM_few {L : Lom} (hc : chkM L = 0) {t : List Brk} (ht : XpA L t) : (pckM L).1.length ≤ (fewM L).1.length := by
  have hk := pckM_best hc ht
  exact apart_len (fewM_truth hc ht).2.1 ((pckM_sorted hc ht).imp fun h => by omega) (fun i hi => hk.2.1.subset hi) hk.2.2.1
end Go.AM
