/-
  Contracts: Decide.
-/
import Derived.Test.YteanoaejoddnbaaU16
import Derived.Test.YteanoaejoddnbaaU15
import Derived.Test.YteanoaejoddnbaaU12
import Derived.Test.YteanoaejoddnbaaU14
import Derived.Test.YteanoaejoddnbaaU13
set_option linter.unusedSimpArgs false
set_option linter.unusedVariables false
namespace Go.AM
open Go.Proofs.Try
theorem dschL43 {p : Prop} (h : p := by first | exact Nat.ne_of_beq_eq_false rfl | assumption | (apply asOne; (first | exact One.int | exact One.bool | assumption | exact Ints.one (by assumption) | exact Rows.one (by assumption) | exact Own.one (by assumption) | exact One.lit ⟨rfl, rfl, rfl⟩)) | (apply asInts; (repeat first | assumption | exact ints_nil | apply Ints.app); done) | (apply asRows; (repeat first | assumption | exact Rows.nil | apply Rows.app); done) | (apply asScal; (first | apply allS1 | apply allS2 | apply allS3 | apply allS4) <;> (first | exact One.int | exact One.bool | assumption | exact Ints.one (by assumption) | exact Rows.one (by assumption) | exact Own.one (by assumption) | exact One.lit ⟨rfl, rfl, rfl⟩)) | exact litT rfl | exact litF rfl | omega | (simp only [List.length_append, List.length_cons, List.length_nil, List.length_set, List.length_reverse]; first | done | omega) | fail) : p := h
attribute [-go_sem] put_ne put_same
attribute [local go_sem ↓] put_if
/-- No map. -/
def prC (b : ABlk) : Prop := ∀ es, b ≠ ⟨.map es, 0⟩
theorem KeepX.keepP {m : Nat} {H H' : Heap} {es : List (AVal × AVal)} (k : KeepX m H H') (g : H[m]? = some ⟨.map es, 0⟩) : KeepP 0 prC H H' :=
  ⟨k.1, fun i x _ hx hg => k.2 i x (fun e => by rw [e, g] at hg; cases hg; exact hx es rfl) hg⟩
set_option maxHeartbeats 2000000 in
theorem run_dcd1 {base bb B : Nat} {h : Heap} {lv ovv : AVal} {l : List Int} {os : List (List Int)} {n : Nat} (gB : h[B]? = some (lsB ovv)) (hA : AllI bb h ovv os) (hos : os.length ≤ 823543) (hord : ∀ o ∈ os, Ord n o) (hn : n ≤ 7) (hI : Ints h lv l) (hl : l.length ≤ 7) (hin : ∀ x ∈ l, 0 ≤ x ∧ x < (n : Int)) :
    callL prog raw base (.fn 131 [] [.ptr (some ⟨B, 0, 0⟩)]) [lv] h = some (.bool (dcdP os l), h) := by
  have olv := hI.one
  have oov := hA.one
  have lB' := lt_of_get gB
  obtain ⟨G, eG⟩ : ∃ G, G = h ++ [lB lv] ++ [(⟨.map (mpK []), 0⟩ : ABlk)] ++ [mbB (h.length + 1)] := ⟨_, rfl⟩
  have xG : Ext h G := by rw [eG]; exact .app (.app (.app .refl))
  have lG : G.length = h.length + 3 := by rw [eG]; simp
  have gA : G[h.length]? = some (lB lv) := by rw [eG]; exact get_app (get_app (get_eq rfl))
  have gm : G[h.length + 1]? = some ⟨.map (mpK []), 0⟩ := by rw [eG]; exact get_app (get_eq (by simp))
  have gM : G[h.length + 1 + 1]? = some (mbB (h.length + 1)) := by rw [eG]; exact get_eq (by simp)
  have gBG := xG.get gB
  obtain ⟨g, eg⟩ : ∃ g, g = (.fn 132 [] [.ptr (some ⟨h.length, 0, 0⟩), .ptr (some ⟨h.length + 1 + 1, 0, 0⟩)] : AVal) := ⟨_, rfl⟩
  have og : One g := by rw [eg]; exact ⟨rfl, rfl, rfl⟩
  obtain ⟨m, em⟩ : ∃ m, m = h.length + 1 := ⟨_, rfl⟩
  have hA0 := hA
  obtain ⟨vs, hO, hvl, hel⟩ := hA
  have hR := hO.rows (by omega)
  have hk7 : ∀ o, (kyA l o).length = 7 := fun o => kyA_len hl
  obtain ⟨w, H, e3, k3, b, rfl, c1, c2⟩ := everyS_Z (base := h.length) (h := G) (v := ovv) (g := g) (l := vs) (A := 0) (pr := prC)
    (J := fun i H => KeepX m G H ∧ H[m]? = some ⟨.map (mpK ((os.take i).map (kyA l))), 0⟩ ∧ ((os.take i).map (kyA l)).Nodup) (S := fun i H => KeepX m G H ∧ ¬ (os.map (kyA l)).Nodup) (by omega) og (by omega) (fun es q => by cases q)
    (fun i H q => hR.ext (q.1.ext xG (by omega)))
    (fun i x H hx hH ⟨q1, q2, q3⟩ => by
      have hi := (List.getElem?_eq_some_iff.1 hx).1
      have ht : os[i]? = some os[i] := List.getElem?_eq_getElem (by omega)
      obtain ⟨o, eo⟩ : ∃ o, o = os[i]'(by omega) := ⟨_, rfl⟩
      rw [← eo] at ht
      have ho := hel i x _ hx ht
      have hoo := hord o (List.mem_of_getElem? ht)
      have xh := q1.ext xG (by omega)
      rw [norm_one ho.one, eg]
      obtain ⟨H', e, k, u⟩ := run_key (base := h.length) (A := h.length) (M := h.length + 1 + 1) (m := m) (n := n) (H := H) (lv := lv) (ov := x) (l := l) (o := o) (ks := (os.take i).map (kyA l)) (by omega) (q1.2 _ _ (by omega) gA) (by rw [em]; exact q1.2 _ _ (by omega) gM) q2 (hI.ext xh) (ownE_ints (ho.ext xh) (ord_small hoo (by omega))) hl (by rw [hoo.1]; exact hin) (fun y hy => by
        obtain ⟨z, _, rfl⟩ := List.mem_map.1 hy
        exact hk7 z)
      have htk : (os.take (i + 1)).map (kyA l) = (os.take i).map (kyA l) ++ [kyA l o] := by
        rw [List.take_add_one, ht]; simp
      refine ⟨_, H', e, k.keepP q2, fun q => ?_, fun q => ?_⟩
      · have hc := of_decide_eq_true q
        refine ⟨q1.trans k, by rw [htk]; exact u hc, ?_⟩
        rw [htk, List.nodup_append]
        exact ⟨q3, by simp, fun a ha b hb e => by rw [List.mem_singleton] at hb; exact hc (by rw [← hb, ← e]; exact ha)⟩
      · have hc := Classical.not_not.1 (of_decide_eq_false q)
        refine ⟨q1.trans k, fun hN => ?_⟩
        have hsub : ((os.take (i + 1)).map (kyA l)).Nodup := (List.Sublist.map _ (List.take_sublist _ _)).nodup hN
        rw [htk, List.nodup_append] at hsub
        exact hsub.2.2 _ hc _ (by simp) rfl)
    ⟨.ofExt (.app .refl), by rw [em]; exact get_app gm, by simp⟩
  have hfin : KeepX m G H ∧ b = dcdP os l := by
    cases b with
    | true =>
      obtain ⟨q1, _, q3⟩ := c1 rfl
      rw [hvl, List.take_length] at q3
      exact ⟨q1, (decide_eq_true (kyA_nodup.1 q3)).symm⟩
    | false =>
      obtain ⟨i, _, q1, q2⟩ := c2 rfl
      exact ⟨q1, (decide_eq_false (fun q => q2 (kyA_nodup.2 q))).symm⟩
  obtain ⟨kf, rfl⟩ := hfin
  have hmp : ([] : List (AVal × AVal)) = mpK [] := rfl
  unfold lsB at gBG
  unfold mbB lB at eG
  rw [eg] at e3
  refine callL_run func131 rfl rfl ?_
  have hsp := @Nat.succ_ne_zero; repeat' (first | simp (disch := first | exact dschL43 | fail) only [go_sem, ↓reduceIte, hsp, hmp, ← eG, gBG, e3] | refine WP_drw ?_ | refine cnd_intro (fun hsp => ?_) fun hsp => ?_)
  exact fB rfl (kf.ext xG (by omega))
def dcdE (L : Lac) : List Int × Int := if (fndE L).2 = 0 then (dcdL L.C.length (fnd L), 0) else ([], (fndE L).2)
set_option maxHeartbeats 1000000 in
theorem run_Decide {base : Nat} {h : Heap} {v : AVal} {L : Lac} (hb : base ≤ h.length) (hL : LacAt h v L) :
    Ret prog raw base (.fn 62 [] []) [v] h (fun w H => Ext h H ∧ ∃ x, w = .tuple [x, .int .i64 (dcdE L).2] ∧ Own encI 3 h.length H x (dcdE L).1) := by
  have hL0 := hL
  obtain ⟨cv, rv, rfl, hC, hR⟩ := hL
  have o1 := hC.one
  have o2 := hR.one
  obtain ⟨G0, eG0⟩ : ∃ G0, G0 = h ++ [lacB L.T cv rv] := ⟨_, rfl⟩
  have x0 : Ext h G0 := by rw [eG0]; exact .app .refl
  have g0 : G0[h.length]? = some (lacB L.T cv rv) := by rw [eG0]; exact get_eq rfl
  have l0 : G0.length = h.length + 1 := by rw [eG0]; simp
  obtain ⟨w1, H1, e1, x1, a, x, rfl, oa, hA, hD⟩ := run_found (base := base) (h := G0) (by omega) (hL0.ext x0)
  have ox := hA.one
  have l1 := x1.len
  have xh := x0.trans x1
  obtain ⟨H2, eH2⟩ : ∃ H2, H2 = H1 ++ [lsB x] := ⟨_, rfl⟩
  have x2 : Ext H1 H2 := by rw [eH2]; exact .app .refl
  have g2 : H2[H1.length]? = some (lsB x) := by rw [eH2]; exact get_eq rfl
  have l2 : H2.length = H1.length + 1 := by rw [eH2]; simp
  have eH2' := eH2
  unfold lacB at eG0 g0
  unfold lsB at eH2'
  refine ret_raw func62 rfl (by kernel_rfl) ?_
  by_cases c : (fndE L).2 = 0
  · obtain ⟨c1, c2, c3⟩ := fndE_ok c
    have kn := (chkL_iff.1 c1).n
    obtain ⟨id, rfl, hDk⟩ := hD c
    rw [c3] at hA e1
    have hAI : AllI G0.length H1 x (fnd L) := hA.all
    have hfew := fnd_few (L := L) kn.2
    obtain ⟨d1, d2, d3⟩ := dcdL_is (n := L.C.length) (fnd_nodup (L := L)) (fun o ho => (fnd_ord ho).1)
    have r : dcdE L = (dcdL L.C.length (fnd L), 0) := by unfold dcdE; rw [if_pos c]
    rw [r]
    obtain ⟨w3, H3, e3, x3, y, rfl, hres⟩ := run_first (base := base) (id := id) (h := H2) (g := .fn 131 [] [.ptr (some ⟨H1.length, 0, 0⟩)]) (L := L) (p := dcdP (fnd L)) (by omega) ⟨rfl, rfl, rfl⟩ (hDk.ext x2) kn.2
      (fun O H sv l hO y1 y2 hOw hin hll => run_dcd1 (n := L.C.length) (y1.get g2) (hAI.ext (x2.trans y1)) hfew (fun o ho => fnd_ord ho) kn.2 (own_ints hOw ⟨by omega, fun z hz => by have := hin z hz; omega⟩) (by omega) hin)
    rw [d1] at e3
    rw [d2] at hres
    have hres : Own encI 3 H2.length H3 y (dcdL L.C.length (fnd L)) := hres
    have oy := hres.one
    have hsp := @Nat.succ_ne_zero; repeat' (first | simp (disch := first | exact dschL43 | fail) only [go_sem, ↓reduceIte, hsp, ← eG0, g0, e1, eq_self, ← eH2', e3] | refine WP_drw ?_ | refine cnd_intro (fun hsp => ?_) fun hsp => ?_)
    exact ⟨xh.trans (x2.trans x3), y, rfl, hres.low (by omega)⟩
  · have t0 : ((fndE L).2 = 0) = False := eq_false c
    have r : dcdE L = ([], (fndE L).2) := by unfold dcdE; rw [if_neg c]
    rw [r]
    have hsp := @Nat.succ_ne_zero; repeat' (first | simp (disch := first | exact dschL43 | fail) only [go_sem, ↓reduceIte, hsp, ← eG0, g0, e1, t0, ← eH2'] | refine WP_drw ?_ | refine cnd_intro (fun hsp => ?_) fun hsp => ?_)
    exact ⟨xh.trans x2, _, rfl, Own.nil⟩
end Go.AM
/-
  Contracts: the cards that fit a position, whether an order explains the rows, or the errors; whether a list has each number once.
-/
namespace Go.AM
open Go.Proofs.Try
attribute [-go_sem] put_ne put_same
attribute [local go_sem ↓] put_if
def fitE (L : Lac) (p : Int) : List Int × Int := if chkL L ≠ 0 then ([], chkL L) else if ¬ (0 ≤ p ∧ p ≤ (L.C.length : Int) - 1) then ([], 1) else (fitL L p.toNat, 0)
def xplD (L : Lac) (o : List Int) (i : Nat) : Bool := (List.range i).all fun i => fitB L i (o.getD i 0).toNat
/-- The error of a chain, or of an order of its cards. -/
def lcdE (L : Lac) (o : List Int) : Int := if chkL L = 0 then ordL o L.C.length else chkL L
def xpsE (L : Lac) (o : List Int) : Bool × Int := if lcdE L o = 0 then (xplD L o o.length, 0) else (false, lcdE L o)
/-- Each number below n is there once. -/
def prmB (l : List Int) (n : Nat) : Bool := decide (l.length = n) && (upto n).all fun k => decide (k ∈ l)
end Go.AM
/-
  Contracts: what moves make of an order, or the errors.
-/
namespace Go.AM
open Go.Proofs.Try
theorem dschL7 {p : Prop} (h : p := by first | exact Nat.ne_of_beq_eq_false rfl | assumption | (apply asOne; (first | exact One.int | exact One.bool | assumption | exact Ints.one (by assumption) | exact Rows.one (by assumption) | exact Own.one (by assumption) | exact One.lit ⟨rfl, rfl, rfl⟩)) | (apply asInts; (repeat first | assumption | exact ints_nil | apply Ints.app); done) | (apply asRows; (repeat first | assumption | exact Rows.nil | apply Rows.app); done) | (apply asScal; (first | apply allS1 | apply allS2 | apply allS3 | apply allS4) <;> (first | exact One.int | exact One.bool | assumption | exact Ints.one (by assumption) | exact Rows.one (by assumption) | exact Own.one (by assumption) | exact One.lit ⟨rfl, rfl, rfl⟩)) | exact litT rfl | exact litF rfl | omega | (simp only [List.length_append, List.length_cons, List.length_nil, List.length_set, List.length_reverse]; first | done | omega) | fail) : p := h
attribute [-go_sem] put_ne put_same
attribute [local go_sem ↓] put_if
def makE (o : List Int) (ms : List (Int × Int)) : List Int × Int := if aloL o = 0 then makF o.length ms o else ([], aloL o)
theorem perm_small' {l m : List Int} (h : l.Perm m) (hs : Small m) : Small l := ⟨by rw [h.length_eq]; exact hs.1, fun x hx => hs.2 x (h.mem_iff.1 hx)⟩
set_option maxHeartbeats 2000000 in
theorem run_Make {base : Nat} {h : Heap} {v mv : AVal} {o : List Int} {ms : List (Int × Int)} (hb : base ≤ h.length) (hI : Ints h v o) (hM : Rows encM h mv ms) (hml : ms.length ≤ 100000) :
    Ret prog raw base (.fn 26 [] []) [v, mv] h (fun w H => Ext h H ∧ ∃ x, w = .tuple [x, .int .i64 (makE o ms).2] ∧ OwnE encI 3 h.length H x (makE o ms).1) := by
  have ha := fun base => run_alone (base := base) hI
  have hv1 := hI.one
  have hm1 := hM.one
  by_cases c : aloL o = 0
  · obtain ⟨c1, c2, c3⟩ := aloL_iff.1 c
    rw [c] at ha
    have hsm := small_ints hI (by omega)
    obtain ⟨n, en⟩ : ∃ n, n = o.length := ⟨_, rfl⟩
    have r : makE o ms = makF n ms o := by unfold makE; rw [if_pos c, en]
    rw [r]
    obtain ⟨v1, H1, e1, x1, o1⟩ := run_cloneE (base := base) hI hsm
    have hl1 := x1.len
    have ov1 := o1.one
    have hlm := (hM.ext x1).len (P := prog) Fc.el33
    refine ret_raw func26 rfl (by kernel_rfl) ?_
    have hsp := @Nat.succ_ne_zero; repeat' (first | simp (disch := first | exact dschL7 | fail) only [go_sem, ↓reduceIte, hsp, ha, eq_self, e1, hlm] | refine WP_drw ?_ | refine cnd_intro (fun hsp => ?_) fun hsp => ?_)
    refine WP_count [(4, 9), (19, 42)] 0 ms.length (Nat.zero_le _) (fun _ i fr K => fr 19 = .int .i64 (i : Int) ∧ Ext h K ∧ ∃ o' w, fr 7 = w ∧ OwnE encI 3 h.length K w o' ∧ o'.Perm o ∧ makF n ms o = makF n (ms.drop i) o') ?_ ?_ ?_
    · exact ⟨by (simp (disch := first | exact dschL7 | fail) only [go_sem, ↓reduceIte, Int.natCast_zero]; first | done | rfl), x1, o, v1, by simp (disch := first | exact dschL7 | fail) only [go_sem, ↓reduceIte], o1, .refl _, rfl⟩
    · rintro i fr K hi0 hi hA ⟨r19, xK, o', w, r7, hO, hp, hF⟩
      have p17 := hA 17 rfl
      have p18 := hA 18 rfl
      try simp (disch := first | exact dschL7 | fail) only [go_sem, ↓reduceIte] at p17 p18
      have hlt : ((i : Int) < (ms.length : Int)) = True := eq_true (by omega)
      obtain ⟨⟨a, b⟩, em⟩ : ∃ m, ms[i] = m := ⟨_, rfl⟩
      have hx : ms[i]? = some (a, b) := by rw [List.getElem?_eq_getElem hi, em]
      have hMK := hM.ext xK
      have ad := hMK.addr (P := prog) (i := (i : Int)) Fc.el33 Fc.ar33 (by omega) (by omega)
      rw [Int.toNat_natCast] at ad
      have ld := hMK.load (P := prog) Fc.ty36 hx
      simp only [encM] at ad ld
      have hw1 := hO.one
      have hKl := xK.len
      have hol : o'.length = n := by rw [hp.length_eq, en]
      obtain ⟨G, eG⟩ : ∃ G, G = K ++ [mvB a b] := ⟨_, rfl⟩
      have xG : Ext K G := by rw [eG]; exact .app .refl
      have gG : G[K.length]? = some (mvB a b) := by rw [eG]; exact get_eq rfl
      have hGl := xG.len
      have iG := (ownE_ints hO (perm_small' hp hsm)).ext xG
      have lG := lenI iG
      have hst : makF n (ms.drop i) o' = if (0 ≤ a ∧ a < (n : Int)) ∧ (0 ≤ b ∧ b < (n : Int)) then makF n (ms.drop (i + 1)) (mvL o' a.toNat b.toNat) else ([], 1) := by
        rw [List.drop_eq_getElem_cons hi, em, makF]
      unfold mvB at eG gG
      by_cases q1 : 0 ≤ a ∧ a < (n : Int)
      · have t1 : decide (0 ≤ a ∧ a ≤ (o'.length : Int) - 1) = true := decide_eq_true (by omega)
        by_cases q2 : 0 ≤ b ∧ b < (n : Int)
        · have t2 : decide (0 ≤ b ∧ b ≤ (o'.length : Int) - 1) = true := decide_eq_true (by omega)
          rw [if_pos ⟨q1, q2⟩] at hst
          obtain ⟨a', rfl⟩ := Int.eq_ofNat_of_zero_le q1.1
          obtain ⟨b', rfl⟩ := Int.eq_ofNat_of_zero_le q2.1
          rw [Int.toNat_natCast, Int.toNat_natCast] at hst
          obtain ⟨w2, H2, e2, x2, o2⟩ := run_made (base := base) (f := a') (t := b') (by omega) iG (by omega) (by omega) (by omega)
          have ow2 := o2.one
          have hsp := @Nat.succ_ne_zero; repeat' (first | simp (disch := first | exact dschL7 | fail) only [go_sem, ↓reduceIte, hsp, r19, r7, p17, p18, hlt, ad, ld, ← eG, gG, lG, t1, t2, e2] | refine WP_drw ?_ | refine cnd_intro (fun hsp => ?_) fun hsp => ?_)
          refine ⟨by (repeat first | exact Agree.refl | assumption | refine Agree.put rfl ?_ | refine Agree.put0 ?_ | refine Agree.sub rfl (by assumption) ?_), by omega, xK.trans (xG.trans x2), _, w2, rfl, OwnE.low (b' := h.length) (.inl o2) (by omega), (mvL_perm (by omega) (by omega)).trans hp, by rw [hF, hst]⟩
        · have t2 : decide (0 ≤ b ∧ b ≤ (o'.length : Int) - 1) = false := decide_eq_false (by omega)
          rw [if_neg (fun q => q2 q.2)] at hst
          have hsp := @Nat.succ_ne_zero; repeat' (first | simp (disch := first | exact dschL7 | fail) only [go_sem, ↓reduceIte, hsp, r19, r7, p17, p18, hlt, ad, ld, ← eG, gG, lG, t1, t2] | refine WP_drw ?_ | refine cnd_intro (fun hsp => ?_) fun hsp => ?_)
          exact ⟨xK.trans xG, _, by rw [hF, hst], by rw [hF, hst]; exact .inl Own.nil⟩
      · have t1 : decide (0 ≤ a ∧ a ≤ (o'.length : Int) - 1) = false := decide_eq_false (by omega)
        rw [if_neg (fun q => q1 q.1)] at hst
        have hsp := @Nat.succ_ne_zero; repeat' (first | simp (disch := first | exact dschL7 | fail) only [go_sem, ↓reduceIte, hsp, r19, r7, p17, p18, hlt, ad, ld, ← eG, gG, lG, t1] | refine WP_drw ?_ | refine cnd_intro (fun hsp => ?_) fun hsp => ?_)
        exact ⟨xK.trans xG, _, by rw [hF, hst], by rw [hF, hst]; exact .inl Own.nil⟩
    · rintro fr K hA ⟨r19, xK, o', w, r7, hO, hp, hF⟩
      have p17 := hA 17 rfl
      have p18 := hA 18 rfl
      try simp (disch := first | exact dschL7 | fail) only [go_sem, ↓reduceIte] at p17 p18
      have hlt : ((ms.length : Int) < (ms.length : Int)) = False := eq_false (by omega)
      have hw1 := hO.one
      rw [List.drop_length, makF] at hF
      have hsp := @Nat.succ_ne_zero; repeat' (first | simp (disch := first | exact dschL7 | fail) only [go_sem, ↓reduceIte, hsp, r19, r7, p17, p18, hlt] | refine WP_drw ?_ | refine cnd_intro (fun hsp => ?_) fun hsp => ?_)
      exact ⟨xK, _, by rw [hF], by rw [hF]; exact hO⟩
  · have t1 : (aloL o = 0) = False := eq_false c
    have r : makE o ms = ([], aloL o) := by unfold makE; rw [if_neg c]
    rw [r]
    refine ret_raw func26 rfl (by kernel_rfl) ?_
    have hsp := @Nat.succ_ne_zero; repeat' (first | simp (disch := first | exact dschL7 | fail) only [go_sem, ↓reduceIte, hsp, ha, t1] | refine WP_drw ?_ | refine cnd_intro (fun hsp => ?_) fun hsp => ?_)
    exact ⟨.refl, _, rfl, .inl Own.nil⟩
end Go.AM
/-
  Contracts: an order whose cards are moved along a ring (turned), the cards that weave the first throws (Weave).
-/
namespace Go.AM
open Go.Proofs.Try
attribute [-go_sem] put_ne put_same
attribute [local go_sem ↓] put_if
end Go.AM
/-
  Plain: an order whose cards are moved along any ring is an order; the least number of some kind.
-/
namespace Go.AM
end Go.AM
/-
  Contracts: the cards that weave the first throws (Weave), an order along a ring (Turned).
-/
namespace Go.AM
open Go.Proofs.Try
attribute [-go_sem] put_ne put_same
attribute [local go_sem ↓] put_if
def wvL (L : Lac) (o : List Int) (n : Nat) : List Int := lst (fun t => L.C.getD (o.getD (t % o.length) 0).toNat 0) n
def wvE (L : Lac) (o : List Int) (n : Int) : List Int × Int := if lcdE L o = 0 then (if 0 ≤ n ∧ n ≤ 999 then (wvL L o n.toNat, 0) else ([], 3)) else ([], lcdE L o)
def trdE (L : Lac) (o ring : List Int) : List Int × Int :=
  if lcdE L o ≠ 0 then ([], lcdE L o) else if ring.length < 2 then ([], 2) else if ¬ (ring.all fun x => decide (0 ≤ x ∧ x ≤ (L.C.length : Int) - 1)) = true then ([], 1) else if twB ring = true then ([], 5) else
  if (xplD L o o.length && xplD L (trnL o ring) o.length) = true then (trnL o ring, 0) else ([], 8)
end Go.AM
/-
  Contracts: a ring of the first order that explains the rows (Ring).
-/
namespace Go.AM
open Go.Proofs.Try
attribute [-go_sem] put_ne put_same
attribute [local go_sem ↓] put_if
/-- A ring along which the second order differs from the first one. -/
def IsRing (L : Lac) (l : List Int) : Prop := ∃ o1 o2 a r, (fnd L)[0]? = some o1 ∧ (fnd L)[1]? = some o2 ∧ a < L.C.length ∧ o1.getD a 0 ≠ o2.getD a 0 ∧ 0 < r ∧ itr o1 o2 a r = a ∧ (∀ i, 0 < i → i < r → itr o1 o2 a i ≠ a) ∧ l = rngL o1 o2 a r
def rngE (L : Lac) : Int := if (fndE L).2 = 0 then (if (fnd L).length = 1 then 6 else 0) else (fndE L).2
end Go.AM
/-
  Copies of slices of structs.
-/
namespace Go.AM
open Go.Proofs.Try
section
variable {α : Type} {E : Enc α} {P : Program} {base : Nat} {h : Heap} {v : AVal} {l : List α} {t e : TypeId} {zs : List AVal}
theorem app_empE (hR : Rows E h v l) (hl : l ≠ []) (hs : ∀ y, (E.cells y).all AVal.scalar = true) (hsz : l.length < 2147483648) (ht : elS P t = some (e, E.z, zs)) :
    appendA P base h t .emp v = some (.slice (some ⟨h.length, 0, 0⟩) l.length l.length, h ++ [rowE E e l 0]) := by
  have hn : l.length ≠ 0 := fun q => hl (List.eq_nil_of_length_eq_zero q)
  simp only [appendA, ht, hR.lenA, hR.firstN, flat_scalar hs, if_true]
  rw [if_neg hn, if_pos (show l.length < 2 ^ 31 by omega)]
  first | done | rfl
end
end Go.AM
/-
  Contracts: copies of rows and chains, comparison of chains, a chain with one row more (See).
-/
namespace Go.AM
open Go.Proofs.Try
attribute [-go_sem] put_ne put_same
attribute [local go_sem ↓] put_if
end Go.AM
/-
  Contracts: a chain with one row more (See); whether an order explains the rows, as the statements ask it.
-/
namespace Go.AM
open Go.Proofs.Try
attribute [-go_sem] put_ne put_same
attribute [local go_sem ↓] put_if
def moreR (L : Lac) (r : Rw3) : Lac := ⟨L.T, L.C, L.R ++ [r]⟩
def lac0 : Lac := ⟨0, [], []⟩
def seeE (L : Lac) (r : Rw3) : Lac × Int := if chkL L = 0 then (if L.R.length = 12 then (lac0, 9) else if chkL (moreR L r) = 0 then (moreR L r, 0) else (lac0, chkL (moreR L r))) else (lac0, chkL L)
/-- A chain of one's own. -/
def OwnC (b : Nat) (H : Heap) (v : AVal) (L : Lac) : Prop := ∃ cv rv, v = .agg [.int .i64 L.T, cv, rv] ∧ OwnE encI 3 b H cv L.C ∧ OwnE encR 70 b H rv L.R
theorem OwnC.at {b : Nat} {H : Heap} {v : AVal} {L : Lac} (x : OwnC b H v L) (hs : Small L.C) (hl : L.R.length ≤ 1000000) : LacAt H v L := by
  obtain ⟨cv, rv, h1, h2, h3⟩ := x
  exact ⟨cv, rv, h1, ownE_ints h2 hs, h3.rows (by omega)⟩
theorem lac_small {L : Lac} (h : chkL L = 0) : Small L.C := by
  obtain ⟨kT, kn, km, kc, kr, kd⟩ := chkL_iff.1 h
  refine ⟨by omega, fun x hx => ?_⟩
  have h1 := kc x hx
  have h2 : (2 : Int) ^ L.T.toNat ≤ 2 ^ 8 := by exact_mod_cast Nat.pow_le_pow_right (by decide) (show L.T.toNat ≤ 8 by omega)
  omega
end Go.AM
/-
  Contracts: where the first list lies of which something holds; the pile that a card goes on.
-/
namespace Go.AM
open Go.Proofs.Try
attribute [-go_sem] put_ne put_same
attribute [local go_sem ↓] put_if
end Go.AM
/-
  Contracts: as few moves as can be (Mend).
-/
namespace Go.AM
open Go.Proofs.Try
attribute [-go_sem] put_ne put_same
attribute [local go_sem ↓] put_if
def mndE (o : List Int) : List (Int × Int) × Int := if aloL o = 0 then (mndL o, 0) else ([], aloL o)
theorem mndN_succ {s : MndS} {k : Nat} : mndN s (k + 1) = mndS (mndN s k) (k : Int) := rfl
end Go.AM
/-
  Contracts: as few piles as can be (Piles).
-/
namespace Go.AM
open Go.Proofs.Try
attribute [-go_sem] put_ne put_same
attribute [local go_sem ↓] put_if
/-- Piles in memory, each in a block of its own. -/
structure PilAt (b : Nat) (H : Heap) (u : AVal) (vs : List AVal) (ps : List (List Int)) : Prop where
  own : Own encZ 25 b H u vs
  len : vs.length = ps.length
  el : ∀ (i : Nat) x t, vs[i]? = some x → ps[i]? = some t → Own encI 3 b H x t
  apart : ∀ (i j : Nat) x y, i ≠ j → vs[i]? = some x → vs[j]? = some y → Asun x y
end Go.AM
/-
  Contracts: Piles.
-/
namespace Go.AM
open Go.Proofs.Try
attribute [-go_sem] put_ne put_same
attribute [local go_sem ↓] put_if
def pilE (o : List Int) : List (List Int) × Int := if aloL o = 0 then (pilN o o.length, 0) else ([], aloL o)
end Go.AM
/-
  Contracts: Piles, walked.
-/
namespace Go.AM
open Go.Proofs.Try
attribute [-go_sem] put_ne put_same
attribute [local go_sem ↓] put_if
end Go.AM
/-
  Contracts: the number of piles, or the errors (Shows).
-/
namespace Go.AM
open Go.Proofs.Try
attribute [-go_sem] put_ne put_same
attribute [local go_sem ↓] put_if
def badAt (o pile : List Int) (i : Nat) : Bool :=
  !decide (0 ≤ pile.getD i 0 ∧ pile.getD i 0 ≤ (o.length : Int) - 1) || (decide (0 < i) && (decide (pile.getD i 0 ≤ pile.getD (i - 1) 0) || decide (o.getD (pile.getD i 0).toNat 0 ≥ o.getD (pile.getD (i - 1) 0).toNat 0)))
def pilB (o pile : List Int) : Bool := decide (pile ≠ []) && (List.range pile.length).all fun i => !badAt o pile i
def shwE (o : List Int) (ps : List (List Int)) : Int × Int :=
  if aloL o ≠ 0 then (0, aloL o) else if ps.all (pilB o) = false then (0, 8) else if ps.flatten.length ≠ o.length ∨ twB ps.flatten = true then (0, 8) else ((ps.length : Int), 0)
end Go.AM
/-
  Plain: piles that are made are right; moves that are made.
-/
namespace Go.AM
theorem upto_nd (n : Nat) : (upto n).Nodup := (upto_sorted n).imp fun h => by omega
end Go.AM
/-
  Contracts: whether an order explains the rows, as the statements ask it; a chain in which the cards at some positions were looked at.
-/
namespace Go.AM
open Go.Proofs.Try
attribute [-go_sem] put_ne put_same
attribute [local go_sem ↓] put_if
/-- Rows of what is seen at some positions. -/
def looks (L : Lac) (real ps : List Int) : List Rw3 := ps.map fun p => (p, 2 ^ L.T.toNat - 1, L.C.getD (real.getD p.toNat 0).toNat 0)
def shwL (L : Lac) (real ps : List Int) : Lac := ⟨L.T, L.C, L.R ++ looks L real ps⟩
theorem snocR {b base : Nat} {A : Heap} {w : AVal} {l : List Rw3} {r : Rw3} (hO : OwnE encR 70 b A w l) (hb : base ≤ b) (hbh : b ≤ A.length) (hl : l.length ≤ 1000000) :
    ∃ w' H, appendA prog base (A ++ [rowE encR 70 [r] 0]) 42 w (.slice (some ⟨A.length, 0, 0⟩) 1 1) = some (w', H) ∧ Own encR 70 b H w' (l ++ [r]) ∧ A.length ≤ H.length ∧ (∀ G, G.length ≤ b → Ext G A → Ext G H) ∧ One w' ∧ KeepO encR 70 A H := by
  obtain ⟨B, eB⟩ : ∃ B, B = A ++ [rowE encR 70 [r] 0] := ⟨_, rfl⟩
  have xB : Ext A B := by rw [eB]; exact .app .refl
  have lB' : B.length = A.length + 1 := by rw [eB]; simp
  have hx : Rows encR B (.slice (some ⟨A.length, 0, 0⟩) 1 1) [r] := Rows.own (by rw [eB]; exact get_eq rfl) rfl (by simp)
  rw [← eB]
  rcases hO with hO | ⟨rfl, rfl⟩
  · obtain ⟨w', H, a1, a2, a3, a4, a5, a6⟩ := (hO.ext xB).appendRX (P := prog) (base := base) (t := 42) hx Fc.el42 encR_sc hb (by omega) (by simp) (by simp; omega)
    have a6 : KeepO encR 70 B H := a6
    exact ⟨w', H, a1, a2, by omega, fun G h1 h2 => a4 G h1 (h2.trans xB), a5, fun i y hi hy => a6 i y (xB.get hi) hy⟩
  · have := app_empE (base := base) hx (by simp) encR_sc (by simp) Fc.el42
    exact ⟨_, _, this, .inr ⟨B.length, 0, rfl, get_eq rfl, by omega, by simp⟩, by simp; omega, fun G _ q => (q.trans xB).trans (.app .refl), ⟨rfl, rfl, rfl⟩, fun i y hi _ => get_app (xB.get hi)⟩
end Go.AM
/-
  Or of numbers.
-/
namespace Go.AM
open Go.Proofs.Try
theorem orN {t : TypeId} {a b : Nat} (ha : a < 2 ^ 62) (hb : b < 2 ^ 62) : binA prog .or t (.int .i64 (a : Int)) (.int .i64 (b : Int)) = some (.int .i64 ((a ||| b : Nat) : Int)) := by
  have hx : a ||| b < 2 ^ 62 := Nat.or_lt_two_pow ha hb
  have e : BitVec.ofInt 64 (a : Int) ||| BitVec.ofInt 64 (b : Int) = BitVec.ofNat 64 (a ||| b) := by
    apply BitVec.eq_of_toNat_eq
    simp only [BitVec.toNat_or, BitVec.toNat_ofInt, BitVec.toNat_ofNat]
    have h3 : (a : Int) % ((2 ^ 64 : Nat) : Int) = a := Int.emod_eq_of_lt (by omega) (by omega)
    have h4 : (b : Int) % ((2 ^ 64 : Nat) : Int) = b := Int.emod_eq_of_lt (by omega) (by omega)
    rw [h3, h4, Nat.mod_eq_of_lt (by omega)]
    rfl
  show some (AVal.int .i64 (IntKind.i64.wrap ((BitVec.ofInt 64 (a : Int) ||| BitVec.ofInt 64 (b : Int)).toNat : Int))) = _
  rw [e, BitVec.toNat_ofNat, Nat.mod_eq_of_lt (by omega), wrap64 (by omega) (by omega)]
end Go.AM
/-
  Contracts: a row of what is really seen (Seen).
-/
namespace Go.AM
open Go.Proofs.Try
theorem dschL47 {p : Prop} (h : p := by first | exact Nat.ne_of_beq_eq_false rfl | assumption | (apply asOne; (first | exact One.int | exact One.bool | assumption | exact Ints.one (by assumption) | exact Rows.one (by assumption) | exact Own.one (by assumption) | exact One.lit ⟨rfl, rfl, rfl⟩)) | (apply asSp; (repeat first | assumption | apply SpAt.set | (refine SpAt.new ?_ (by (first | rfl | (simp only [List.length_append, List.length_cons, List.length_nil, List.length_set]; done) | (simp only [List.length_append, List.length_cons, List.length_nil, List.length_set]; omega)))) | apply SpAt.app | apply Bytes.app); done) | (apply asBytes; (repeat first | assumption | apply Bytes.app); done) | (apply asInts; (repeat first | assumption | exact ints_nil | apply Ints.app); done) | (apply asRows; (repeat first | assumption | exact Rows.nil | apply Rows.app); done) | (apply asScal; (first | apply allS1 | apply allS2 | apply allS3 | apply allS4) <;> (first | exact One.int | exact One.bool | assumption | exact Ints.one (by assumption) | exact Rows.one (by assumption) | exact Own.one (by assumption) | exact One.lit ⟨rfl, rfl, rfl⟩)) | exact litT rfl | exact litF rfl | omega | (simp only [List.length_append, List.length_cons, List.length_nil, List.length_set, List.length_reverse]; first | done | omega) | fail) : p := h
attribute [-go_sem] put_ne put_same
attribute [local go_sem ↓] put_if
/-- What is really seen. -/
structure SeenOk (T : Int) (C o : List Int) (r : Rw3) : Prop where
  t : 0 ≤ r.1 ∧ r.1 ≤ 60
  m : 0 ≤ r.2.1 ∧ r.2.1 ≤ 2 ^ T.toNat - 1
  s : 0 ≤ r.2.2
  is : (C.getD (o.getD (r.1.toNat % C.length) 0).toNat 0).toNat &&& r.2.1.toNat = r.2.2.toNat
theorem OwnE.spE {α : Type} {E : Enc α} {e : TypeId} {b id k0 k : Nat} {h H : Heap} {v w : AVal} {silk : List Int} {l : List α} (x : OwnE E e b h w l) (hS : SpAt h id v silk k0) (q : SpE h id v silk k H) : OwnE E e b H w l := (x.setBox hS.1).ext q
theorem pow_le8 {T : Int} (h : 1 ≤ T ∧ T ≤ 8) : (1 : Int) ≤ 2 ^ T.toNat ∧ (2 : Int) ^ T.toNat ≤ 256 := by
  refine ⟨by exact_mod_cast Nat.one_le_two_pow, ?_⟩
  have h2 : (2 : Int) ^ T.toNat ≤ 2 ^ 8 := by exact_mod_cast Nat.pow_le_pow_right (by decide) (show T.toNat ≤ 8 by omega)
  simpa using h2
theorem stL47a {base : Nat} {l : List Oper} {s : St} {Q : AExit → St → Prop} : WP prog raw base (.region 1 l.toArray true) s Q = WPS prog raw base (.region 1 l.toArray true) s Q := WP_stop
attribute [local go_sem ↓ 3000] stL47a
theorem stL47b {base : Nat} {l : List Oper} {s : St} {Q : AExit → St → Prop} : WP prog raw base (.region 2 l.toArray true) s Q = WPS prog raw base (.region 2 l.toArray true) s Q := WP_stop
attribute [local go_sem ↓ 3000] stL47b
set_option maxRecDepth 100000 in
set_option maxHeartbeats 4000000 in
theorem run_Seen {id k : Nat} {h : Heap} {v cv rv ov : AVal} {silk C o : List Int} {T : Int} (hS : SpAt h id v silk k) (hk : k ≤ 900000) (hC : OwnE encI 3 0 h cv C) (o2 : One rv) (hO : OwnE encI 3 0 h ov o) (hcl : C.length ≤ 1000) (hT : 1 ≤ T ∧ T ≤ 8) (hc : ∀ x ∈ C, 0 ≤ x ∧ x ≤ 2 ^ T.toNat - 1) (ho : Ord C.length o) (hn : 0 < C.length) :
    ∃ r : Rw3, (∀ base, callL prog raw base (.fn 47 [] []) [.ptr (some ⟨id, 0, 0⟩), .agg [.int .i64 T, cv, rv], ov] h = some (.agg [.int .i64 r.1, .int .i64 r.2.1, .int .i64 r.2.2], h.set id (spB v silk (k + 4)))) ∧ SeenOk T C o r := by
  have hid := lt_of_get hS.1
  have o1 := hC.one
  have o3 := hO.one
  have hol := ho.1
  obtain ⟨hw1, hw2⟩ := pow_le8 hT
  have sh := shl_one (w := T) (by omega) (by omega)
  obtain ⟨W, eW⟩ : ∃ W : Int, W = 2 ^ T.toNat := ⟨_, rfl⟩
  have hcW : ∀ x ∈ C, 0 ≤ x ∧ x ≤ W - 1 := fun x hx => by rw [eW]; exact hc x hx
  rw [← eW] at sh hw1 hw2
  have b1 := up_bd (silk := silk) (k := k) (n := 60) (by omega)
  have b2 := up_bd (silk := silk) (k := k + 1) (n := W - 1) (by omega)
  have b3 := up_bd (silk := silk) (k := k + 1 + 1) (n := W - 1) (by omega)
  have b4 := up_bd (silk := silk) (k := k + 1 + 1 + 1) (n := W - 1) (by omega)
  have u1 := fun base (G : Heap) (y : SpAt G id v silk k) => run_upto (base := base) (n := 60) y (by omega) (by omega)
  have u2 := fun base (G : Heap) (y : SpAt G id v silk (k + 1)) => run_upto (base := base) (n := W - 1) y (by omega) (by omega)
  have u3 := fun base (G : Heap) (y : SpAt G id v silk (k + 1 + 1)) => run_upto (base := base) (n := W - 1) y (by omega) (by omega)
  have u4 := fun base (G : Heap) (y : SpAt G id v silk (k + 1 + 1 + 1)) => run_upto (base := base) (n := W - 1) y (by omega) (by omega)
  obtain ⟨a, ea⟩ := Int.eq_ofNat_of_zero_le b1.1
  obtain ⟨m1, em1⟩ := Int.eq_ofNat_of_zero_le b2.1
  obtain ⟨m2, em2⟩ := Int.eq_ofNat_of_zero_le b3.1
  obtain ⟨m3, em3⟩ := Int.eq_ofNat_of_zero_le b4.1
  simp only [ea] at u1 b1
  simp only [em1] at u2 b2
  simp only [em2] at u3 b3
  simp only [em3] at u4 b4
  clear ea em1 em2 em3
  obtain ⟨m, em⟩ : ∃ m, m = m1 &&& (m2 ||| m3) := ⟨_, rfl⟩
  have hor : m2 ||| m3 < 256 := Nat.or_lt_two_pow (n := 8) (by omega) (by omega)
  have hm : m ≤ m1 := by rw [em]; exact Nat.and_le_left
  have aor := orN (t := 3) (a := m2) (b := m3) (by omega) (by omega)
  have aan := andN (t := 3) (a := m1) (b := m2 ||| m3) (by omega) (by omega)
  rw [← em] at aan
  obtain ⟨j, ej⟩ : ∃ j, j = a % C.length := ⟨_, rfl⟩
  have hj : j < C.length := by rw [ej]; exact Nat.mod_lt _ hn
  have hrem := remN (x := (a : Int)) (n := C.length) (by omega) hn
  rw [Int.toNat_natCast, ← ej] at hrem
  have hkk := ho.2.1 _ (getD_mem (l := o) (i := j) (by omega))
  obtain ⟨p, ep⟩ := Int.eq_ofNat_of_zero_le hkk.1
  have hcp := hcW _ (getD_mem (l := C) (i := p) (by omega))
  obtain ⟨c, ec⟩ := Int.eq_ofNat_of_zero_le hcp.1
  have ash := andN (t := 3) (a := c) (b := m) (by omega) (by omega)
  obtain ⟨s, es⟩ : ∃ s, s = c &&& m := ⟨_, rfl⟩
  rw [← es] at ash
  -- the heaps
  obtain ⟨G, eG⟩ : ∃ G, G = h ++ [lacB T cv rv] ++ [rwB (0, 0, 0)] := ⟨_, rfl⟩
  have xG : Ext h G := by rw [eG]; exact .app (.app .refl)
  have lG : G.length = h.length + 2 := by rw [eG]; simp
  have gc : G[h.length]? = some (lacB T cv rv) := by rw [eG]; exact get_app (get_eq rfl)
  have gr : G[h.length + 1]? = some (rwB (0, 0, 0)) := by rw [eG]; exact get_eq (by simp)
  have hS0 := hS.ext xG
  obtain ⟨G1, eG1⟩ : ∃ G1, G1 = G.set id (spB v silk (k + 1)) := ⟨_, rfl⟩
  have q0 : SpE h id v silk (k + 1) G1 := by rw [eG1]; exact ((SpE.refl hS).ext xG).step hid
  have l1 : G1.length = h.length + 2 := by rw [eG1, List.length_set, lG]
  have gc1 : G1[h.length]? = some (lacB T cv rv) := by rw [eG1, List.getElem?_set_ne (by omega)]; exact gc
  have gr1 : G1[h.length + 1]? = some (rwB (0, 0, 0)) := by rw [eG1, List.getElem?_set_ne (by omega)]; exact gr
  have f1 := fun base => u1 base G hS0
  rw [← eG1] at f1
  obtain ⟨G2, eG2⟩ : ∃ G2, G2 = G1.set id (spB v silk (k + 1 + 1)) := ⟨_, rfl⟩
  have q2 : SpE h id v silk (k + 1 + 1) G2 := by rw [eG2]; exact q0.step hid
  have l2 : G2.length = h.length + 2 := by rw [eG2, List.length_set, l1]
  have gc2 : G2[h.length]? = some (lacB T cv rv) := by rw [eG2, List.getElem?_set_ne (by omega)]; exact gc1
  have gr2 : G2[h.length + 1]? = some (rwB (0, 0, 0)) := by rw [eG2, List.getElem?_set_ne (by omega)]; exact gr1
  have f2 := fun base => u2 base G1 (q0.at hS)
  rw [← eG2] at f2
  obtain ⟨G3, eG3⟩ : ∃ G3, G3 = G2 ++ [rwB ((a : Int), (m1 : Int), 0)] := ⟨_, rfl⟩
  have q3 : SpE h id v silk (k + 1 + 1) G3 := by rw [eG3]; exact q2.app
  have l3 : G3.length = h.length + 3 := by rw [eG3]; simp [l2]
  have gc3 : G3[h.length]? = some (lacB T cv rv) := by rw [eG3]; exact get_app gc2
  have gr3 : G3[h.length + 1]? = some (rwB (0, 0, 0)) := by rw [eG3]; exact get_app gr2
  have gx3 : G3[h.length + 1 + 1]? = some (rwB ((a : Int), (m1 : Int), 0)) := by rw [eG3]; exact get_eq (by rw [l2])
  obtain ⟨G4, eG4⟩ : ∃ G4, G4 = G3.set id (spB v silk (k + 1 + 1 + 1)) := ⟨_, rfl⟩
  have q4 : SpE h id v silk (k + 1 + 1 + 1) G4 := by rw [eG4]; exact q3.step hid
  have l4 : G4.length = h.length + 3 := by rw [eG4, List.length_set, l3]
  have gc4 : G4[h.length]? = some (lacB T cv rv) := by rw [eG4, List.getElem?_set_ne (by omega)]; exact gc3
  have gr4 : G4[h.length + 1]? = some (rwB (0, 0, 0)) := by rw [eG4, List.getElem?_set_ne (by omega)]; exact gr3
  have gx4 : G4[h.length + 1 + 1]? = some (rwB ((a : Int), (m1 : Int), 0)) := by rw [eG4, List.getElem?_set_ne (by omega)]; exact gx3
  have f3 := fun base => u3 base G3 (q3.at hS)
  rw [← eG4] at f3
  obtain ⟨G5, eG5⟩ : ∃ G5, G5 = G4.set id (spB v silk (k + 1 + 1 + 1 + 1)) := ⟨_, rfl⟩
  have q5 : SpE h id v silk (k + 1 + 1 + 1 + 1) G5 := by rw [eG5]; exact q4.step hid
  have l5 : G5.length = h.length + 3 := by rw [eG5, List.length_set, l4]
  have gc5 : G5[h.length]? = some (lacB T cv rv) := by rw [eG5, List.getElem?_set_ne (by omega)]; exact gc4
  have gr5 : G5[h.length + 1]? = some (rwB (0, 0, 0)) := by rw [eG5, List.getElem?_set_ne (by omega)]; exact gr4
  have gx5 : G5[h.length + 1 + 1]? = some (rwB ((a : Int), (m1 : Int), 0)) := by rw [eG5, List.getElem?_set_ne (by omega)]; exact gx4
  have f4 := fun base => u4 base G4 (q4.at hS)
  rw [← eG5] at f4
  obtain ⟨G6, eG6⟩ : ∃ G6, G6 = G5.set (h.length + 1 + 1) (rwB ((a : Int), (m : Int), 0)) := ⟨_, rfl⟩
  have hset : ∀ {i : Nat} {b : ABlk} {X : Heap}, h.length ≤ i → SpE h id v silk (k + 1 + 1 + 1 + 1) X → SpE h id v silk (k + 1 + 1 + 1 + 1) (X.set i b) := fun hi y => Ext.set y (by rw [List.length_set]; exact hi)
  have q6 : SpE h id v silk (k + 1 + 1 + 1 + 1) G6 := by rw [eG6]; exact hset (by omega) q5
  have l6 : G6.length = h.length + 3 := by rw [eG6, List.length_set, l5]
  have gc6 : G6[h.length]? = some (lacB T cv rv) := by rw [eG6, List.getElem?_set_ne (by omega)]; exact gc5
  have gr6 : G6[h.length + 1]? = some (rwB (0, 0, 0)) := by rw [eG6, List.getElem?_set_ne (by omega)]; exact gr5
  have gx6 : G6[h.length + 1 + 1]? = some (rwB ((a : Int), (m : Int), 0)) := by rw [eG6, List.getElem?_set_self (by omega)]
  obtain ⟨G7, eG7⟩ : ∃ G7, G7 = G6.set (h.length + 1 + 1) (rwB ((a : Int), (m : Int), (s : Int))) := ⟨_, rfl⟩
  have q7 : SpE h id v silk (k + 1 + 1 + 1 + 1) G7 := by rw [eG7]; exact hset (by omega) q6
  have gr7 : G7[h.length + 1]? = some (rwB (0, 0, 0)) := by rw [eG7, List.getElem?_set_ne (by omega)]; exact gr6
  have gx7 : G7[h.length + 1 + 1]? = some (rwB ((a : Int), (m : Int), (s : Int))) := by rw [eG7, List.getElem?_set_self (by omega)]
  have iC : Ints G6 cv C := ownE_ints (hC.spE hS q6) ⟨by omega, fun x hx => by have := hcW x hx; omega⟩
  have iO : Ints G6 ov o := ownE_ints (hO.spE hS q6) (ord_small ho (by omega))
  have hlo := lenI iO
  rw [hol] at hlo
  have aj := adrI (i := (j : Int)) (by omega) iO (by omega)
  rw [Int.toNat_natCast] at aj
  have lj := loadI iO (i := j) (by omega)
  rw [ep] at lj hkk
  have ap := adrI (i := (p : Int)) (by omega) iC (by omega)
  rw [Int.toNat_natCast] at ap
  have lp := loadI iC (i := p) (by omega)
  rw [ec] at lp
  refine ⟨((a : Int), (m : Int), (s : Int)), fun base => ?_, ⟨by simp only; omega, by simp only; rw [← eW]; omega, by simp only; omega, ?_⟩⟩
  · have eG' := eG
    unfold lacB rwB at eG'
    unfold lacB at gc gc1 gc3 gc4 gc6
    unfold rwB at eG3 gx3 gx4 gx5 gx6 gx7 gr7 eG6 eG7
    rw [show h.length + 1 + 1 = G2.length from l2.symm] at gx3 gx4 gx5 gx6 gx7 eG6 eG7
    refine callL_run func47 rfl rfl ?_
    have hsp := @Nat.succ_ne_zero; repeat' (first | simp (disch := first | exact dschL47 | fail) only [go_sem, ↓reduceIte, hsp, ← eG'] | refine WP_drw ?_ | refine cnd_intro (fun hsp => ?_) fun hsp => ?_)
    refine WPS_go ?_
    refine WP_wild [⟨4, 3, 11, ⟨h.length, 0, 0⟩, .int .i64 T, 7⟩] (by kernel_rfl) (by kernel_rfl) (by kernel_rfl) ⟨refsLow_int, trivial⟩ fun K hK => ?_
    iterate 11
      rw [TRS_cons]
      refine ⟨by first | (simp (disch := first | exact dschL47 | fail) only [go_sem, ↓reduceIte, f1, gc, gc1, sh, f2, ← eG3, ldsQ_cons, ldsQ_nil, grdQ_cons, grdQ_nil, if_true, Nat.reduceLeDiff]; done) | exact trivial, ?_⟩
      simp (disch := first | exact dschL47 | fail) only [go_sem, ↓reduceIte, f1, gc, gc1, sh, f2, ← eG3]
    rw [TRS_nil]
    refine ⟨by first | (simp (disch := first | exact dschL47 | fail) only [go_sem, ↓reduceIte, f1, gc, gc1, sh, f2, ← eG3, ldsQ_cons, ldsQ_nil, grdQ_cons, grdQ_nil, if_true, Nat.reduceLeDiff]; done) | exact trivial, ?_⟩
    subst hK
    have hsp := @Nat.succ_ne_zero; repeat' (first | simp (disch := first | exact dschL47 | fail) only [go_sem, ↓reduceIte, hsp, ← eG3] | refine WP_drw ?_ | refine cnd_intro (fun hsp => ?_) fun hsp => ?_)
    refine WPS_go ?_
    refine WP_wild [⟨1, 3, 17, ⟨G2.length, 0, 1⟩, .int .i64 (m1 : Int), 17⟩, ⟨10, 3, 26, ⟨h.length, 0, 0⟩, .int .i64 T, 13⟩] (by kernel_rfl) (by kernel_rfl) (by kernel_rfl) ⟨refsLow_int, refsLow_int, trivial⟩ fun K hK => ?_
    iterate 18
      rw [TRS_cons]
      refine ⟨by first | (simp (disch := first | exact dschL47 | fail) only [go_sem, ↓reduceIte, gx3, gc3, sh, f3, gc4, gx4, f4, aor, aan, gx5, ← eG6, ldsQ_cons, ldsQ_nil, grdQ_cons, grdQ_nil, if_true, Nat.reduceLeDiff]; done) | exact trivial, ?_⟩
      simp (disch := first | exact dschL47 | fail) only [go_sem, ↓reduceIte, gx3, gc3, sh, f3, gc4, gx4, f4, aor, aan, gx5, ← eG6]
    rw [TRS_nil]
    refine ⟨by first | (simp (disch := first | exact dschL47 | fail) only [go_sem, ↓reduceIte, gx3, gc3, sh, f3, gc4, gx4, f4, aor, aan, gx5, ← eG6, ldsQ_cons, ldsQ_nil, grdQ_cons, grdQ_nil, if_true, Nat.reduceLeDiff]; done) | exact trivial, ?_⟩
    subst hK
    have hsp := @Nat.succ_ne_zero; repeat' (first | simp (disch := first | exact dschL47 | fail) only [go_sem, ↓reduceIte, hsp, ← eG6, gc6, gx6, hlo, hrem, aj, lj, ap, lp, ash, ← eG7, gx7, gr7] | refine WP_drw ?_ | refine cnd_intro (fun hsp => ?_) fun hsp => ?_)
    obtain ⟨G8, eG8⟩ : ∃ G8, G8 = G7.set (h.length + 1) (rwB ((a : Int), (m : Int), (s : Int))) := ⟨_, rfl⟩
    have q8 : SpE h id v silk (k + 1 + 1 + 1 + 1) G8 := by rw [eG8]; exact hset (by omega) q7
    have g8 : G8[h.length + 1]? = some (rwB ((a : Int), (m : Int), (s : Int))) := by rw [eG8, List.getElem?_set_self (lt_of_get gr7)]
    unfold rwB at eG8 g8
    have hsp := @Nat.succ_ne_zero; repeat' (first | simp (disch := first | exact dschL47 | fail) only [go_sem, ↓reduceIte, hsp, ← eG8, g8] | refine WP_drw ?_ | refine cnd_intro (fun hsp => ?_) fun hsp => ?_)
    exact set_fin rfl q8
  · rw [Int.toNat_natCast, ← ej, ep, Int.toNat_natCast, ec, Int.toNat_natCast, Int.toNat_natCast, Int.toNat_natCast, es]
end Go.AM
/-
  Plain: fewer moves do not make an order right.
-/
namespace Go.AM
end Go.AM
/-
  Contracts: the position at which one look leaves the fewest orders (Ask).
-/
namespace Go.AM
open Go.Proofs.Try
theorem dschL20 {p : Prop} (h : p := by first | exact Nat.ne_of_beq_eq_false rfl | assumption | (apply asOne; (first | exact One.int | exact One.bool | assumption | exact Ints.one (by assumption) | exact Rows.one (by assumption) | exact Own.one (by assumption) | exact One.lit ⟨rfl, rfl, rfl⟩)) | (apply asInts; (repeat first | assumption | exact ints_nil | apply Ints.app); done) | (apply asRows; (repeat first | assumption | exact Rows.nil | apply Rows.app); done) | (apply asScal; (first | apply allS1 | apply allS2 | apply allS3 | apply allS4) <;> (first | exact One.int | exact One.bool | assumption | exact Ints.one (by assumption) | exact Rows.one (by assumption) | exact Own.one (by assumption) | exact One.lit ⟨rfl, rfl, rfl⟩)) | exact litT rfl | exact litF rfl | omega | (simp only [List.length_append, List.length_cons, List.length_nil, List.length_set, List.length_reverse]; first | done | omega) | fail) : p := h
attribute [-go_sem] put_ne put_same
attribute [local go_sem ↓] put_if
def cntK (os : List (List Int)) (p n i : Nat) : List Int := lst (fun k => (((os.take i).countP fun o => decide (o.getD p 0 = (k : Int)) : Nat) : Int)) n
theorem cntK_len {os : List (List Int)} {p n i : Nat} : (cntK os p n i).length = n := lst_len
theorem cntK_step {os : List (List Int)} {p n i c : Nat} {o : List Int} (ho : os[i]? = some o) (hc : o.getD p 0 = (c : Int)) (hn : c < n) : (cntK os p n i).set c ((cntK os p n i).getD c 0 + 1) = cntK os p n (i + 1) := by
  unfold cntK
  rw [lst_get hn, lst_set hn]
  refine lst_congr fun k hk => ?_
  rw [List.take_add_one, ho, List.countP_append]
  by_cases e : k = c
  · subst e
    rw [if_pos rfl, show List.countP (fun o => decide (o.getD p 0 = (k : Int))) (some o).toList = 1 from List.countP_cons_of_pos (decide_eq_true hc)]
    omega
  · rw [if_neg e, show List.countP (fun o => decide (o.getD p 0 = (k : Int))) (some o).toList = 0 from List.countP_cons_of_neg (by rw [decide_eq_true_eq, hc]; omega)]
    omega
theorem cntK_bd {os : List (List Int)} {p n i k : Nat} (hk : k < n) : 0 ≤ (cntK os p n i).getD k 0 ∧ (cntK os p n i).getD k 0 ≤ (os.length : Int) := by
  unfold cntK
  rw [lst_get hk]
  have h1 : (os.take i).countP (fun o => decide (o.getD p 0 = (k : Int))) ≤ (os.take i).length := List.countP_le_length
  have h2 : (os.take i).length ≤ os.length := List.length_take_le' ..
  omega
theorem cntK_zero {os : List (List Int)} {p n : Nat} : cntK os p n 0 = List.replicate n 0 := by
  refine lst_ext (by rw [cntK_len, List.length_replicate]) fun i hi => ?_
  rw [cntK_len] at hi
  unfold cntK
  rw [lst_get hi, List.take_zero, List.getD_eq_getElem?_getD, List.getElem?_replicate, if_pos hi]
  rfl
theorem cntK_all {os : List (List Int)} {p n : Nat} : grt (cntK os p n os.length) = lvsN n os p := by
  unfold cntK lvsN
  rw [List.take_length]
set_option maxHeartbeats 1000000 in
theorem run_lvs {base a b id p bb : Nat} {h : Heap} {x : AVal} {L : Lac} {os : List (List Int)} (ga : h[a]? = some (pB id)) (gb : h[b]? = some (lsB x)) (hD : DskAt h id L) (hn : 1 ≤ L.C.length ∧ L.C.length ≤ 7) (hA : AllI bb h x os) (hl : os.length ≤ 823543) (ho : ∀ o ∈ os, Ord L.C.length o) (hp : p < L.C.length) :
    callL prog raw base (.fn 129 [] [.ptr (some ⟨a, 0, 0⟩), .ptr (some ⟨b, 0, 0⟩)]) [.int .i64 (p : Int)] h = some (.int .i64 (lvsN L.C.length os p), h) := by
  obtain ⟨cv, rv, hg, hC, -⟩ := hD
  have la := lt_of_get ga
  have lb := lt_of_get gb
  have lid := lt_of_get hg
  have ox := hA.one
  have lc := ld_cards hg
  have hlc := lenI hC
  obtain ⟨G, eG⟩ : ∃ G, G = h ++ [srB (cntK os p L.C.length 0) 3 0] := ⟨_, rfl⟩
  have mk : makeSliceA prog h 25 (.int .i64 (L.C.length : Int)) (.int .i64 (L.C.length : Int)) = some (.slice (some ⟨h.length, 0, 0⟩) L.C.length L.C.length, G) := by
    rw [make_full Fc.el25 (by omega) (by omega), rep_zero, eG, cntK_zero]
  have xG : Ext h G := by rw [eG]; exact .app .refl
  have gbG := xG.get gb
  have hlx := (hA.ext xG).len (by omega)
  unfold pB at ga
  unfold lsB at gb gbG
  refine callL_run func129 rfl rfl ?_
  have hsp := @Nat.succ_ne_zero; repeat' (first | simp (disch := first | exact dschL20 | fail) only [go_sem, ↓reduceIte, hsp, ga, lc, hlc, mk, gbG, hlx] | refine WP_drw ?_ | refine cnd_intro (fun hsp => ?_) fun hsp => ?_)
  refine WP_count [(7, 7), (17, 30)] 0 os.length (Nat.zero_le _) (fun _ i fr H => fr 17 = .int .i64 (i : Int) ∧ H = h ++ [srB (cntK os p L.C.length i) 3 0]) ?_ ?_ ?_
  · exact ⟨by (simp (disch := first | exact dschL20 | fail) only [go_sem, ↓reduceIte, Int.natCast_zero]; first | done | rfl), eG⟩
  · rintro i fr H hi0 hi hA2 ⟨r17, eH⟩
    have q0 := hA2 0 rfl
    have q4 := hA2 4 rfl
    have q5 := hA2 5 rfl
    have q15 := hA2 15 rfl
    have q16 := hA2 16 rfl
    try simp (disch := first | exact dschL20 | fail) only [go_sem, ↓reduceIte] at q0 q4 q5 q15 q16
    have hlt : ((i : Int) < (os.length : Int)) = True := eq_true (by omega)
    obtain ⟨o, eo⟩ : ∃ o, o = os[i] := ⟨_, rfl⟩
    have hoi : os[i]? = some o := by rw [eo]; exact List.getElem?_eq_getElem hi
    have hoo := ho o (List.mem_of_getElem? hoi)
    have xH : Ext h H := by rw [eH]; exact .app .refl
    have gH : H[h.length]? = some (srB (cntK os p L.C.length i) 3 0) := by rw [eH]; exact get_eq rfl
    obtain ⟨ea, w, ad, ld, ow⟩ := hA.at (by omega) hoi
    have ld0 := ld H xH
    have oww := ow.one
    have iw := ownE_ints (ow.ext xH) (ord_small hoo (by omega))
    have hpo : p < o.length := by rw [hoo.1]; exact hp
    have ap := adrI (i := (p : Int)) (by omega) iw (by omega)
    rw [Int.toNat_natCast] at ap
    have lp := loadI iw hpo
    have hr := hoo.2.1 _ (getD_mem hpo)
    obtain ⟨c, ec⟩ := Int.eq_ofNat_of_zero_le hr.1
    rw [ec] at lp
    have hcn : c < L.C.length := by omega
    have hcl := cntK_len (os := os) (p := p) (n := L.C.length) (i := i)
    have hbd := cntK_bd (os := os) (p := p) (i := i) hcn
    have ac : indexAddrA prog 25 (.slice (some ⟨h.length, 0, 0⟩) L.C.length L.C.length) (.int .i64 (c : Int)) = some (.ptr (some ⟨h.length, 0, c⟩)) := by
      rw [adr_sl Fc.el25 Fc.ar25 (by omega) (by omega), Int.toNat_natCast, Nat.mul_one, Nat.zero_add]
    obtain ⟨m, em⟩ : ∃ m, m = (cntK os p L.C.length i).getD c 0 := ⟨_, rfl⟩
    have d1 : loadP prog H 3 (.ptr (some ⟨h.length, 0, c⟩)) = some (.int .i64 m) := by
      rw [load_eq, Fc.ty3, gH, em]; exact ldB_ints (by omega)
    have hst : ∀ {F : ABlk → Heap}, stQ base h.length (some (srB (cntK os p L.C.length i) 3 0)) 0 c [.int .i64 (m + 1)] F = some (F (srB (cntK os p L.C.length (i + 1)) 3 0)) := fun {F} => by
      rw [stQ_ints (by omega), em, cntK_step hoi ec hcn]
    have hst2 : ∀ {F : ABlk → Heap}, stQ h.length h.length (some (srB (cntK os p L.C.length i) 3 0)) 0 c [.int .i64 (m + 1)] F = some (F (srB (cntK os p L.C.length (i + 1)) 3 0)) := fun {F} => by
      rw [stQ_ints (by omega), em, cntK_step hoi ec hcn]
    have hset : H.set h.length (srB (cntK os p L.C.length (i + 1)) 3 0) = h ++ [srB (cntK os p L.C.length (i + 1)) 3 0] := by
      rw [eH, List.set_append_right _ _ (Nat.le_refl _), Nat.sub_self]; rfl
    have hmb : 0 ≤ m ∧ m ≤ 823543 := by omega
    have hsp := @Nat.succ_ne_zero; repeat' (first | simp (disch := first | exact dschL20 | fail) only [go_sem, ↓reduceIte, hsp, r17, q0, q4, q5, q15, q16, hlt, ad, ld0, ap, lp, ac, d1, gH, hst2] | refine WP_drw ?_ | refine cnd_intro (fun hsp => ?_) fun hsp => ?_)
    exact ⟨by (repeat first | exact Agree.refl | assumption | refine Agree.put rfl ?_ | refine Agree.put0 ?_ | refine Agree.sub rfl (by assumption) ?_), by omega, hset⟩
  · rintro fr H hA2 ⟨r17, eH⟩
    have q0 := hA2 0 rfl
    have q4 := hA2 4 rfl
    have q5 := hA2 5 rfl
    have q15 := hA2 15 rfl
    have q16 := hA2 16 rfl
    try simp (disch := first | exact dschL20 | fail) only [go_sem, ↓reduceIte] at q0 q4 q5 q15 q16
    have hlt : ((os.length : Int) < (os.length : Int)) = False := eq_false (by omega)
    have gH : H[h.length]? = some (srB (cntK os p L.C.length os.length) 3 0) := by rw [eH]; exact get_eq rfl
    have hs : Small (cntK os p L.C.length os.length) := ⟨by rw [cntK_len]; omega, fun y hy => by
      obtain ⟨k, hk, e⟩ := List.mem_iff_getElem.1 hy
      rw [cntK_len] at hk
      have := cntK_bd (os := os) (p := p) (i := os.length) hk
      rw [getD_at (by rw [cntK_len]; exact hk), e] at this
      omega⟩
    have hI : Ints H (.slice (some ⟨h.length, 0, 0⟩) L.C.length L.C.length) (cntK os p L.C.length os.length) := by
      rw [eH]; exact slice_row rfl (by rw [cntK_len]) hs
    have hgr := fun base => run_greatest (base := base) hI
    rw [cntK_all] at hgr
    have hsp := @Nat.succ_ne_zero; repeat' (first | simp (disch := first | exact dschL20 | fail) only [go_sem, ↓reduceIte, hsp, r17, q0, q4, q5, q15, q16, hlt, hgr] | refine WP_drw ?_ | refine cnd_intro (fun hsp => ?_) fun hsp => ?_)
    exact fI rfl (by rw [eH]; exact .app .refl)
def askE (L : Lac) : Int × Int × Int := if (fndE L).2 = 0 then ((askN L.C.length (fnd L) L.C.length).1, (askN L.C.length (fnd L) L.C.length).2, 0) else (0, 0, (fndE L).2)
end Go.AM
/-
  Contracts: Ask.
-/
namespace Go.AM
open Go.Proofs.Try
theorem dschL21 {p : Prop} (h : p := by first | exact Nat.ne_of_beq_eq_false rfl | assumption | (apply asOne; (first | exact One.int | exact One.bool | assumption | exact Ints.one (by assumption) | exact Rows.one (by assumption) | exact Own.one (by assumption) | exact One.lit ⟨rfl, rfl, rfl⟩)) | (apply asInts; (repeat first | assumption | exact ints_nil | apply Ints.app); done) | (apply asRows; (repeat first | assumption | exact Rows.nil | apply Rows.app); done) | (apply asScal; (first | apply allS1 | apply allS2 | apply allS3 | apply allS4) <;> (first | exact One.int | exact One.bool | assumption | exact Ints.one (by assumption) | exact Rows.one (by assumption) | exact Own.one (by assumption) | exact One.lit ⟨rfl, rfl, rfl⟩)) | exact litT rfl | exact litF rfl | omega | (simp only [List.length_append, List.length_cons, List.length_nil, List.length_set, List.length_reverse]; first | done | omega) | fail) : p := h
attribute [-go_sem] put_ne put_same
attribute [local go_sem ↓] put_if
theorem grt_le {l : List Int} {B : Int} (hB : 0 ≤ B) (h : ∀ x ∈ l, x ≤ B) : 0 ≤ grt l ∧ grt l ≤ B := by
  refine ⟨grt_ge.1, ?_⟩
  unfold grt
  rcases grt_is (l := l) (a := 0) with q | q
  · omega
  · exact h _ q
theorem lvsN_bd {n : Nat} {os : List (List Int)} {p : Nat} (hl : os.length ≤ 823543) : 0 ≤ lvsN n os p ∧ lvsN n os p ≤ 1000000 := by
  unfold lvsN
  refine grt_le (by omega) fun x hx => ?_
  obtain ⟨k, hk, e⟩ := List.mem_iff_getElem.1 hx
  rw [lst_len] at hk
  have : (lst (fun k => ((os.countP fun o => decide (o.getD p 0 = (k : Int)) : Nat) : Int)) n).getD k 0 = x := by rw [getD_at (by rw [lst_len]; exact hk), e]
  rw [lst_get hk] at this
  have h2 : os.countP (fun o => decide (o.getD p 0 = (k : Int))) ≤ os.length := List.countP_le_length
  omega
abbrev lkB (g : AVal) : ABlk := ⟨.cells [g] 155 false false, 0⟩
set_option maxRecDepth 100000 in
set_option maxHeartbeats 2000000 in
theorem run_Ask {base : Nat} {h : Heap} {v : AVal} {L : Lac} (hL : LacAt h v L) :
    callL prog raw base (.fn 61 [] []) [v] h = some (.tuple [.int .i64 (askE L).1, .int .i64 (askE L).2.1, .int .i64 (askE L).2.2], h) := by
  have hL0 := hL
  obtain ⟨cv, rv, rfl, hC, hR⟩ := hL
  have o1 := hC.one
  have o2 := hR.one
  obtain ⟨G0, eG0⟩ : ∃ G0, G0 = h ++ [lacB L.T cv rv] := ⟨_, rfl⟩
  have x0 : Ext h G0 := by rw [eG0]; exact .app .refl
  have g0 : G0[h.length]? = some (lacB L.T cv rv) := by rw [eG0]; exact get_eq rfl
  have l0 : G0.length = h.length + 1 := by rw [eG0]; simp
  obtain ⟨w1, H1, e1, x1, a, x, rfl, oa, hA, hD⟩ := run_found (base := h.length) (h := G0) (by omega) (hL0.ext x0)
  have ox := hA.one
  have l1 := x1.len
  obtain ⟨H2, eH2⟩ : ∃ H2, H2 = H1 ++ [(⟨.cells [a] 132 false false, 0⟩ : ABlk)] := ⟨_, rfl⟩
  obtain ⟨H3, eH3⟩ : ∃ H3, H3 = H2 ++ [lsB x] := ⟨_, rfl⟩
  have x2 : Ext H1 H2 := by rw [eH2]; exact .app .refl
  have x3 : Ext H2 H3 := by rw [eH3]; exact .app .refl
  have l2 : H2.length = H1.length + 1 := by rw [eH2]; simp
  have l3 : H3.length = H1.length + 2 := by rw [eH3]; simp [l2]
  have ga : H3[H1.length]? = some ⟨.cells [a] 132 false false, 0⟩ := x3.get (by rw [eH2]; exact get_eq rfl)
  have gb : H3[H1.length + 1]? = some (lsB x) := by rw [eH3]; exact get_eq l2.symm
  have xh3 := ((x0.trans x1).trans x2).trans x3
  unfold lacB at eG0 g0
  have eH3' := eH3
  unfold lsB at eH3'
  refine callL_run func61 rfl rfl ?_
  by_cases c : (fndE L).2 = 0
  · obtain ⟨c1, c2, c3⟩ := fndE_ok c
    have kn := (chkL_iff.1 c1).n
    have r : askE L = ((askN L.C.length (fnd L) L.C.length).1, (askN L.C.length (fnd L) L.C.length).2, 0) := by unfold askE; rw [if_pos c]
    obtain ⟨id, rfl, hDk⟩ := hD c
    rw [r]
    rw [c3] at hA e1
    have hAI : AllI G0.length H1 x (fnd L) := hA.all
    have hfew := fnd_few (L := L) kn.2
    obtain ⟨H4, eH4⟩ : ∃ H4, H4 = H3 ++ [lkB (.fn 129 [] [.ptr (some ⟨H1.length, 0, 0⟩), .ptr (some ⟨H1.length + 1, 0, 0⟩)])] := ⟨_, rfl⟩
    have x4 : Ext H3 H4 := by rw [eH4]; exact .app .refl
    have l4 : H4.length = H1.length + 3 := by rw [eH4]; simp [l3]
    have g4 : H4[H3.length]? = some (lkB (.fn 129 [] [.ptr (some ⟨H1.length, 0, 0⟩), .ptr (some ⟨H1.length + 1, 0, 0⟩)])) := by rw [eH4]; exact get_eq rfl
    have ga4 := x4.get ga
    have gb4 := x4.get gb
    have x14 := (x2.trans x3).trans x4
    have hD4 := hDk.ext x14
    have hlv := fun base p (hp : p < L.C.length) => run_lvs (base := base) (p := p) ga4 gb4 hD4 kn (hAI.ext x14) hfew (fun o ho => fnd_ord ho) hp
    obtain ⟨cv', rv', hg, hC', -⟩ := hD4
    have lc := ld_cards hg
    have hlc := lenI hC'
    have hlb := fun p => lvsN_bd (n := L.C.length) (p := p) hfew
    unfold lkB at eH4 g4
    have hsp := @Nat.succ_ne_zero; repeat' (first | simp (disch := first | exact dschL21 | fail) only [go_sem, ↓reduceIte, hsp, ← eG0, g0, e1, eq_self, ← eH2, ← eH3', ga, gb, ← eH4, ga4, lc, hlc] | refine WP_drw ?_ | refine cnd_intro (fun hsp => ?_) fun hsp => ?_)
    obtain ⟨A, eA⟩ : ∃ A, A = askN L.C.length (fnd L) := ⟨_, rfl⟩
    rw [← eA]
    refine WP_count [(2, 3), (8, 9), (27, 43)] 0 L.C.length (Nat.zero_le _) (fun _ i fr H => fr 27 = .int .i64 (i : Int) ∧ H = H4 ∧ fr 2 = .int .i64 (A i).1 ∧ fr 3 = .int .i64 (A i).2) ?_ ?_ ?_
    · exact ⟨by (simp (disch := first | exact dschL21 | fail) only [go_sem, ↓reduceIte, Int.natCast_zero]; first | done | rfl), rfl, by rw [eA]; simp (disch := first | exact dschL21 | fail) only [go_sem, ↓reduceIte]; rfl, by rw [eA]; simp (disch := first | exact dschL21 | fail) only [go_sem, ↓reduceIte]; rfl⟩
    · rintro i fr H hi0 hi hA2 ⟨r27, rfl, r2, r3⟩
      have q4 := hA2 4 rfl
      have q7 := hA2 7 rfl
      have q26 := hA2 26 rfl
      try simp (disch := first | exact dschL21 | fail) only [go_sem, ↓reduceIte] at q4 q7 q26
      have hlt : ((i : Int) < (L.C.length : Int)) = True := eq_true (by omega)
      have hlv0 := fun base => hlv base i hi
      obtain ⟨m, em⟩ : ∃ m, m = lvsN L.C.length (fnd L) i := ⟨_, rfl⟩
      rw [← em] at hlv0
      have hs : A (i + 1) = if i = 0 ∨ m < (A i).2 then ((i : Int), m) else A i := by rw [eA, askN, em]
      by_cases q1 : i = 0
      · have t1 : ((i : Int) = 0) = True := eq_true (by omega)
        rw [if_pos (.inl q1)] at hs
        have hsp := @Nat.succ_ne_zero; repeat' (first | simp (disch := first | exact dschL21 | fail) only [go_sem, ↓reduceIte, hsp, r27, r2, r3, q4, q7, q26, hlt, g4, hlv0, t1] | refine WP_drw ?_ | refine cnd_intro (fun hsp => ?_) fun hsp => ?_)
        exact ⟨by (repeat first | exact Agree.refl | assumption | refine Agree.put rfl ?_ | refine Agree.put0 ?_ | refine Agree.sub rfl (by assumption) ?_), by omega, by rw [hs], by rw [hs]⟩
      · have t1 : ((i : Int) = 0) = False := eq_false (by omega)
        by_cases q2 : m < (A i).2
        · have t2 : (m < (A i).2) = True := eq_true q2
          rw [if_pos (.inr q2)] at hs
          have hsp := @Nat.succ_ne_zero; repeat' (first | simp (disch := first | exact dschL21 | fail) only [go_sem, ↓reduceIte, hsp, r27, r2, r3, q4, q7, q26, hlt, g4, hlv0, t1, t2] | refine WP_drw ?_ | refine cnd_intro (fun hsp => ?_) fun hsp => ?_)
          exact ⟨by (repeat first | exact Agree.refl | assumption | refine Agree.put rfl ?_ | refine Agree.put0 ?_ | refine Agree.sub rfl (by assumption) ?_), by omega, by rw [hs], by rw [hs]⟩
        · have t2 : (m < (A i).2) = False := eq_false q2
          rw [if_neg (fun z => z.elim q1 q2)] at hs
          have hsp := @Nat.succ_ne_zero; repeat' (first | simp (disch := first | exact dschL21 | fail) only [go_sem, ↓reduceIte, hsp, r27, r2, r3, q4, q7, q26, hlt, g4, hlv0, t1, t2] | refine WP_drw ?_ | refine cnd_intro (fun hsp => ?_) fun hsp => ?_)
          exact ⟨by (repeat first | exact Agree.refl | assumption | refine Agree.put rfl ?_ | refine Agree.put0 ?_ | refine Agree.sub rfl (by assumption) ?_), by omega, by rw [hs], by rw [hs]⟩
    · rintro fr H hA2 ⟨r27, rfl, r2, r3⟩
      have q4 := hA2 4 rfl
      have q7 := hA2 7 rfl
      have q26 := hA2 26 rfl
      try simp (disch := first | exact dschL21 | fail) only [go_sem, ↓reduceIte] at q4 q7 q26
      have hlt : ((L.C.length : Int) < (L.C.length : Int)) = False := eq_false (by omega)
      have hsp := @Nat.succ_ne_zero; repeat' (first | simp (disch := first | exact dschL21 | fail) only [go_sem, ↓reduceIte, hsp, r27, r2, r3, q4, q7, q26, hlt] | refine WP_drw ?_ | refine cnd_intro (fun hsp => ?_) fun hsp => ?_)
      exact fIII rfl rfl rfl (xh3.trans x4)
  · have t0 : ((fndE L).2 = 0) = False := eq_false c
    have r : askE L = (0, 0, (fndE L).2) := by unfold askE; rw [if_neg c]
    rw [r]
    have hsp := @Nat.succ_ne_zero; repeat' (first | simp (disch := first | exact dschL21 | fail) only [go_sem, ↓reduceIte, hsp, ← eG0, g0, e1, t0, ← eH2, ← eH3'] | refine WP_drw ?_ | refine cnd_intro (fun hsp => ?_) fun hsp => ?_)
    exact fIII rfl rfl rfl xh3
end Go.AM
