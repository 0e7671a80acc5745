/-
  Contracts: a ring of the first order that explains the rows (Ring).
-/
import Derived.Test.YteanoaejoddnbaaU15
import Derived.Test.YteanoaejoddnbaaU14
import Derived.Test.YteanoaejoddnbaaU13
import Derived.Test.YteanoaejoddnbaaU12
import Derived.Test.YteanoaejoddnbaaU11
import Derived.Test.YteanoaejoddnbaaU9
set_option linter.unusedSimpArgs false
set_option linter.unusedVariables false
namespace Go.AM
open Go.Proofs.Try
theorem dschL37 {p : Prop} (h : p := by first | exact Nat.ne_of_beq_eq_false rfl | assumption | (apply asOne; (first | exact One.int | exact One.bool | assumption | exact Ints.one (by assumption) | exact Rows.one (by assumption) | exact Own.one (by assumption) | exact One.lit ⟨rfl, rfl, rfl⟩)) | (apply asInts; (repeat first | assumption | exact ints_nil | apply Ints.app); done) | (apply asRows; (repeat first | assumption | exact Rows.nil | apply Rows.app); done) | (apply asScal; (first | apply allS1 | apply allS2 | apply allS3 | apply allS4) <;> (first | exact One.int | exact One.bool | assumption | exact Ints.one (by assumption) | exact Rows.one (by assumption) | exact Own.one (by assumption) | exact One.lit ⟨rfl, rfl, rfl⟩)) | exact litT rfl | exact litF rfl | omega | (simp only [List.length_append, List.length_cons, List.length_nil, List.length_set, List.length_reverse]; first | done | omega) | fail) : p := h
attribute [-go_sem] put_ne put_same
attribute [local go_sem ↓] put_if
/-- A ring along which the second order differs from the first one. -/
def IsRing (L : Lac) (l : List Int) : Prop := ∃ o1 o2 a r, (fnd L)[0]? = some o1 ∧ (fnd L)[1]? = some o2 ∧ a < L.C.length ∧ o1.getD a 0 ≠ o2.getD a 0 ∧ 0 < r ∧ itr o1 o2 a r = a ∧ (∀ i, 0 < i → i < r → itr o1 o2 a i ≠ a) ∧ l = rngL o1 o2 a r
def rngE (L : Lac) : Int := if (fndE L).2 = 0 then (if (fnd L).length = 1 then 6 else 0) else (fndE L).2
/-- Where two orders differ first. -/
theorem first_dif {n : Nat} {o1 o2 : List Int} (h1 : o1.length = n) (h2 : o2.length = n) (hne : o1 ≠ o2) : ∃ a, a < n ∧ o1.getD a 0 ≠ o2.getD a 0 ∧ ∀ i, i < a → o1.getD i 0 = o2.getD i 0 := by
  have : ∃ a, a < n ∧ o1.getD a 0 ≠ o2.getD a 0 := by
    refine Classical.byContradiction fun q => hne (lst_ext (by omega) fun i hi => ?_)
    refine Classical.byContradiction fun e => q ⟨i, by omega, e⟩
  obtain ⟨a, ha⟩ := this
  obtain ⟨m, m1, _, m3⟩ := nat_least (P := fun a => a < n ∧ o1.getD a 0 ≠ o2.getD a 0) ha
  exact ⟨m, m1.1, m1.2, fun i hi => Classical.byContradiction fun q => m3 i hi ⟨by omega, q⟩⟩
/-- One comes back. -/
theorem itr_back {n : Nat} {o1 o2 : List Int} (h1 : Ord n o1) (h2 : Ord n o2) {a : Nat} (ha : a < n) : ∃ r, 0 < r ∧ r ≤ n ∧ itr o1 o2 a r = a ∧ ∀ i, 0 < i → i < r → itr o1 o2 a i ≠ a := by
  have : ∃ r, 0 < r ∧ r ≤ n ∧ itr o1 o2 a r = a := by
    refine Classical.byContradiction fun q => ?_
    have := itr_few h1 h2 ha (m := n + 1) fun i hi hin e => q ⟨i, hi, by omega, e⟩
    omega
  obtain ⟨r, hr⟩ := this
  obtain ⟨m, m1, m2, m3⟩ := nat_least (P := fun r => 0 < r ∧ r ≤ n ∧ itr o1 o2 a r = a) hr
  exact ⟨m, m1.1, m1.2.1, m1.2.2, fun i hi him e => m3 i him ⟨hi, by omega, e⟩⟩
theorem ixI_stp {n : Nat} {o1 o2 : List Int} (h1 : Ord n o1) (h2 : Ord n o2) {p : Nat} (hp : p < n) : ixI o2 (o1.getD p 0) = (stp o1 o2 p : Int) := by
  have hl := stp_lt h1 h2 hp
  refine ixI_at (by rw [h2.1]; exact hl) (stp_at h1 h2 hp) fun j hj e => ?_
  have := ord_inj h2 (show j < n by omega) hl (by rw [e, stp_at h1 h2 hp])
  omega
set_option maxRecDepth 100000 in
set_option maxHeartbeats 2000000 in
theorem run_Ring {base : Nat} {h : Heap} {v : AVal} {L : Lac} (hb : base ≤ h.length) (hL : LacAt h v L) :
    Ret prog raw base (.fn 66 [] []) [v] h (fun w H => Ext h H ∧ ∃ x l, w = .tuple [x, .int .i64 (rngE L)] ∧ Own encI 3 h.length H x l ∧ (rngE L ≠ 0 → l = []) ∧ (rngE L = 0 → IsRing L l)) := by
  have hL0 := hL
  obtain ⟨cv, rv, rfl, hC, hR⟩ := hL
  have o1 := hC.one
  have o2 := hR.one
  obtain ⟨G0, eG0⟩ : ∃ G0, G0 = h ++ [lacB L.T cv rv] := ⟨_, rfl⟩
  have x0 : Ext h G0 := by rw [eG0]; exact .app .refl
  have g0 : G0[h.length]? = some (lacB L.T cv rv) := by rw [eG0]; exact get_eq rfl
  have l0 : G0.length = h.length + 1 := by rw [eG0]; simp
  obtain ⟨w1, H1, e1, x1, a, x, rfl, oa, hA, hD⟩ := run_found (base := base) (h := G0) (by omega) (hL0.ext x0)
  have ox := hA.one
  have l1 := x1.len
  have xh := x0.trans x1
  unfold lacB at eG0 g0
  refine ret_raw func66 rfl (by kernel_rfl) ?_
  by_cases c : (fndE L).2 = 0
  · obtain ⟨c1, c2, c3⟩ := fndE_ok c
    have kn := (chkL_iff.1 c1).n
    obtain ⟨id, rfl, hDk⟩ := hD c
    rw [c3] at hA e1
    have hAI : AllI G0.length H1 x (fnd L) := hA.all
    have hfew := fnd_few (L := L) kn.2
    have hln := hAI.len (by omega)
    have hpos : 0 < (fnd L).length := by cases q : fnd L with | nil => exact absurd q c2 | cons a b => simp
    by_cases c4 : (fnd L).length = 1
    · have t4 : (((fnd L).length : Int) = 1) = True := eq_true (by omega)
      have r : rngE L = 6 := by unfold rngE; rw [if_pos c, if_pos c4]
      rw [r]
      have hsp := @Nat.succ_ne_zero; repeat' (first | simp (disch := first | exact dschL37 | fail) only [go_sem, ↓reduceIte, hsp, ← eG0, g0, e1, eq_self, hln, t4] | refine WP_drw ?_ | refine cnd_intro (fun hsp => ?_) fun hsp => ?_)
      exact ⟨xh, _, _, rfl, Own.nil, fun _ => rfl, fun q => by simp at q⟩
    · have t4 : (((fnd L).length : Int) = 1) = False := eq_false (by omega)
      have r : rngE L = 0 := by unfold rngE; rw [if_pos c, if_neg c4]
      rw [r]
      obtain ⟨m1, eq1⟩ : ∃ q, q = (fnd L)[0] := ⟨_, rfl⟩
      obtain ⟨m2, eq2⟩ : ∃ q, q = (fnd L)[1]'(by omega) := ⟨_, rfl⟩
      have f1 : (fnd L)[0]? = some m1 := by rw [eq1]; exact List.getElem?_eq_getElem hpos
      have f2 : (fnd L)[1]? = some m2 := by rw [eq2]; exact List.getElem?_eq_getElem (by omega)
      have ho1 : Ord L.C.length m1 := fnd_ord (List.mem_of_getElem? f1)
      have ho2 : Ord L.C.length m2 := fnd_ord (List.mem_of_getElem? f2)
      have hne : m1 ≠ m2 := by
        have := List.pairwise_iff_getElem.1 (List.nodup_iff_pairwise_ne.1 (fnd_nodup (L := L))) 0 1 hpos (by omega) (by omega)
        rw [eq1, eq2]; exact this
      obtain ⟨a, ha, had, hab⟩ := first_dif ho1.1 ho2.1 hne
      obtain ⟨rr, hr0, hrn, hrb, hrm⟩ := itr_back ho1 ho2 ha
      obtain ⟨b1, u1, ad1, ld1, ou1⟩ := hAI.at (by omega) f1
      obtain ⟨b2, u2, ad2, ld2, ou2⟩ := hAI.at (by omega) f2
      have d1 := ld1 H1 .refl
      have d2 := ld2 H1 .refl
      have n1 := ou1.one
      have n2 := ou2.one
      have i1 := ownE_ints ou1 (ord_small ho1 (by omega))
      have i2 := ownE_ints ou2 (ord_small ho2 (by omega))
      have ll1 := ho1.1
      have ll2 := ho2.1
      have lc : loadP prog H1 25 (.ptr (some ⟨id, 0, 1⟩)) = some hDk.choose := by obtain ⟨rv', hg, -, -⟩ := hDk.choose_spec; exact ld_cards hg
      rw [Int.natCast_zero] at ad1
      rw [show (((1 : Nat) : Int)) = 1 from rfl] at ad2
      have hsp := @Nat.succ_ne_zero; repeat' (first | simp (disch := first | exact dschL37 | fail) only [go_sem, ↓reduceIte, hsp, ← eG0, g0, e1, eq_self, hln, t4, ad1, d1, ad2, d2] | refine WP_drw ?_ | refine cnd_intro (fun hsp => ?_) fun hsp => ?_)
      refine WP_count [(9, 40)] 0 a (Nat.zero_le _) (fun _ i fr H => fr 9 = .int .i64 (i : Int) ∧ H = H1) ?_ ?_ ?_
      · exact ⟨by (simp (disch := first | exact dschL37 | fail) only [go_sem, ↓reduceIte, Int.natCast_zero]; first | done | rfl), rfl⟩
      · rintro i fr H hi0 hi hA2 ⟨r9, rfl⟩
        have q2 := hA2 2 rfl
        have q3 := hA2 3 rfl
        have q4 := hA2 4 rfl
        have q7 := hA2 7 rfl
        have q8 := hA2 8 rfl
        try simp (disch := first | exact dschL37 | fail) only [go_sem, ↓reduceIte] at q2 q3 q4 q7 q8
        have ai1 := adrI (i := (i : Int)) (by omega) i1 (by omega)
        have ai2 := adrI (i := (i : Int)) (by omega) i2 (by omega)
        rw [Int.toNat_natCast] at ai1 ai2
        have li1 := loadI i1 (i := i) (by omega)
        have li2 := loadI i2 (i := i) (by omega)
        have t5 : (m1.getD i 0 = m2.getD i 0) = True := eq_true (hab i hi)
        have hsp := @Nat.succ_ne_zero; repeat' (first | simp (disch := first | exact dschL37 | fail) only [go_sem, ↓reduceIte, hsp, r9, q2, q3, q4, q7, q8, ai1, ai2, li1, li2, t5] | refine WP_drw ?_ | refine cnd_intro (fun hsp => ?_) fun hsp => ?_)
        exact ⟨by (repeat first | exact Agree.refl | assumption | refine Agree.put rfl ?_ | refine Agree.put0 ?_ | refine Agree.sub rfl (by assumption) ?_), by omega⟩
      · rintro fr H hA2 ⟨r9, rfl⟩
        have q2 := hA2 2 rfl
        have q3 := hA2 3 rfl
        have q4 := hA2 4 rfl
        have q7 := hA2 7 rfl
        have q8 := hA2 8 rfl
        try simp (disch := first | exact dschL37 | fail) only [go_sem, ↓reduceIte] at q2 q3 q4 q7 q8
        have ai1 := adrI (i := (a : Int)) (by omega) i1 (by omega)
        have ai2 := adrI (i := (a : Int)) (by omega) i2 (by omega)
        rw [Int.toNat_natCast] at ai1 ai2
        have li1 := loadI i1 (i := a) (by omega)
        have li2 := loadI i2 (i := a) (by omega)
        have t5 : (m1.getD a 0 = m2.getD a 0) = False := eq_false had
        have hsp := @Nat.succ_ne_zero; repeat' (first | simp (disch := first | exact dschL37 | fail) only [go_sem, ↓reduceIte, hsp, r9, q2, q3, q4, q7, q8, ai1, ai2, li1, li2, t5] | refine WP_drw ?_ | refine cnd_intro (fun hsp => ?_) fun hsp => ?_)
        refine WP_count [(2, 3), (10, 66)] 0 (rr - 1) (Nat.zero_le _) (fun _ i fr K => fr 11 = .int .i64 (itr m1 m2 a i : Int) ∧ Ext H K ∧ ∃ w, fr 10 = w ∧ Own encI 3 H.length K w (rngL m1 m2 a i)) ?_ ?_ ?_
        · exact ⟨by simp (disch := first | exact dschL37 | fail) only [go_sem, ↓reduceIte]; rfl, .refl, .slice none 0 0, by simp (disch := first | exact dschL37 | fail) only [go_sem, ↓reduceIte], Own.nil⟩
        · rintro i fr2 K hi0 hi hA3 ⟨r11, xK, w, r10, hW⟩
          have c4 := hA3 4 rfl
          have c7 := hA3 7 rfl
          have c8 := hA3 8 rfl
          have c9 := hA3 9 rfl
          try simp (disch := first | exact dschL37 | fail) only [go_sem, ↓reduceIte, q4, q7, q8] at c4 c7 c8 c9
          have ow := hW.one
          have lK := xK.len
          have hp := itr_lt ho1 ho2 ha i
          obtain ⟨p, ep⟩ : ∃ p, p = itr m1 m2 a i := ⟨_, rfl⟩
          rw [← ep] at hp r11
          obtain ⟨w', K2, ea, oW, lW, eW, oneW, kW⟩ := OwnE.snocI (base := base) (x := (p : Int)) (.inl hW) (by omega) lK (by rw [rngL_len]; omega)
          have xK2 := eW _ (Nat.le_refl _) xK
          have ap := adrI (i := (p : Int)) (by omega) (i1.ext xK2) (by omega)
          rw [Int.toNat_natCast] at ap
          have lp := loadI (i1.ext xK2) (i := p) (by omega)
          have hix := fun base => run_index (base := base) (x := m1.getD p 0) (i2.ext xK2)
          rw [ixI_stp ho1 ho2 hp] at hix
          have hs : itr m1 m2 a (i + 1) = stp m1 m2 p := by rw [ep]; rfl
          rw [← hs] at hix
          have hsl : rngL m1 m2 a (i + 1) = rngL m1 m2 a i ++ [(p : Int)] := by rw [rngL_succ, ep]
          have t6 : ((itr m1 m2 a (i + 1) : Int) = (a : Int)) = False := eq_false (fun e => hrm (i + 1) (by omega) (by omega) (by omega))
          have hl2 : lenOpA prog K2 25 w' = some (.int .i64 ((i : Int) + 1)) := by
            have := own_len oW Fc.el25 (by rw [List.length_append, rngL_len]; simp; omega)
            rw [List.length_append, rngL_len] at this; exact this
          obtain ⟨cv', hdk⟩ := hDk
          obtain ⟨rv', hg, hC', hR'⟩ := hdk
          have lcK := ld_cards (xK2.get hg)
          have hlcK := lenI (hC'.ext xK2)
          have oc' := hC'.one
          have t7 : ((i : Int) + 1 > (L.C.length : Int)) = False := eq_false (by omega)
          have hsp := @Nat.succ_ne_zero; repeat' (first | simp (disch := first | exact dschL37 | fail) only [go_sem, ↓reduceIte, hsp, r11, r10, r9, c4, c7, c8, c9, q2, q3, q4, q7, q8, ea, ap, lp, hix, t6, hl2, lcK, hlcK, t7] | refine WP_drw ?_ | refine cnd_intro (fun hsp => ?_) fun hsp => ?_)
          exact ⟨by (repeat first | exact Agree.refl | assumption | refine Agree.put rfl ?_ | refine Agree.put0 ?_ | refine Agree.sub rfl (by assumption) ?_), xK2, w', rfl, by rw [hsl]; exact oW⟩
        · rintro fr2 K hA3 ⟨r11, xK, w, r10, hW⟩
          have c4 := hA3 4 rfl
          have c7 := hA3 7 rfl
          have c8 := hA3 8 rfl
          have c9 := hA3 9 rfl
          try simp (disch := first | exact dschL37 | fail) only [go_sem, ↓reduceIte, q4, q7, q8] at c4 c7 c8 c9
          have ow := hW.one
          have lK := xK.len
          have hp := itr_lt ho1 ho2 ha (rr - 1)
          obtain ⟨p, ep⟩ : ∃ p, p = itr m1 m2 a (rr - 1) := ⟨_, rfl⟩
          rw [← ep] at hp r11
          obtain ⟨w', K2, ea, oW, lW, eW, oneW, kW⟩ := OwnE.snocI (base := base) (x := (p : Int)) (.inl hW) (by omega) lK (by rw [rngL_len]; omega)
          have xK2 := eW _ (Nat.le_refl _) xK
          have ap := adrI (i := (p : Int)) (by omega) (i1.ext xK2) (by omega)
          rw [Int.toNat_natCast] at ap
          have lp := loadI (i1.ext xK2) (i := p) (by omega)
          have hix := fun base => run_index (base := base) (x := m1.getD p 0) (i2.ext xK2)
          rw [ixI_stp ho1 ho2 hp] at hix
          have hs : stp m1 m2 p = a := by
            rw [ep]
            show itr m1 m2 a (rr - 1 + 1) = a
            rw [Nat.sub_add_cancel (by omega), hrb]
          rw [hs] at hix
          have hsl : rngL m1 m2 a rr = rngL m1 m2 a (rr - 1) ++ [(p : Int)] := by
            have := rngL_succ (o1 := m1) (o2 := m2) (a := a) (r := rr - 1)
            rw [Nat.sub_add_cancel (by omega)] at this
            rw [this, ep]
          have hsp := @Nat.succ_ne_zero; repeat' (first | simp (disch := first | exact dschL37 | fail) only [go_sem, ↓reduceIte, hsp, r11, r10, r9, c4, c7, c8, c9, q2, q3, q4, q7, q8, ea, ap, lp, hix, eq_self] | refine WP_drw ?_ | refine cnd_intro (fun hsp => ?_) fun hsp => ?_)
          exact ⟨xh.trans xK2, _, _, rfl, by rw [← hsl] at oW; exact oW.low (by omega), fun q => q.elim, fun _ => ⟨m1, m2, a, rr, f1, f2, ha, had, hr0, hrb, hrm, rfl⟩⟩
  · have t0 : ((fndE L).2 = 0) = False := eq_false c
    have r : rngE L = (fndE L).2 := by unfold rngE; rw [if_neg c]
    rw [r]
    have hsp := @Nat.succ_ne_zero; repeat' (first | simp (disch := first | exact dschL37 | fail) only [go_sem, ↓reduceIte, hsp, ← eG0, g0, e1, t0] | refine WP_drw ?_ | refine cnd_intro (fun hsp => ?_) fun hsp => ?_)
    exact ⟨xh, _, _, rfl, Own.nil, fun _ => rfl, fun q => q.elim⟩
end Go.AM
/-
  Copies of slices of structs.
-/
namespace Go.AM
open Go.Proofs.Try
section
variable {α : Type} {E : Enc α} {P : Program} {base : Nat} {h : Heap} {v : AVal} {l : List α} {t e : TypeId} {zs : List AVal}
theorem app_empE (hR : Rows E h v l) (hl : l ≠ []) (hs : ∀ y, (E.cells y).all AVal.scalar = true) (hsz : l.length < 2147483648) (ht : elS P t = some (e, E.z, zs)) :
    appendA P base h t .emp v = some (.slice (some ⟨h.length, 0, 0⟩) l.length l.length, h ++ [rowE E e l 0]) := by
  have hn : l.length ≠ 0 := fun q => hl (List.eq_nil_of_length_eq_zero q)
  simp only [appendA, ht, hR.lenA, hR.firstN, flat_scalar hs, if_true]
  rw [if_neg hn, if_pos (show l.length < 2 ^ 31 by omega)]
  first | done | rfl
end
end Go.AM
/-
  Contracts: copies of rows and chains, comparison of chains, a chain with one row more (See).
-/
namespace Go.AM
open Go.Proofs.Try
theorem dschL44 {p : Prop} (h : p := by first | exact Nat.ne_of_beq_eq_false rfl | assumption | (apply asOne; (first | exact One.int | exact One.bool | assumption | exact Ints.one (by assumption) | exact Rows.one (by assumption) | exact Own.one (by assumption) | exact One.lit ⟨rfl, rfl, rfl⟩)) | (apply asInts; (repeat first | assumption | exact ints_nil | apply Ints.app); done) | (apply asRows; (repeat first | assumption | exact Rows.nil | apply Rows.app); done) | (apply asScal; (first | apply allS1 | apply allS2 | apply allS3 | apply allS4) <;> (first | exact One.int | exact One.bool | assumption | exact Ints.one (by assumption) | exact Rows.one (by assumption) | exact Own.one (by assumption) | exact One.lit ⟨rfl, rfl, rfl⟩)) | exact litT rfl | exact litF rfl | omega | (simp only [List.length_append, List.length_cons, List.length_nil, List.length_set, List.length_reverse]; first | done | omega) | fail) : p := h
attribute [-go_sem] put_ne put_same
attribute [local go_sem ↓] put_if
theorem run_dupR {base : Nat} {h : Heap} {v : AVal} {l : List Rw3} (hb : base ≤ h.length) (hR : Rows encR h v l) (hl : l.length ≤ 1000) :
    Ret prog raw base (.fn 96 [] []) [v] h (fun w H => Ext h H ∧ OwnE encR 70 h.length H w l) := by
  have ho := hR.one
  have hn := hR.len Fc.el42
  refine ret_raw func96 rfl (by kernel_rfl) ?_
  by_cases hl0 : l = []
  · subst hl0
    have ha := fun base => app_none (base := base) hR Fc.el42
    have hsp := @Nat.succ_ne_zero; repeat' (first | simp (disch := first | exact dschL44 | fail) only [go_sem, ↓reduceIte, hsp, hn, mk_none Fc.el42, ha, List.length_nil, Int.natCast_zero] | refine WP_drw ?_ | refine cnd_intro (fun hsp => ?_) fun hsp => ?_)
    exact ⟨.refl, .inr ⟨rfl, rfl⟩⟩
  · have hl1 : 0 < l.length := List.length_pos_iff.2 hl0
    have hm := mk_room (h := h) (n := l.length) Fc.el42 hl1 (by omega)
    have ha := app_fill (base := base) hR Fc.el42 rfl encR_sc rfl hb
    have hsp := @Nat.succ_ne_zero; repeat' (first | simp (disch := first | exact dschL44 | fail) only [go_sem, ↓reduceIte, hsp, hn, hm, ha] | refine WP_drw ?_ | refine cnd_intro (fun hsp => ?_) fun hsp => ?_)
    exact ⟨.app .refl, .inl (.inr ⟨h.length, 0, rfl, get_eq rfl, Nat.le_refl _, hl1⟩)⟩
theorem run_eqR0 {base : Nat} {h : Heap} {a b : AVal} {l : List Rw3} (ha : Rows encR h a l) (hb : Rows encR h b l) (hl : l.length ≤ 1000) : callL prog raw base (.fn 157 [] []) [a, b] h = some (.bool true, h) := by
  have h1 := ha.len Fc.el42
  have h2 := hb.len Fc.el42
  have oa := ha.one
  have ob := hb.one
  refine callL_run func157 rfl rfl ?_
  have hsp := @Nat.succ_ne_zero; repeat' (first | simp (disch := first | exact dschL44 | fail) only [go_sem, ↓reduceIte, hsp, h1, h2] | refine WP_drw ?_ | refine cnd_intro (fun hsp => ?_) fun hsp => ?_)
  refine WP_count [(4, 5), (13, 25)] 0 l.length (Nat.zero_le _) (fun H0 n fr h' => fr 13 = .int .i64 (n : Int) ∧ h' = H0) ?_ ?_ ?_
  · exact ⟨by (simp (disch := first | exact dschL44 | fail) only [go_sem, ↓reduceIte, Int.natCast_zero]; first | done | rfl), rfl⟩
  · rintro n fr H hn0 hn hA ⟨r13, eH⟩
    subst eH
    have p0 := hA 0 rfl
    have p1 := hA 1 rfl
    have p12 := hA 12 rfl
    try simp (disch := first | exact dschL44 | fail) only [go_sem, ↓reduceIte] at p0 p1 p12
    have hlt : ((n : Int) < (l.length : Int)) = True := eq_true (by omega)
    have hx := getD_some (d := ((0 : Int), (0 : Int), (0 : Int))) hn
    obtain ⟨x, ex⟩ : ∃ x, x = l.getD n ((0 : Int), (0 : Int), (0 : Int)) := ⟨_, rfl⟩
    rw [← ex] at hx
    have a1 := ha.addr (P := prog) (i := (n : Int)) Fc.el42 Fc.ar42 (by omega) (by omega)
    have a2 := hb.addr (P := prog) (i := (n : Int)) Fc.el42 Fc.ar42 (by omega) (by omega)
    rw [Int.toNat_natCast] at a1 a2
    have d1 : loadP prog H 70 (elAdr a encR.z n 0) = some (.agg [.int .i64 x.1, .int .i64 x.2.1, .int .i64 x.2.2]) := ha.load (P := prog) Fc.ty70 hx
    have d2 : loadP prog H 70 (elAdr b encR.z n 0) = some (.agg [.int .i64 x.1, .int .i64 x.2.1, .int .i64 x.2.2]) := hb.load (P := prog) Fc.ty70 hx
    have hsp := @Nat.succ_ne_zero; repeat' (first | simp (disch := first | exact dschL44 | fail) only [go_sem, ↓reduceIte, hsp, r13, p0, p1, p12, hlt, a1, a2, d1, d2, Fc.ne70, eq_self, and_self, not_true, decide_false] | refine WP_drw ?_ | refine cnd_intro (fun hsp => ?_) fun hsp => ?_)
    exact ⟨by (repeat first | exact Agree.refl | assumption | refine Agree.put rfl ?_ | refine Agree.put0 ?_ | refine Agree.sub rfl (by assumption) ?_), by omega⟩
  · rintro fr H hA ⟨r13, eH⟩
    subst eH
    have p0 := hA 0 rfl
    have p1 := hA 1 rfl
    have p12 := hA 12 rfl
    try simp (disch := first | exact dschL44 | fail) only [go_sem, ↓reduceIte] at p0 p1 p12
    have hlt : ((l.length : Int) < (l.length : Int)) = False := eq_false (by omega)
    have hsp := @Nat.succ_ne_zero; repeat' (first | simp (disch := first | exact dschL44 | fail) only [go_sem, ↓reduceIte, hsp, r13, p0, p1, p12, hlt] | refine WP_drw ?_ | refine cnd_intro (fun hsp => ?_) fun hsp => ?_)
    exact fB rfl
theorem run_eqR {base : Nat} {h : Heap} {a b : AVal} {l : List Rw3} (ha : Rows encR h a l) (hb : Rows encR h b l) (hl : l.length ≤ 1000) : callL prog raw base (.fn 108 [] []) [a, b] h = some (.bool true, h) := by
  have e := fun base => run_eqR0 (base := base) ha hb hl
  refine callL_run func108 rfl rfl ?_
  have hsp := @Nat.succ_ne_zero; repeat' (first | simp (disch := first | exact dschL44 | fail) only [go_sem, ↓reduceIte, hsp, e] | refine WP_drw ?_ | refine cnd_intro (fun hsp => ?_) fun hsp => ?_)
  exact fB rfl
/-- The same chain twice. -/
theorem run_same {base : Nat} {h : Heap} {v w : AVal} {L : Lac} (hv : LacAt h v L) (hw : LacAt h w L) (hl : L.R.length ≤ 1000) : callL prog raw base (.fn 43 [] []) [v, w] h = some (.bool true, h) := by
  obtain ⟨cv, rv, rfl, hC, hR⟩ := hv
  obtain ⟨cw, rw', rfl, hC2, hR2⟩ := hw
  have o1 := hC.one
  have o2 := hR.one
  have o3 := hC2.one
  have o4 := hR2.one
  obtain ⟨G, eG⟩ : ∃ G, G = h ++ [lacB L.T cv rv] ++ [lacB L.T cw rw'] := ⟨_, rfl⟩
  have xG : Ext h G := by rw [eG]; exact .app (.app .refl)
  have g0 : G[h.length]? = some (lacB L.T cv rv) := by rw [eG]; exact get_app (get_eq rfl)
  have g1 : G[h.length + 1]? = some (lacB L.T cw rw') := by rw [eG]; exact get_eq (by simp)
  have e1 := fun base => run_eqI (base := base) (hC.ext xG) (hC2.ext xG)
  rw [decide_eq_true rfl] at e1
  have e2 := fun base => run_eqR (base := base) (hR.ext xG) (hR2.ext xG) hl
  unfold lacB at eG g0 g1
  refine callL_run func43 rfl rfl ?_
  have hsp := @Nat.succ_ne_zero; repeat' (first | simp (disch := first | exact dschL44 | fail) only [go_sem, ↓reduceIte, hsp, ← eG, g0, g1, eq_self, decide_true, e1, e2] | refine WP_drw ?_ | refine cnd_intro (fun hsp => ?_) fun hsp => ?_)
  exact fB rfl xG
theorem run_own {base : Nat} {h : Heap} {v : AVal} {L : Lac} (hb : base ≤ h.length) (hL : LacAt h v L) (hc : L.C.length ≤ 1000) (hl : L.R.length ≤ 1000) :
    Ret prog raw base (.fn 30 [] []) [v] h (fun w H => Ext h H ∧ ∃ cw rw', w = .agg [.int .i64 L.T, cw, rw'] ∧ OwnE encI 3 h.length H cw L.C ∧ OwnE encR 70 h.length H rw' L.R) := by
  obtain ⟨cv, rv, rfl, hC, hR⟩ := hL
  have o1 := hC.one
  have o2 := hR.one
  obtain ⟨G, eG⟩ : ∃ G, G = h ++ [lacB L.T cv rv] ++ [lacB 0 (.slice none 0 0) (.slice none 0 0)] := ⟨_, rfl⟩
  have xG : Ext h G := by rw [eG]; exact .app (.app .refl)
  have lG : G.length = h.length + 2 := by rw [eG]; simp
  have g0 : G[h.length]? = some (lacB L.T cv rv) := by rw [eG]; exact get_app (get_eq rfl)
  have g00 : G[h.length + 1]? = some (lacB 0 (.slice none 0 0) (.slice none 0 0)) := by rw [eG]; exact get_eq (by simp)
  obtain ⟨cw, H1, e1, x1, oC⟩ := run_dupI (base := base) (by omega) (hC.ext xG) hc
  have l1 := x1.len
  obtain ⟨rw', H2, e2, x2, oR⟩ := run_dupR (base := base) (by omega) (hR.ext (xG.trans x1)) hl
  have l2 := x2.len
  have g1 := x1.get g0
  have g2 := x2.get g1
  have g12 := (x1.trans x2).get g00
  have ow1 := oC.one
  have ow2 := oR.one
  have xf : Ext h H2 := (xG.trans x1).trans x2
  unfold lacB at eG g0 g00 g1 g2 g12
  refine ret_raw func30 rfl (by kernel_rfl) ?_
  have hsp := @Nat.succ_ne_zero; repeat' (first | simp (disch := first | exact dschL44 | fail) only [go_sem, ↓reduceIte, hsp, ← eG, g0, e1, g1, e2, g2, g12] | refine WP_drw ?_ | refine cnd_intro (fun hsp => ?_) fun hsp => ?_)
  exact ⟨xf.set (by omega), cw, rw', rfl, ((oC.ext x2).setBox g12).low (by omega), (oR.setBox g12).low (by omega)⟩
end Go.AM
/-
  Contracts: a chain with one row more (See); whether an order explains the rows, as the statements ask it.
-/
namespace Go.AM
open Go.Proofs.Try
attribute [-go_sem] put_ne put_same
attribute [local go_sem ↓] put_if
def moreR (L : Lac) (r : Rw3) : Lac := ⟨L.T, L.C, L.R ++ [r]⟩
def lac0 : Lac := ⟨0, [], []⟩
def seeE (L : Lac) (r : Rw3) : Lac × Int := if chkL L = 0 then (if L.R.length = 12 then (lac0, 9) else if chkL (moreR L r) = 0 then (moreR L r, 0) else (lac0, chkL (moreR L r))) else (lac0, chkL L)
/-- A chain of one's own. -/
def OwnC (b : Nat) (H : Heap) (v : AVal) (L : Lac) : Prop := ∃ cv rv, v = .agg [.int .i64 L.T, cv, rv] ∧ OwnE encI 3 b H cv L.C ∧ OwnE encR 70 b H rv L.R
end Go.AM
/-
  Contracts: where the first list lies of which something holds; the pile that a card goes on.
-/
namespace Go.AM
open Go.Proofs.Try
attribute [-go_sem] put_ne put_same
attribute [local go_sem ↓] put_if
end Go.AM
/-
  Contracts: as few moves as can be (Mend).
-/
namespace Go.AM
open Go.Proofs.Try
attribute [-go_sem] put_ne put_same
attribute [local go_sem ↓] put_if
def mndE (o : List Int) : List (Int × Int) × Int := if aloL o = 0 then (mndL o, 0) else ([], aloL o)
theorem mndN_succ {s : MndS} {k : Nat} : mndN s (k + 1) = mndS (mndN s k) (k : Int) := rfl
end Go.AM
/-
  Contracts: as few piles as can be (Piles).
-/
namespace Go.AM
open Go.Proofs.Try
attribute [-go_sem] put_ne put_same
attribute [local go_sem ↓] put_if
/-- Piles in memory, each in a block of its own. -/
structure PilAt (b : Nat) (H : Heap) (u : AVal) (vs : List AVal) (ps : List (List Int)) : Prop where
  own : Own encZ 25 b H u vs
  len : vs.length = ps.length
  el : ∀ (i : Nat) x t, vs[i]? = some x → ps[i]? = some t → Own encI 3 b H x t
  apart : ∀ (i j : Nat) x y, i ≠ j → vs[i]? = some x → vs[j]? = some y → Asun x y
end Go.AM
/-
  Contracts: Piles.
-/
namespace Go.AM
open Go.Proofs.Try
attribute [-go_sem] put_ne put_same
attribute [local go_sem ↓] put_if
def pilE (o : List Int) : List (List Int) × Int := if aloL o = 0 then (pilN o o.length, 0) else ([], aloL o)
end Go.AM
/-
  Contracts: Piles, walked.
-/
namespace Go.AM
open Go.Proofs.Try
attribute [-go_sem] put_ne put_same
attribute [local go_sem ↓] put_if
end Go.AM
/-
  Contracts: the number of piles, or the errors (Shows).
-/
namespace Go.AM
open Go.Proofs.Try
attribute [-go_sem] put_ne put_same
attribute [local go_sem ↓] put_if
def badAt (o pile : List Int) (i : Nat) : Bool :=
  !decide (0 ≤ pile.getD i 0 ∧ pile.getD i 0 ≤ (o.length : Int) - 1) || (decide (0 < i) && (decide (pile.getD i 0 ≤ pile.getD (i - 1) 0) || decide (o.getD (pile.getD i 0).toNat 0 ≥ o.getD (pile.getD (i - 1) 0).toNat 0)))
def pilB (o pile : List Int) : Bool := decide (pile ≠ []) && (List.range pile.length).all fun i => !badAt o pile i
def shwE (o : List Int) (ps : List (List Int)) : Int × Int :=
  if aloL o ≠ 0 then (0, aloL o) else if ps.all (pilB o) = false then (0, 8) else if ps.flatten.length ≠ o.length ∨ twB ps.flatten = true then (0, 8) else ((ps.length : Int), 0)
end Go.AM
/-
  Plain: piles that are made are right; moves that are made.
-/
namespace Go.AM
end Go.AM
/-
  Contracts: whether an order explains the rows, as the statements ask it; a chain in which the cards at some positions were looked at.
-/
namespace Go.AM
open Go.Proofs.Try
attribute [-go_sem] put_ne put_same
attribute [local go_sem ↓] put_if
/-- Rows of what is seen at some positions. -/
def looks (L : Lac) (real ps : List Int) : List Rw3 := ps.map fun p => (p, 2 ^ L.T.toNat - 1, L.C.getD (real.getD p.toNat 0).toNat 0)
def shwL (L : Lac) (real ps : List Int) : Lac := ⟨L.T, L.C, L.R ++ looks L real ps⟩
end Go.AM
/-
  Or of numbers.
-/
namespace Go.AM
open Go.Proofs.Try
end Go.AM
/-
  Contracts: a row of what is really seen (Seen).
-/
namespace Go.AM
open Go.Proofs.Try
attribute [-go_sem] put_ne put_same
attribute [local go_sem ↓] put_if
/-- What is really seen. -/
structure SeenOk (T : Int) (C o : List Int) (r : Rw3) : Prop where
  t : 0 ≤ r.1 ∧ r.1 ≤ 60
  m : 0 ≤ r.2.1 ∧ r.2.1 ≤ 2 ^ T.toNat - 1
  s : 0 ≤ r.2.2
  is : (C.getD (o.getD (r.1.toNat % C.length) 0).toNat 0).toNat &&& r.2.1.toNat = r.2.2.toNat
theorem pow_le8 {T : Int} (h : 1 ≤ T ∧ T ≤ 8) : (1 : Int) ≤ 2 ^ T.toNat ∧ (2 : Int) ^ T.toNat ≤ 256 := by
  refine ⟨by exact_mod_cast Nat.one_le_two_pow, ?_⟩
  have h2 : (2 : Int) ^ T.toNat ≤ 2 ^ 8 := by exact_mod_cast Nat.pow_le_pow_right (by decide) (show T.toNat ≤ 8 by omega)
  simpa using h2
end Go.AM
/-
  Plain: fewer moves do not make an order right.
-/
namespace Go.AM
end Go.AM
/-
  Contracts: the position at which one look leaves the fewest orders (Ask).
-/
namespace Go.AM
open Go.Proofs.Try
theorem dschL20 {p : Prop} (h : p := by first | exact Nat.ne_of_beq_eq_false rfl | assumption | (apply asOne; (first | exact One.int | exact One.bool | assumption | exact Ints.one (by assumption) | exact Rows.one (by assumption) | exact Own.one (by assumption) | exact One.lit ⟨rfl, rfl, rfl⟩)) | (apply asInts; (repeat first | assumption | exact ints_nil | apply Ints.app); done) | (apply asRows; (repeat first | assumption | exact Rows.nil | apply Rows.app); done) | (apply asScal; (first | apply allS1 | apply allS2 | apply allS3 | apply allS4) <;> (first | exact One.int | exact One.bool | assumption | exact Ints.one (by assumption) | exact Rows.one (by assumption) | exact Own.one (by assumption) | exact One.lit ⟨rfl, rfl, rfl⟩)) | exact litT rfl | exact litF rfl | omega | (simp only [List.length_append, List.length_cons, List.length_nil, List.length_set, List.length_reverse]; first | done | omega) | fail) : p := h
attribute [-go_sem] put_ne put_same
attribute [local go_sem ↓] put_if
def cntK (os : List (List Int)) (p n i : Nat) : List Int := lst (fun k => (((os.take i).countP fun o => decide (o.getD p 0 = (k : Int)) : Nat) : Int)) n
theorem cntK_len {os : List (List Int)} {p n i : Nat} : (cntK os p n i).length = n := lst_len
theorem cntK_step {os : List (List Int)} {p n i c : Nat} {o : List Int} (ho : os[i]? = some o) (hc : o.getD p 0 = (c : Int)) (hn : c < n) : (cntK os p n i).set c ((cntK os p n i).getD c 0 + 1) = cntK os p n (i + 1) := by
  unfold cntK
  rw [lst_get hn, lst_set hn]
  refine lst_congr fun k hk => ?_
  rw [List.take_add_one, ho, List.countP_append]
  by_cases e : k = c
  · subst e
    rw [if_pos rfl, show List.countP (fun o => decide (o.getD p 0 = (k : Int))) (some o).toList = 1 from List.countP_cons_of_pos (decide_eq_true hc)]
    omega
  · rw [if_neg e, show List.countP (fun o => decide (o.getD p 0 = (k : Int))) (some o).toList = 0 from List.countP_cons_of_neg (by rw [decide_eq_true_eq, hc]; omega)]
    omega
theorem cntK_bd {os : List (List Int)} {p n i k : Nat} (hk : k < n) : 0 ≤ (cntK os p n i).getD k 0 ∧ (cntK os p n i).getD k 0 ≤ (os.length : Int) := by
  unfold cntK
  rw [lst_get hk]
  have h1 : (os.take i).countP (fun o => decide (o.getD p 0 = (k : Int))) ≤ (os.take i).length := List.countP_le_length
  have h2 : (os.take i).length ≤ os.length := List.length_take_le' ..
  omega
theorem cntK_zero {os : List (List Int)} {p n : Nat} : cntK os p n 0 = List.replicate n 0 := by
  refine lst_ext (by rw [cntK_len, List.length_replicate]) fun i hi => ?_
  rw [cntK_len] at hi
  unfold cntK
  rw [lst_get hi, List.take_zero, List.getD_eq_getElem?_getD, List.getElem?_replicate, if_pos hi]
  rfl
theorem cntK_all {os : List (List Int)} {p n : Nat} : grt (cntK os p n os.length) = lvsN n os p := by
  unfold cntK lvsN
  rw [List.take_length]
set_option maxHeartbeats 1000000 in
theorem run_lvs {base a b id p bb : Nat} {h : Heap} {x : AVal} {L : Lac} {os : List (List Int)} (ga : h[a]? = some (pB id)) (gb : h[b]? = some (lsB x)) (hD : DskAt h id L) (hn : 1 ≤ L.C.length ∧ L.C.length ≤ 7) (hA : AllI bb h x os) (hl : os.length ≤ 823543) (ho : ∀ o ∈ os, Ord L.C.length o) (hp : p < L.C.length) :
    callL prog raw base (.fn 129 [] [.ptr (some ⟨a, 0, 0⟩), .ptr (some ⟨b, 0, 0⟩)]) [.int .i64 (p : Int)] h = some (.int .i64 (lvsN L.C.length os p), h) := by
  obtain ⟨cv, rv, hg, hC, -⟩ := hD
  have la := lt_of_get ga
  have lb := lt_of_get gb
  have lid := lt_of_get hg
  have ox := hA.one
  have lc := ld_cards hg
  have hlc := lenI hC
  obtain ⟨G, eG⟩ : ∃ G, G = h ++ [srB (cntK os p L.C.length 0) 3 0] := ⟨_, rfl⟩
  have mk : makeSliceA prog h 25 (.int .i64 (L.C.length : Int)) (.int .i64 (L.C.length : Int)) = some (.slice (some ⟨h.length, 0, 0⟩) L.C.length L.C.length, G) := by
    rw [make_full Fc.el25 (by omega) (by omega), rep_zero, eG, cntK_zero]
  have xG : Ext h G := by rw [eG]; exact .app .refl
  have gbG := xG.get gb
  have hlx := (hA.ext xG).len (by omega)
  unfold pB at ga
  unfold lsB at gb gbG
  refine callL_run func129 rfl rfl ?_
  have hsp := @Nat.succ_ne_zero; repeat' (first | simp (disch := first | exact dschL20 | fail) only [go_sem, ↓reduceIte, hsp, ga, lc, hlc, mk, gbG, hlx] | refine WP_drw ?_ | refine cnd_intro (fun hsp => ?_) fun hsp => ?_)
  refine WP_count [(7, 7), (17, 30)] 0 os.length (Nat.zero_le _) (fun _ i fr H => fr 17 = .int .i64 (i : Int) ∧ H = h ++ [srB (cntK os p L.C.length i) 3 0]) ?_ ?_ ?_
  · exact ⟨by (simp (disch := first | exact dschL20 | fail) only [go_sem, ↓reduceIte, Int.natCast_zero]; first | done | rfl), eG⟩
  · rintro i fr H hi0 hi hA2 ⟨r17, eH⟩
    have q0 := hA2 0 rfl
    have q4 := hA2 4 rfl
    have q5 := hA2 5 rfl
    have q15 := hA2 15 rfl
    have q16 := hA2 16 rfl
    try simp (disch := first | exact dschL20 | fail) only [go_sem, ↓reduceIte] at q0 q4 q5 q15 q16
    have hlt : ((i : Int) < (os.length : Int)) = True := eq_true (by omega)
    obtain ⟨o, eo⟩ : ∃ o, o = os[i] := ⟨_, rfl⟩
    have hoi : os[i]? = some o := by rw [eo]; exact List.getElem?_eq_getElem hi
    have hoo := ho o (List.mem_of_getElem? hoi)
    have xH : Ext h H := by rw [eH]; exact .app .refl
    have gH : H[h.length]? = some (srB (cntK os p L.C.length i) 3 0) := by rw [eH]; exact get_eq rfl
    obtain ⟨ea, w, ad, ld, ow⟩ := hA.at (by omega) hoi
    have ld0 := ld H xH
    have oww := ow.one
    have iw := ownE_ints (ow.ext xH) (ord_small hoo (by omega))
    have hpo : p < o.length := by rw [hoo.1]; exact hp
    have ap := adrI (i := (p : Int)) (by omega) iw (by omega)
    rw [Int.toNat_natCast] at ap
    have lp := loadI iw hpo
    have hr := hoo.2.1 _ (getD_mem hpo)
    obtain ⟨c, ec⟩ := Int.eq_ofNat_of_zero_le hr.1
    rw [ec] at lp
    have hcn : c < L.C.length := by omega
    have hcl := cntK_len (os := os) (p := p) (n := L.C.length) (i := i)
    have hbd := cntK_bd (os := os) (p := p) (i := i) hcn
    have ac : indexAddrA prog 25 (.slice (some ⟨h.length, 0, 0⟩) L.C.length L.C.length) (.int .i64 (c : Int)) = some (.ptr (some ⟨h.length, 0, c⟩)) := by
      rw [adr_sl Fc.el25 Fc.ar25 (by omega) (by omega), Int.toNat_natCast, Nat.mul_one, Nat.zero_add]
    obtain ⟨m, em⟩ : ∃ m, m = (cntK os p L.C.length i).getD c 0 := ⟨_, rfl⟩
    have d1 : loadP prog H 3 (.ptr (some ⟨h.length, 0, c⟩)) = some (.int .i64 m) := by
      rw [load_eq, Fc.ty3, gH, em]; exact ldB_ints (by omega)
    have hst : ∀ {F : ABlk → Heap}, stQ base h.length (some (srB (cntK os p L.C.length i) 3 0)) 0 c [.int .i64 (m + 1)] F = some (F (srB (cntK os p L.C.length (i + 1)) 3 0)) := fun {F} => by
      rw [stQ_ints (by omega), em, cntK_step hoi ec hcn]
    have hst2 : ∀ {F : ABlk → Heap}, stQ h.length h.length (some (srB (cntK os p L.C.length i) 3 0)) 0 c [.int .i64 (m + 1)] F = some (F (srB (cntK os p L.C.length (i + 1)) 3 0)) := fun {F} => by
      rw [stQ_ints (by omega), em, cntK_step hoi ec hcn]
    have hset : H.set h.length (srB (cntK os p L.C.length (i + 1)) 3 0) = h ++ [srB (cntK os p L.C.length (i + 1)) 3 0] := by
      rw [eH, List.set_append_right _ _ (Nat.le_refl _), Nat.sub_self]; rfl
    have hmb : 0 ≤ m ∧ m ≤ 823543 := by omega
    have hsp := @Nat.succ_ne_zero; repeat' (first | simp (disch := first | exact dschL20 | fail) only [go_sem, ↓reduceIte, hsp, r17, q0, q4, q5, q15, q16, hlt, ad, ld0, ap, lp, ac, d1, gH, hst2] | refine WP_drw ?_ | refine cnd_intro (fun hsp => ?_) fun hsp => ?_)
    exact ⟨by (repeat first | exact Agree.refl | assumption | refine Agree.put rfl ?_ | refine Agree.put0 ?_ | refine Agree.sub rfl (by assumption) ?_), by omega, hset⟩
  · rintro fr H hA2 ⟨r17, eH⟩
    have q0 := hA2 0 rfl
    have q4 := hA2 4 rfl
    have q5 := hA2 5 rfl
    have q15 := hA2 15 rfl
    have q16 := hA2 16 rfl
    try simp (disch := first | exact dschL20 | fail) only [go_sem, ↓reduceIte] at q0 q4 q5 q15 q16
    have hlt : ((os.length : Int) < (os.length : Int)) = False := eq_false (by omega)
    have gH : H[h.length]? = some (srB (cntK os p L.C.length os.length) 3 0) := by rw [eH]; exact get_eq rfl
    have hs : Small (cntK os p L.C.length os.length) := ⟨by rw [cntK_len]; omega, fun y hy => by
      obtain ⟨k, hk, e⟩ := List.mem_iff_getElem.1 hy
      rw [cntK_len] at hk
      have := cntK_bd (os := os) (p := p) (i := os.length) hk
      rw [getD_at (by rw [cntK_len]; exact hk), e] at this
      omega⟩
    have hI : Ints H (.slice (some ⟨h.length, 0, 0⟩) L.C.length L.C.length) (cntK os p L.C.length os.length) := by
      rw [eH]; exact slice_row rfl (by rw [cntK_len]) hs
    have hgr := fun base => run_greatest (base := base) hI
    rw [cntK_all] at hgr
    have hsp := @Nat.succ_ne_zero; repeat' (first | simp (disch := first | exact dschL20 | fail) only [go_sem, ↓reduceIte, hsp, r17, q0, q4, q5, q15, q16, hlt, hgr] | refine WP_drw ?_ | refine cnd_intro (fun hsp => ?_) fun hsp => ?_)
    exact fI rfl (by rw [eH]; exact .app .refl)
def askE (L : Lac) : Int × Int × Int := if (fndE L).2 = 0 then ((askN L.C.length (fnd L) L.C.length).1, (askN L.C.length (fnd L) L.C.length).2, 0) else (0, 0, (fndE L).2)
end Go.AM
/-
  Contracts: Ask.
-/
namespace Go.AM
open Go.Proofs.Try
theorem dschL21 {p : Prop} (h : p := by first | exact Nat.ne_of_beq_eq_false rfl | assumption | (apply asOne; (first | exact One.int | exact One.bool | assumption | exact Ints.one (by assumption) | exact Rows.one (by assumption) | exact Own.one (by assumption) | exact One.lit ⟨rfl, rfl, rfl⟩)) | (apply asInts; (repeat first | assumption | exact ints_nil | apply Ints.app); done) | (apply asRows; (repeat first | assumption | exact Rows.nil | apply Rows.app); done) | (apply asScal; (first | apply allS1 | apply allS2 | apply allS3 | apply allS4) <;> (first | exact One.int | exact One.bool | assumption | exact Ints.one (by assumption) | exact Rows.one (by assumption) | exact Own.one (by assumption) | exact One.lit ⟨rfl, rfl, rfl⟩)) | exact litT rfl | exact litF rfl | omega | (simp only [List.length_append, List.length_cons, List.length_nil, List.length_set, List.length_reverse]; first | done | omega) | fail) : p := h
attribute [-go_sem] put_ne put_same
attribute [local go_sem ↓] put_if
theorem grt_le {l : List Int} {B : Int} (hB : 0 ≤ B) (h : ∀ x ∈ l, x ≤ B) : 0 ≤ grt l ∧ grt l ≤ B := by
  refine ⟨grt_ge.1, ?_⟩
  unfold grt
  rcases grt_is (l := l) (a := 0) with q | q
  · omega
  · exact h _ q
theorem lvsN_bd {n : Nat} {os : List (List Int)} {p : Nat} (hl : os.length ≤ 823543) : 0 ≤ lvsN n os p ∧ lvsN n os p ≤ 1000000 := by
  unfold lvsN
  refine grt_le (by omega) fun x hx => ?_
  obtain ⟨k, hk, e⟩ := List.mem_iff_getElem.1 hx
  rw [lst_len] at hk
  have : (lst (fun k => ((os.countP fun o => decide (o.getD p 0 = (k : Int)) : Nat) : Int)) n).getD k 0 = x := by rw [getD_at (by rw [lst_len]; exact hk), e]
  rw [lst_get hk] at this
  have h2 : os.countP (fun o => decide (o.getD p 0 = (k : Int))) ≤ os.length := List.countP_le_length
  omega
abbrev lkB (g : AVal) : ABlk := ⟨.cells [g] 155 false false, 0⟩
set_option maxRecDepth 100000 in
set_option maxHeartbeats 2000000 in
theorem run_Ask {base : Nat} {h : Heap} {v : AVal} {L : Lac} (hL : LacAt h v L) :
    callL prog raw base (.fn 61 [] []) [v] h = some (.tuple [.int .i64 (askE L).1, .int .i64 (askE L).2.1, .int .i64 (askE L).2.2], h) := by
  have hL0 := hL
  obtain ⟨cv, rv, rfl, hC, hR⟩ := hL
  have o1 := hC.one
  have o2 := hR.one
  obtain ⟨G0, eG0⟩ : ∃ G0, G0 = h ++ [lacB L.T cv rv] := ⟨_, rfl⟩
  have x0 : Ext h G0 := by rw [eG0]; exact .app .refl
  have g0 : G0[h.length]? = some (lacB L.T cv rv) := by rw [eG0]; exact get_eq rfl
  have l0 : G0.length = h.length + 1 := by rw [eG0]; simp
  obtain ⟨w1, H1, e1, x1, a, x, rfl, oa, hA, hD⟩ := run_found (base := h.length) (h := G0) (by omega) (hL0.ext x0)
  have ox := hA.one
  have l1 := x1.len
  obtain ⟨H2, eH2⟩ : ∃ H2, H2 = H1 ++ [(⟨.cells [a] 132 false false, 0⟩ : ABlk)] := ⟨_, rfl⟩
  obtain ⟨H3, eH3⟩ : ∃ H3, H3 = H2 ++ [lsB x] := ⟨_, rfl⟩
  have x2 : Ext H1 H2 := by rw [eH2]; exact .app .refl
  have x3 : Ext H2 H3 := by rw [eH3]; exact .app .refl
  have l2 : H2.length = H1.length + 1 := by rw [eH2]; simp
  have l3 : H3.length = H1.length + 2 := by rw [eH3]; simp [l2]
  have ga : H3[H1.length]? = some ⟨.cells [a] 132 false false, 0⟩ := x3.get (by rw [eH2]; exact get_eq rfl)
  have gb : H3[H1.length + 1]? = some (lsB x) := by rw [eH3]; exact get_eq l2.symm
  have xh3 := ((x0.trans x1).trans x2).trans x3
  unfold lacB at eG0 g0
  have eH3' := eH3
  unfold lsB at eH3'
  refine callL_run func61 rfl rfl ?_
  by_cases c : (fndE L).2 = 0
  · obtain ⟨c1, c2, c3⟩ := fndE_ok c
    have kn := (chkL_iff.1 c1).n
    have r : askE L = ((askN L.C.length (fnd L) L.C.length).1, (askN L.C.length (fnd L) L.C.length).2, 0) := by unfold askE; rw [if_pos c]
    obtain ⟨id, rfl, hDk⟩ := hD c
    rw [r]
    rw [c3] at hA e1
    have hAI : AllI G0.length H1 x (fnd L) := hA.all
    have hfew := fnd_few (L := L) kn.2
    obtain ⟨H4, eH4⟩ : ∃ H4, H4 = H3 ++ [lkB (.fn 129 [] [.ptr (some ⟨H1.length, 0, 0⟩), .ptr (some ⟨H1.length + 1, 0, 0⟩)])] := ⟨_, rfl⟩
    have x4 : Ext H3 H4 := by rw [eH4]; exact .app .refl
    have l4 : H4.length = H1.length + 3 := by rw [eH4]; simp [l3]
    have g4 : H4[H3.length]? = some (lkB (.fn 129 [] [.ptr (some ⟨H1.length, 0, 0⟩), .ptr (some ⟨H1.length + 1, 0, 0⟩)])) := by rw [eH4]; exact get_eq rfl
    have ga4 := x4.get ga
    have gb4 := x4.get gb
    have x14 := (x2.trans x3).trans x4
    have hD4 := hDk.ext x14
    have hlv := fun base p (hp : p < L.C.length) => run_lvs (base := base) (p := p) ga4 gb4 hD4 kn (hAI.ext x14) hfew (fun o ho => fnd_ord ho) hp
    obtain ⟨cv', rv', hg, hC', -⟩ := hD4
    have lc := ld_cards hg
    have hlc := lenI hC'
    have hlb := fun p => lvsN_bd (n := L.C.length) (p := p) hfew
    unfold lkB at eH4 g4
    have hsp := @Nat.succ_ne_zero; repeat' (first | simp (disch := first | exact dschL21 | fail) only [go_sem, ↓reduceIte, hsp, ← eG0, g0, e1, eq_self, ← eH2, ← eH3', ga, gb, ← eH4, ga4, lc, hlc] | refine WP_drw ?_ | refine cnd_intro (fun hsp => ?_) fun hsp => ?_)
    obtain ⟨A, eA⟩ : ∃ A, A = askN L.C.length (fnd L) := ⟨_, rfl⟩
    rw [← eA]
    refine WP_count [(2, 3), (8, 9), (27, 43)] 0 L.C.length (Nat.zero_le _) (fun _ i fr H => fr 27 = .int .i64 (i : Int) ∧ H = H4 ∧ fr 2 = .int .i64 (A i).1 ∧ fr 3 = .int .i64 (A i).2) ?_ ?_ ?_
    · exact ⟨by (simp (disch := first | exact dschL21 | fail) only [go_sem, ↓reduceIte, Int.natCast_zero]; first | done | rfl), rfl, by rw [eA]; simp (disch := first | exact dschL21 | fail) only [go_sem, ↓reduceIte]; rfl, by rw [eA]; simp (disch := first | exact dschL21 | fail) only [go_sem, ↓reduceIte]; rfl⟩
    · rintro i fr H hi0 hi hA2 ⟨r27, rfl, r2, r3⟩
      have q4 := hA2 4 rfl
      have q7 := hA2 7 rfl
      have q26 := hA2 26 rfl
      try simp (disch := first | exact dschL21 | fail) only [go_sem, ↓reduceIte] at q4 q7 q26
      have hlt : ((i : Int) < (L.C.length : Int)) = True := eq_true (by omega)
      have hlv0 := fun base => hlv base i hi
      obtain ⟨m, em⟩ : ∃ m, m = lvsN L.C.length (fnd L) i := ⟨_, rfl⟩
      rw [← em] at hlv0
      have hs : A (i + 1) = if i = 0 ∨ m < (A i).2 then ((i : Int), m) else A i := by rw [eA, askN, em]
      by_cases q1 : i = 0
      · have t1 : ((i : Int) = 0) = True := eq_true (by omega)
        rw [if_pos (.inl q1)] at hs
        have hsp := @Nat.succ_ne_zero; repeat' (first | simp (disch := first | exact dschL21 | fail) only [go_sem, ↓reduceIte, hsp, r27, r2, r3, q4, q7, q26, hlt, g4, hlv0, t1] | refine WP_drw ?_ | refine cnd_intro (fun hsp => ?_) fun hsp => ?_)
        exact ⟨by (repeat first | exact Agree.refl | assumption | refine Agree.put rfl ?_ | refine Agree.put0 ?_ | refine Agree.sub rfl (by assumption) ?_), by omega, by rw [hs], by rw [hs]⟩
      · have t1 : ((i : Int) = 0) = False := eq_false (by omega)
        by_cases q2 : m < (A i).2
        · have t2 : (m < (A i).2) = True := eq_true q2
          rw [if_pos (.inr q2)] at hs
          have hsp := @Nat.succ_ne_zero; repeat' (first | simp (disch := first | exact dschL21 | fail) only [go_sem, ↓reduceIte, hsp, r27, r2, r3, q4, q7, q26, hlt, g4, hlv0, t1, t2] | refine WP_drw ?_ | refine cnd_intro (fun hsp => ?_) fun hsp => ?_)
          exact ⟨by (repeat first | exact Agree.refl | assumption | refine Agree.put rfl ?_ | refine Agree.put0 ?_ | refine Agree.sub rfl (by assumption) ?_), by omega, by rw [hs], by rw [hs]⟩
        · have t2 : (m < (A i).2) = False := eq_false q2
          rw [if_neg (fun z => z.elim q1 q2)] at hs
          have hsp := @Nat.succ_ne_zero; repeat' (first | simp (disch := first | exact dschL21 | fail) only [go_sem, ↓reduceIte, hsp, r27, r2, r3, q4, q7, q26, hlt, g4, hlv0, t1, t2] | refine WP_drw ?_ | refine cnd_intro (fun hsp => ?_) fun hsp => ?_)
          exact ⟨by (repeat first | exact Agree.refl | assumption | refine Agree.put rfl ?_ | refine Agree.put0 ?_ | refine Agree.sub rfl (by assumption) ?_), by omega, by rw [hs], by rw [hs]⟩
    · rintro fr H hA2 ⟨r27, rfl, r2, r3⟩
      have q4 := hA2 4 rfl
      have q7 := hA2 7 rfl
      have q26 := hA2 26 rfl
      try simp (disch := first | exact dschL21 | fail) only [go_sem, ↓reduceIte] at q4 q7 q26
      have hlt : ((L.C.length : Int) < (L.C.length : Int)) = False := eq_false (by omega)
      have hsp := @Nat.succ_ne_zero; repeat' (first | simp (disch := first | exact dschL21 | fail) only [go_sem, ↓reduceIte, hsp, r27, r2, r3, q4, q7, q26, hlt] | refine WP_drw ?_ | refine cnd_intro (fun hsp => ?_) fun hsp => ?_)
      exact fIII rfl rfl rfl (xh3.trans x4)
  · have t0 : ((fndE L).2 = 0) = False := eq_false c
    have r : askE L = (0, 0, (fndE L).2) := by unfold askE; rw [if_neg c]
    rw [r]
    have hsp := @Nat.succ_ne_zero; repeat' (first | simp (disch := first | exact dschL21 | fail) only [go_sem, ↓reduceIte, hsp, ← eG0, g0, e1, t0, ← eH2, ← eH3'] | refine WP_drw ?_ | refine cnd_intro (fun hsp => ?_) fun hsp => ?_)
    exact fIII rfl rfl rfl xh3
end Go.AM
/-
  Contracts: the chain of the examples, and what the chapter says of it (awake).
-/
namespace Go.AM
open Go.Proofs.Try
theorem dschL22 {p : Prop} (h : p := by first | exact Nat.ne_of_beq_eq_false rfl | assumption | (apply asOne; (first | exact One.int | exact One.bool | assumption | exact Ints.one (by assumption) | exact Rows.one (by assumption) | exact Own.one (by assumption) | exact One.lit ⟨rfl, rfl, rfl⟩)) | (apply asInts; (repeat first | assumption | exact ints_nil | apply Ints.app); done) | (apply asRows; (repeat first | assumption | exact Rows.nil | apply Rows.app); done) | (apply asScal; (first | apply allS1 | apply allS2 | apply allS3 | apply allS4) <;> (first | exact One.int | exact One.bool | assumption | exact Ints.one (by assumption) | exact Rows.one (by assumption) | exact Own.one (by assumption) | exact One.lit ⟨rfl, rfl, rfl⟩)) | exact litT rfl | exact litF rfl | omega | (simp only [List.length_append, List.length_cons, List.length_nil, List.length_set, List.length_reverse]; first | done | omega) | fail) : p := h
attribute [-go_sem] put_ne put_same
attribute [local go_sem ↓] put_if
def rws4 : List Rw3 := [(0, 1, 1), (5, 6, 0), (2, 4, 4), (3, 4, 4)]
def lac4 (r : Nat) : Lac := ⟨3, [1, 2, 3, 4], rws4.take r⟩
theorem bs4 {lit : Bool} {H : Heap} {a b c d : Int} : lit = false → bsA prog lit H 25 4 [(0, .int .i64 a), (1, .int .i64 b), (2, .int .i64 c), (3, .int .i64 d)] = some (.slice (some ⟨H.length, 0, 0⟩) 4 4, H ++ [rowB [a, b, c, d] 0]) := by
  intro hl; subst hl; simp [bsA, rowOf, Fc.el25, fillA, repCells, AVal.isN, AVal.cells, splice, rowB, ints]
theorem bs3 {lit : Bool} {H : Heap} {a b c : Int} : lit = false → bsA prog lit H 25 3 [(0, .int .i64 a), (1, .int .i64 b), (2, .int .i64 c)] = some (.slice (some ⟨H.length, 0, 0⟩) 3 3, H ++ [rowB [a, b, c] 0]) := by
  intro hl; subst hl; simp [bsA, rowOf, Fc.el25, fillA, repCells, AVal.isN, AVal.cells, splice, rowB, ints]
theorem bs5 {lit : Bool} {H : Heap} {a b c d e : Int} : lit = false → bsA prog lit H 25 5 [(0, .int .i64 a), (1, .int .i64 b), (2, .int .i64 c), (3, .int .i64 d), (4, .int .i64 e)] = some (.slice (some ⟨H.length, 0, 0⟩) 5 5, H ++ [rowB [a, b, c, d, e] 0]) := by
  intro hl; subst hl; simp [bsA, rowOf, Fc.el25, fillA, repCells, AVal.isN, AVal.cells, splice, rowB, ints]
theorem bsR4 {lit : Bool} {H : Heap} : bsA prog lit H 42 4 [(0, .agg [.int .i64 0, .int .i64 1, .int .i64 1]), (1, .agg [.int .i64 5, .int .i64 6, .int .i64 0]), (2, .agg [.int .i64 2, .int .i64 4, .int .i64 4]), (3, .agg [.int .i64 3, .int .i64 4, .int .i64 4])] = some (.slice (some ⟨H.length, 0, 0⟩) 4 4, H ++ [rowE encR 70 rws4 0]) := by
  simp [bsA, rowOf, Fc.el42, fillA, repCells, AVal.isN, AVal.cells, splice, rowE, flat, encR, rws4]
theorem bsM2 {lit : Bool} {H : Heap} : bsA prog lit H 33 2 [(0, .agg [.int .i64 1, .int .i64 0]), (1, .agg [.int .i64 3, .int .i64 1])] = some (.slice (some ⟨H.length, 0, 0⟩) 2 2, H ++ [rowE encM 36 [(1, 0), (3, 1)] 0]) := by
  simp [bsA, rowOf, Fc.el33, fillA, repCells, AVal.isN, AVal.cells, splice, rowE, flat, encM]
theorem run_Four {base r : Nat} {h : Heap} (hb : base ≤ h.length) (hr : r ≤ 4) : Ret prog raw base (.fn 95 [] []) [.int .i64 (r : Int)] h (fun w H => Ext h H ∧ LacAt H w (lac4 r)) := by
  obtain ⟨H1, e1⟩ : ∃ H1, H1 = h ++ [lacB 0 (.slice none 0 0) (.slice none 0 0)] := ⟨_, rfl⟩
  obtain ⟨H2, e2⟩ : ∃ H2, H2 = H1 ++ [rowE encR 70 rws4 0] := ⟨_, rfl⟩
  obtain ⟨H3, e3⟩ : ∃ H3, H3 = H2 ++ [rowB [1, 2, 3, 4] 0] := ⟨_, rfl⟩
  have l1 : H1.length = h.length + 1 := by rw [e1]; simp
  have l2 : H2.length = h.length + 2 := by rw [e2]; simp [l1]
  have l3 : H3.length = h.length + 3 := by rw [e3]; simp [l2]
  have x1 : Ext h H1 := by rw [e1]; exact .app .refl
  have x2 : Ext H1 H2 := by rw [e2]; exact .app .refl
  have x3 : Ext H2 H3 := by rw [e3]; exact .app .refl
  have g1 : H3[h.length]? = some (lacB 0 (.slice none 0 0) (.slice none 0 0)) := x3.get (x2.get (by rw [e1]; exact get_eq rfl))
  have g2 : H3[H1.length]? = some (rowE encR 70 rws4 0) := x3.get (by rw [e2]; exact get_eq rfl)
  have g3 : H3[H2.length]? = some (rowB [1, 2, 3, 4] 0) := by rw [e3]; exact get_eq rfl
  have ln : ∀ {H : Heap}, lenOpA prog H 42 (.slice (some ⟨H1.length, 0, 0⟩) 4 4) = some (.int .i64 4) := fun {H} => by simp [lenOpA, Fc.el42, lenA]
  have mn : min (r : Int) 4 = (r : Int) := by omega
  have mx : max 0 (r : Int) = (r : Int) := by omega
  have sl : sliceA prog 42 (.slice (some ⟨H1.length, 0, 0⟩) 4 4) none (some (.int .i64 (r : Int))) none = some (.slice (some ⟨H1.length, 0, 0⟩) r 4) := by
    simp only [sliceA, Fc.ar42, Fc.el42, optB, boundI (show (0 : Int) ≤ (r : Int) by omega) (show (r : Int) ≤ ((4 : Nat) : Int) by omega)]
    simp [ARef.add]
  have hfin : Ext h (H3.set h.length (lacB 3 (.slice (some ⟨H2.length, 0, 0⟩) 4 4) (.slice (some ⟨H1.length, 0, 0⟩) r 4))) ∧ LacAt (H3.set h.length (lacB 3 (.slice (some ⟨H2.length, 0, 0⟩) 4 4) (.slice (some ⟨H1.length, 0, 0⟩) r 4))) (.agg [.int .i64 3, .slice (some ⟨H2.length, 0, 0⟩) 4 4, .slice (some ⟨H1.length, 0, 0⟩) r 4]) (lac4 r) := by
    refine ⟨((x1.trans x2).trans x3).set (Nat.le_refl _), _, _, rfl, ?_, ?_⟩
    · refine ⟨⟨by show ([1, 2, 3, 4] : List Int).length < 2 ^ 60; decide, by show ∀ x ∈ ([1, 2, 3, 4] : List Int), _; decide⟩, .inr (.inr ⟨⟨H2.length, 0, 0⟩, 4, ints [1, 2, 3, 4], 3, true, false, rfl, ?_, rfl, by show 0 + ([1, 2, 3, 4] : List Int).length ≤ 4; decide, by show ([1, 2, 3, 4] : List Int).length ≤ 4; decide⟩)⟩
      rw [List.getElem?_set_ne (by show h.length ≠ H2.length; omega)]; exact g3
    · have hlen : (rws4.take r).length = r := by rw [List.length_take]; exact Nat.min_eq_left hr
      refine ⟨by show (rws4.take r).length < _; omega, .inr (.inr ⟨⟨H1.length, 0, 0⟩, 4, flat encR rws4, 70, true, false, by show _ = AVal.slice _ (rws4.take r).length _; rw [hlen], ?_, ?_, ?_, by show (rws4.take r).length ≤ 4; omega⟩)⟩
      · rw [List.getElem?_set_ne (by show h.length ≠ H1.length; omega)]; exact g2
      · show ((flat encR rws4).drop 0).take ((rws4.take r).length * 3) = flat encR (rws4.take r)
        rw [hlen]
        have : r = 0 ∨ r = 1 ∨ r = 2 ∨ r = 3 ∨ r = 4 := by omega
        rcases this with rfl | rfl | rfl | rfl | rfl <;> rfl
      · show 0 + (rws4.take r).length * 3 ≤ 12
        omega
  unfold lacB at e1 g1 hfin
  refine ret_raw func95 rfl (by kernel_rfl) ?_
  have hsp := @Nat.succ_ne_zero; repeat' (first | simp (disch := first | exact dschL22 | fail) only [go_sem, ↓reduceIte, hsp, ← e1, bsR4, ← e2, bs4, ← e3, ln, mn, mx, sl, g1] | refine WP_drw ?_ | refine cnd_intro (fun hsp => ?_) fun hsp => ?_)
  exact hfin
theorem kw4 : kwnE (lac4 2) = ([2, 0, -1, -1], 0) := by kernel_rfl
theorem cn4 : cntE (lac4 2) = (2, 0) := by kernel_rfl
theorem as4 : askE (lac4 2) = (2, 1, 0) := by kernel_rfl
theorem gp4 : gpsE (lac4 4) [2, 3] = (1, 0) := by kernel_rfl
theorem ri5 : risE [2, 0, 3, 1, 4] = ([0, 2, 4], 0) := by kernel_rfl
theorem mk5 : makE [2, 0, 3, 1, 4] [(1, 0), (3, 1)] = ([0, 1, 2, 3, 4], 0) := by kernel_rfl
end Go.AM
/-
  What the chapter says of its examples (awake).
-/
namespace Go.AM
open Go.Proofs.Try
theorem dschL23 {p : Prop} (h : p := by first | exact Nat.ne_of_beq_eq_false rfl | assumption | (apply asOne; (first | exact One.int | exact One.bool | assumption | exact Ints.one (by assumption) | exact Rows.one (by assumption) | exact Own.one (by assumption) | exact One.lit ⟨rfl, rfl, rfl⟩)) | (apply asInts; (repeat first | assumption | exact ints_nil | apply Ints.app); done) | (apply asRows; (repeat first | assumption | exact Rows.nil | apply Rows.app); done) | (apply asScal; (first | apply allS1 | apply allS2 | apply allS3 | apply allS4) <;> (first | exact One.int | exact One.bool | assumption | exact Ints.one (by assumption) | exact Rows.one (by assumption) | exact Own.one (by assumption) | exact One.lit ⟨rfl, rfl, rfl⟩)) | exact litT rfl | exact litF rfl | omega | (simp only [List.length_append, List.length_cons, List.length_nil, List.length_set, List.length_reverse]; first | done | omega) | fail) : p := h
attribute [-go_sem] put_ne put_same
attribute [local go_sem ↓] put_if
theorem small5 : Small [2, 0, 3, 1, 4] := ⟨by decide, by decide⟩
set_option maxRecDepth 100000 in
set_option maxHeartbeats 4000000 in
theorem run_awake {base : Nat} {h : Heap} : callL prog raw base (.fn 28 [] []) [] h = some (.bool true, h) := by
  obtain ⟨b, eb⟩ : ∃ b, b = h.length := ⟨_, rfl⟩
  obtain ⟨v1, H1, e1, x1, c1⟩ := run_Four (base := h.length) (r := 2) (h := h) (Nat.le_refl _) (by omega)
  have n1 := x1.len
  obtain ⟨_, H2, e2, x2, k1, rfl, o2⟩ := run_Known (base := h.length) (h := H1) (by omega) c1
  rw [kw4] at e2 o2
  have n2 := x2.len
  obtain ⟨v3, H3, e3, x3, c3⟩ := run_Four (base := h.length) (r := 2) (h := H2) (by omega) (by omega)
  have n3 := x3.len
  have e4 := run_Count (base := h.length) c3
  rw [cn4] at e4
  obtain ⟨v5, H5, e5, x5, c5⟩ := run_Four (base := h.length) (r := 2) (h := H3) (by omega) (by omega)
  have n5 := x5.len
  have e6 := run_Ask (base := h.length) c5
  rw [as4] at e6
  obtain ⟨v7, H7, e7, x7, c7⟩ := run_Four (base := h.length) (r := 4) (h := H5) (by omega) (by omega)
  have n7 := x7.len
  obtain ⟨H8, eH8⟩ : ∃ H8, H8 = H7 ++ [rowB [2, 3] 0] := ⟨_, rfl⟩
  have x8 : Ext H7 H8 := by rw [eH8]; exact .app .refl
  have n8 := x8.len
  have e8 := run_Gapes (base := h.length) (gap := [2, 3]) (gv := .slice (some ⟨H7.length, 0, 0⟩) 2 2) (c7.ext x8) (by rw [eH8]; exact slice_row rfl rfl ⟨by decide, by decide⟩)
  rw [gp4] at e8
  obtain ⟨H9, eH9⟩ : ∃ H9, H9 = H8 ++ [rowB [2, 0, 3, 1, 4] 0] := ⟨_, rfl⟩
  have x9 : Ext H8 H9 := by rw [eH9]; exact .app .refl
  have n9 := x9.len
  obtain ⟨_, H10, e10, x10, k2, rfl, o10⟩ := run_Rise (base := h.length) (h := H9) (v := .slice (some ⟨H8.length, 0, 0⟩) 5 5) (o := [2, 0, 3, 1, 4]) (by omega) (by rw [eH9]; exact slice_row rfl rfl small5)
  rw [ri5] at e10 o10
  have n10 := x10.len
  obtain ⟨H11, eH11⟩ : ∃ H11, H11 = H10 ++ [rowB [2, 0, 3, 1, 4] 0] := ⟨_, rfl⟩
  have x11 : Ext H10 H11 := by rw [eH11]; exact .app .refl
  have n11 := x11.len
  obtain ⟨H12, eH12⟩ : ∃ H12, H12 = H11 ++ [rowE encM 36 [(1, 0), (3, 1)] 0] := ⟨_, rfl⟩
  have x12 : Ext H11 H12 := by rw [eH12]; exact .app .refl
  have n12 := x12.len
  obtain ⟨_, H13, e13, x13, k3, rfl, o13⟩ := run_Make (base := h.length) (h := H12) (v := .slice (some ⟨H10.length, 0, 0⟩) 5 5) (mv := .slice (some ⟨H11.length, 0, 0⟩) 2 2) (o := [2, 0, 3, 1, 4]) (ms := [(1, 0), (3, 1)]) (by omega)
    (Ints.ext (by rw [eH11]; exact slice_row rfl rfl small5) x12) (Rows.own (by rw [eH12]; exact get_eq rfl) rfl (by decide)) (by decide)
  rw [mk5] at e13 o13
  have n13 := x13.len
  have ok1 := o2.one
  have ok2 := o10.one
  have ok3 := o13.one
  have i1 : Ints H2 k1 [2, 0, -1, -1] := ownE_ints o2 ⟨by decide, by decide⟩
  have i2 : Ints H10 k2 [0, 2, 4] := own_ints o10 ⟨by decide, by decide⟩
  have i3 : Ints H13 k3 [0, 1, 2, 3, 4] := ownE_ints o13 ⟨by decide, by decide⟩
  have y10 := (x11.trans x12).trans x13
  have y2 := (((((x3.trans x5).trans x7).trans x8).trans x9).trans x10).trans y10
  obtain ⟨K1, eK1⟩ : ∃ K1, K1 = H13 ++ [rowB [2, 0, -1, -1] 0] := ⟨_, rfl⟩
  have z1 : Ext H13 K1 := by rw [eK1]; exact .app .refl
  obtain ⟨K2, eK2⟩ : ∃ K2, K2 = K1 ++ [rowB [0, 2, 4] 0] := ⟨_, rfl⟩
  have z2 : Ext K1 K2 := by rw [eK2]; exact .app .refl
  obtain ⟨K3, eK3⟩ : ∃ K3, K3 = K2 ++ [rowB [0, 1, 2, 3, 4] 0] := ⟨_, rfl⟩
  have z3 : Ext K2 K3 := by rw [eK3]; exact .app .refl
  have q1 := run_eqI (base := h.length) (h := K1) (b := .slice (some ⟨H13.length, 0, 0⟩) 4 4) (m := [2, 0, -1, -1]) (i1.ext (y2.trans z1)) (by rw [eK1]; exact slice_row rfl rfl ⟨by decide, by decide⟩)
  have q2 := run_eqI (base := h.length) (h := K2) (b := .slice (some ⟨K1.length, 0, 0⟩) 3 3) (m := [0, 2, 4]) (i2.ext ((y10.trans z1).trans z2)) (by rw [eK2]; exact slice_row rfl rfl ⟨by decide, by decide⟩)
  have q3 := run_eqI (base := h.length) (h := K3) (b := .slice (some ⟨K2.length, 0, 0⟩) 5 5) (m := [0, 1, 2, 3, 4]) (i3.ext ((z1.trans z2).trans z3)) (by rw [eK3]; exact slice_row rfl rfl ⟨by decide, by decide⟩)
  rw [decide_eq_true rfl] at q1 q2 q3
  have xf : Ext h K3 := ((((x1.trans x2).trans y2).trans z1).trans z2).trans z3
  rw [show ((2 : Nat) : Int) = 2 from rfl] at e1 e3 e5
  rw [show ((4 : Nat) : Int) = 4 from rfl] at e7
  refine callL_run func28 rfl rfl ?_
  have hsp := @Nat.succ_ne_zero; repeat' (first | simp (disch := first | exact dschL23 | fail) only [go_sem, ↓reduceIte, hsp, e1, e2, e3, e4, e5, e6, e7, bs2, ← eH8, e8, bs5, ← eH9, e10, ← eH11, bsM2, ← eH12, e13, eq_self, decide_true, bs4, ← eK1, q1, bs3, ← eK2, q2, ← eK3, q3] | refine WP_drw ?_ | refine cnd_intro (fun hsp => ?_) fun hsp => ?_)
  exact fB rfl xf
end Go.AM
/-
  LaceRisen, walked: what comes ahead of its loops.
-/
namespace Go.AM
open Go.Proofs.Try
attribute [-go_sem] put_ne put_same
attribute [local go_sem ↓] put_if
/-- Two spools, a number from 1 to 7 and an order of so many cards; the other spool is as it was. -/
structure Risn (h H : Heap) (v0 v1 : AVal) (l0 l1 : List Int) (n : Nat) (w : AVal) (o : List Int) : Prop where
  bd : 1 ≤ n ∧ n ≤ 7
  ext : Ext h H
  own : OwnE encI 3 (h.length + 2) H w o
  ord : Ord n o
  len : h.length + 2 ≤ H.length
  q : SpAt H (h.length + 1) v1 l1 0
end Go.AM
/-
  Contracts: a chain that is made, with the order in which its cards really were laced (Made); rows of what is really seen (Rowed).
-/
namespace Go.AM
open Go.Proofs.Try
attribute [-go_sem] put_ne put_same
attribute [local go_sem ↓] put_if
/-- Cards that were made. -/
structure MadeOk (T : Int) (C : List Int) (N : Nat) : Prop where
  tb : 1 ≤ T ∧ T ≤ 8
  n : 1 ≤ C.length ∧ C.length ≤ N
  c : ∀ x ∈ C, 0 ≤ x ∧ x ≤ 2 ^ T.toNat - 1
  d : C.Nodup
end Go.AM
/-
  Contracts: rows of what is really seen (Rowed); what the statements out of numbers begin with.
-/
namespace Go.AM
open Go.Proofs.Try
attribute [-go_sem] put_ne put_same
attribute [local go_sem ↓] put_if
end Go.AM
/-
  What the statements out of numbers begin with; plain facts of what is found.
-/
namespace Go.AM
open Go.Proofs.Try
attribute [-go_sem] put_ne put_same
attribute [local go_sem ↓] put_if
/-- A chain that was made, in its box, with rows of what is really seen. -/
structure Strt (G H : Heap) (id : Nat) (v : AVal) (silk : List Int) (b : Nat) (T : Int) (C : List Int) (R : List Rw3) (o : List Int) (cv rv ov : AVal) (k N most : Nat) : Prop where
  sp : SpE G id v silk k H
  k : k ≤ 1000
  g : H[b]? = some (lacB T cv rv)
  b : G.length ≤ b ∧ b < H.length
  oC : OwnE encI 3 G.length H cv C
  oR : OwnE encR 70 G.length H rv R
  oO : OwnE encI 3 G.length H ov o
  made : MadeOk T C N
  ord : Ord C.length o
  seen : ∀ r ∈ R, SeenOk T C o r
  rl : R.length ≤ most
section
variable {G H : Heap} {id : Nat} {v : AVal} {silk : List Int} {b : Nat} {T : Int} {C : List Int} {R : List Rw3} {o : List Int} {cv rv ov : AVal} {k N most : Nat}
end
/-! ### What is found -/
end Go.AM
/-
  Plain: positions that decide, and looks.
-/
namespace Go.AM
section
variable {n : Nat} {os : List (List Int)} (hn : os.Nodup) (ho : ∀ o ∈ os, Ord n o)
include hn ho
end
/-! ### Rows of what is seen at a position, whole -/
def lookR (L : Lac) (p k : Nat) : Rw3 := ((p : Int), 2 ^ L.T.toNat - 1, L.C.getD k 0)
/-! ### The position that one look should be at -/
/-- The greatest number of the first cards. -/
def lvsK (os : List (List Int)) (p k : Nat) : Int := grt (lst (fun k => (os.countP fun o => decide (o.getD p 0 = (k : Int)) : Nat)) k)
theorem lvsK_all {n : Nat} {os : List (List Int)} {p : Nat} : lvsK os p n = lvsN n os p := rfl
end Go.AM
/-
  LaceSeen, walked.
-/
namespace Go.AM
open Go.Proofs.Try
attribute [-go_sem] put_ne put_same
attribute [local go_sem ↓] put_if
end Go.AM
/-
  LaceDecided, walked.
-/
namespace Go.AM
open Go.Proofs.Try
attribute [-go_sem] put_ne put_same
attribute [local go_sem ↓] put_if
end Go.AM
/-
  What is found of a chain with any rows; rings and gaps that are returned.
-/
namespace Go.AM
open Go.Proofs.Try
attribute [-go_sem] put_ne put_same
attribute [local go_sem ↓] put_if
theorem found_none {L : Lac} (hc : chkL L = 0) (h : fnd L = []) : frsE L = ([], 7) ∧ kwnE L = ([], 7) ∧ cntE L = (0, 0) ∧ rngE L = 7 ∧ gapE L = 0 := by
  have e : fndE L = ([], 7) := by unfold fndE; rw [if_neg (by simp [hc]), if_pos h]
  refine ⟨by unfold frsE; rw [e]; simp, by unfold kwnE; rw [e]; simp, by unfold cntE; rw [e]; simp, by unfold rngE; rw [e]; simp, ?_⟩
  unfold gapE
  rw [if_pos hc, if_neg (fun q => gap_none q h)]
theorem found_some {L : Lac} (hc : chkL L = 0) (h : fnd L ≠ []) : gapE L = 6 ∧ rngE L = if (fnd L).length = 1 then 6 else 0 := by
  have e : fndE L = (fnd L, 0) := by unfold fndE; rw [if_neg (by simp [hc]), if_neg h]
  refine ⟨?_, by unfold rngE; rw [e]; simp⟩
  unfold gapE
  rw [if_pos hc, if_pos]
  cases q : gapO L with
  | none => rfl
  | some l => exact absurd (gap_some q).2.2 h
/-- A ring leads to another order that explains the rows. -/
theorem ring_is {L : Lac} {l : List Int} (hc : chkL L = 0) (h : IsRing L l) : trdE L ((fnd L).headD []) l = (trnL ((fnd L).headD []) l, 0) ∧ trnL ((fnd L).headD []) l ∈ fnd L ∧ trnL ((fnd L).headD []) l ≠ (fnd L).headD [] ∧ Small l := by
  obtain ⟨o1, o2, a, r, f1, f2, ha, had, hr0, hrb, hrm, rfl⟩ := h
  have hd : (fnd L).headD [] = o1 := by
    cases q : fnd L with
    | nil => rw [q] at f1; simp at f1
    | cons x y => rw [q] at f1; simpa using f1
  have m1 := List.mem_of_getElem? f1
  have m2 := List.mem_of_getElem? f2
  have h1 := fnd_ord m1
  have h2 := fnd_ord m2
  rw [hd]
  have hn := (chkL_iff.1 hc).n
  have r2 := ring_two h1 h2 ha hr0 hrb hrm had
  have hr7 := itr_few h1 h2 ha hrm
  have hT := trnL_ord h1 h2 ha hr0 hrb hrm
  have hX := trnL_xpl h1 h2 ha hr0 hrb hrm rfl (fnd_mem.1 m1).2 (fnd_mem.1 m2).2
  have hin : ∀ x ∈ rngL o1 o2 a r, 0 ≤ x ∧ x < (L.C.length : Int) := fun x hx => by
    obtain ⟨i, hi, e⟩ := List.mem_iff_getElem.1 hx
    rw [rngL_len] at hi
    have := itr_lt h1 h2 ha i
    rw [← getD_at (d := 0) (by rw [rngL_len]; exact hi), rngL_at hi] at e
    omega
  have hlc : lcdE L o1 = 0 := by unfold lcdE; rw [if_pos hc]; exact ordL_iff.2 h1
  refine ⟨?_, fnd_mem.2 ⟨hT, hX⟩, trnL_ne h1 h2 ha hr0 hrb hrm had, ⟨by rw [rngL_len]; omega, fun x hx => by have := hin x hx; omega⟩⟩
  unfold trdE
  rw [if_neg (by simp [hlc]), if_neg (by rw [rngL_len]; omega), if_neg (fun q => q (List.all_eq_true.2 fun x hx => decide_eq_true (by have := hin x hx; omega))), if_neg (fun q => (of_decide_eq_true q) (ring_nodup h1 h2 ha hr0 hrb hrm)), if_pos]
  rw [xplD_iff.2 (fnd_mem.1 m1).2, h1.1, ← hT.1, xplD_iff.2 hX]; rfl
end Go.AM
