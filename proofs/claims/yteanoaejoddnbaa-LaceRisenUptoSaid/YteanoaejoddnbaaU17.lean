/-
  Contracts: as few piles as can be (Piles).
-/
import Derived.Test.YteanoaejoddnbaaU15
import Derived.Test.YteanoaejoddnbaaU16
import Derived.Test.YteanoaejoddnbaaU12
set_option linter.unusedSimpArgs false
set_option linter.unusedVariables false
namespace Go.AM
open Go.Proofs.Try
attribute [-go_sem] put_ne put_same
attribute [local go_sem ↓] put_if
/-- Piles in memory, each in a block of its own. -/
structure PilAt (b : Nat) (H : Heap) (u : AVal) (vs : List AVal) (ps : List (List Int)) : Prop where
  own : Own encZ 25 b H u vs
  len : vs.length = ps.length
  el : ∀ (i : Nat) x t, vs[i]? = some x → ps[i]? = some t → Own encI 3 b H x t
  apart : ∀ (i j : Nat) x y, i ≠ j → vs[i]? = some x → vs[j]? = some y → Asun x y
theorem PilAt.all {b : Nat} {H : Heap} {u : AVal} {vs : List AVal} {ps : List (List Int)} (x : PilAt b H u vs ps) : AllI b H u ps := ⟨vs, x.own, x.len, fun i y t h1 h2 => .inl ((x.el i y t h1 h2).low (Nat.zero_le _))⟩
theorem PilAt.ext {b : Nat} {H H' : Heap} {u : AVal} {vs : List AVal} {ps : List (List Int)} (x : PilAt b H u vs ps) (e : Ext H H') : PilAt b H' u vs ps := ⟨x.own.ext e, x.len, fun i y t h1 h2 => (x.el i y t h1 h2).ext e, x.apart⟩
/-- A card on a pile. -/
theorem PilAt.put {base b i : Nat} {H : Heap} {u w : AVal} {vs : List AVal} {ps : List (List Int)} {t : List Int} {p : Int} (x : PilAt b H u vs ps) (hb : base ≤ b) (hbh : b ≤ H.length) (hw : vs[i]? = some w) (ht : ps[i]? = some t) (hl : t.length ≤ 1000) :
    ∃ w' H2 id ver, One w' ∧ appendA prog base H 25 w (.vals [.int .i64 p]) = some (w', H2) ∧ u = .slice (some ⟨id, ver, 0⟩) vs.length vs.length ∧ H2[id]? = some (rowE encZ 25 vs ver) ∧ b ≤ id ∧ H.length ≤ H2.length ∧ (∀ G, G.length ≤ b → Ext G H → Ext G H2) ∧
      PilAt b (H2.set id (rowE encZ 25 (vs.set i w') ver)) u (vs.set i w') (ps.set i (t ++ [p])) := by
  have hi := (List.getElem?_eq_some_iff.1 hw).1
  have hO := x.el i w t hw ht
  have ea := app_sn1 (P := prog) (base := base) (y := p) (a := .int .i64 p) (t := 25) hO rfl rfl Fc.el25 encI_sc hb (by omega)
  obtain ⟨H2, eH2⟩ : ∃ H2, H2 = snH encI 3 H w t [p] := ⟨_, rfl⟩
  obtain ⟨w', ew'⟩ : ∃ w', w' = snV H w 1 := ⟨_, rfl⟩
  rw [← eH2, ← ew'] at ea
  have l2 : H.length ≤ H2.length := by rw [eH2]; exact snH_len
  have hu2 : Own encZ 25 b H2 u vs := by rw [eH2]; exact x.own.sn_oth (asun_ne hO x.own (by decide))
  have hw2 : Own encI 3 b H2 w' (t ++ [p]) := by rw [eH2, ew']; exact hO.sn (m := [p]) hbh (by simp)
  have ow' : One w' := by rw [ew']; exact snV_one
  obtain ⟨id, ver, eu, gu, hid⟩ := (Or.inl hu2 : OwnE encZ 25 b H2 u vs) |> fun z => OwnE.pos z (by omega)
  have lid := lt_of_get gu
  refine ⟨w', H2, id, ver, ow', ea, eu, gu, hid, l2, fun G hG e => by rw [eH2]; exact hO.sn_ext hG e, ?_, by rw [List.length_set, List.length_set]; exact x.len, fun j y s h1 h2 => ?_, fun j j' y y' hne h1 h2 => ?_⟩
  · exact .inr ⟨id, ver, by rw [List.length_set]; exact eu, List.getElem?_set_self lid, hid, by rw [List.length_set]; omega⟩
  · have key : Own encI 3 b H2 y s := by
      rw [List.getElem?_set] at h1 h2
      by_cases e : i = j
      · rw [if_pos e, if_pos (by omega)] at h1
        rw [if_pos e, if_pos (by have := x.len; omega)] at h2
        cases h1; cases h2; exact hw2
      · rw [if_neg e] at h1 h2
        rw [eH2]
        exact (x.el j y s h1 h2).sn_oth (x.apart i j w y e hw h1)
    exact key.setRow gu (by decide)
  · rw [List.getElem?_set] at h1 h2
    by_cases e : i = j
    · rw [if_pos e, if_pos (by omega)] at h1
      rw [if_neg (fun z => hne (e.symm.trans z))] at h2
      cases h1
      have hj := (List.getElem?_eq_some_iff.1 h2).1
      have oy := x.el j' y' _ h2 (List.getElem?_eq_getElem (by have := x.len; omega))
      rw [ew']
      exact oy.sn_asun (x.apart i j' w y' (fun z => hne (e.symm.trans z)) hw h2)
    · rw [if_neg e] at h1
      by_cases e2 : i = j'
      · rw [if_pos e2, if_pos (by omega)] at h2
        cases h2
        have oy := x.el j y _ h1 (List.getElem?_eq_getElem (by have := (List.getElem?_eq_some_iff.1 h1).1; have := x.len; omega))
        rw [ew']
        exact (oy.sn_asun (x.apart i j w y e hw h1)).symm
      · rw [if_neg e2] at h2
        exact x.apart j j' y y' hne h1 h2
end Go.AM
/-
  Contracts: Piles.
-/
namespace Go.AM
open Go.Proofs.Try
attribute [-go_sem] put_ne put_same
attribute [local go_sem ↓] put_if
def pilE (o : List Int) : List (List Int) × Int := if aloL o = 0 then (pilN o o.length, 0) else ([], aloL o)
theorem PilAt.snoc {base b : Nat} {H : Heap} {u : AVal} {vs : List AVal} {ps : List (List Int)} (x : PilAt b H u vs ps) (hb : base ≤ b) (hbh : b ≤ H.length) (hl : ps.length ≤ 1000) :
    ∃ z A u' H', (∀ {lit : Bool}, lit = true → bsA prog lit H 54 1 [(0, .slice none 0 0)] = some (z, A)) ∧ appendA prog base A 54 u z = some (u', H') ∧ One u' ∧ H.length ≤ H'.length ∧ (∀ G, G.length ≤ b → Ext G H → Ext G H') ∧ KeepO encZ 25 H H' ∧ PilAt b H' u' (vs ++ [.slice none 0 0]) (ps ++ [[]]) := by
  obtain ⟨z, A, h1, xA, u', H', h2, h3, h4, h5, h6, h7⟩ := snocZI (base := base) x.own (⟨rfl, rfl, rfl⟩ : One (.slice none 0 0)) hb hbh (by have := x.len; omega)
  have hlen := x.len
  refine ⟨z, A, u', H', h1, h2, h6, h4, h5, h7, h3, by simp [hlen], fun i y t g1 g2 => ?_, fun i j y y' hne g1 g2 => ?_⟩
  · by_cases hi : i < vs.length
    · rw [List.getElem?_append_left hi] at g1
      rw [List.getElem?_append_left (by omega)] at g2
      exact h7.own (x.el i y t g1 g2) (by decide)
    · rw [List.getElem?_append_right (by omega)] at g1
      rw [List.getElem?_append_right (by omega)] at g2
      have e0 : i - vs.length = 0 := by
        have := (List.getElem?_eq_some_iff.1 g1).1
        simp at this; omega
      rw [e0] at g1
      rw [show i - ps.length = 0 by omega] at g2
      cases g1; cases g2
      exact Own.nil
  · by_cases hi : i < vs.length
    · rw [List.getElem?_append_left hi] at g1
      by_cases hj : j < vs.length
      · rw [List.getElem?_append_left hj] at g2
        exact x.apart i j y y' hne g1 g2
      · rw [List.getElem?_append_right (by omega)] at g2
        have e0 : j - vs.length = 0 := by
          have := (List.getElem?_eq_some_iff.1 g2).1
          simp at this; omega
        rw [e0] at g2
        cases g2
        exact Asun.nil
    · rw [List.getElem?_append_right (by omega)] at g1
      have e0 : i - vs.length = 0 := by
        have := (List.getElem?_eq_some_iff.1 g1).1
        simp at this; omega
      rw [e0] at g1
      cases g1
      exact Asun.nil'
/-- The steps of a card on a pile, as the code takes them. -/
theorem put_facts {base b i : Nat} {H : Heap} {u w : AVal} {vs : List AVal} {ps : List (List Int)} {t : List Int} {p : Int} (x : PilAt b H u vs ps) (hb : base ≤ b) (hbh : b ≤ H.length) (hw : vs[i]? = some w) (ht : ps[i]? = some t) (hl : t.length ≤ 1000) (hps : ps.length ≤ 1000) :
    ∃ w' H2 H3 id ver, One w' ∧ u = .slice (some ⟨id, ver, 0⟩) vs.length vs.length ∧ loadP prog H 25 (.ptr (some ⟨id, ver, i⟩)) = some w ∧ appendA prog base H 25 w (.vals [.int .i64 p]) = some (w', H2) ∧ H2[id]? = some (rowE encZ 25 vs ver) ∧
      (∀ {F : ABlk → Heap}, stQ base id (some (rowE encZ 25 vs ver)) ver i [w'] F = some (F (rowE encZ 25 (vs.set i w') ver))) ∧ H2.set id (rowE encZ 25 (vs.set i w') ver) = H3 ∧ H.length ≤ H3.length ∧ (∀ G, G.length ≤ b → Ext G H → Ext G H3) ∧ PilAt b H3 u (vs.set i w') (ps.set i (t ++ [p])) := by
  have hi := (List.getElem?_eq_some_iff.1 hw).1
  have hlen := x.len
  obtain ⟨w', H2, id, ver, h1, h2, h3, h4, h5, h6, h7, h8⟩ := x.put (base := base) (p := p) hb hbh hw ht hl
  have ow := (x.el i w t hw ht).one
  refine ⟨w', H2, _, id, ver, h1, h3, ?_, h2, h4, fun {F} => ?_, rfl, by rw [List.length_set]; exact h6, fun G hG e => (h7 G hG e).set (by omega), h8⟩
  · have hR := x.own.rows (show vs.length < 2 ^ 60 by omega)
    have := hR.cell (P := prog) Fc.ty25 hw (o := 0) (a := w) (by simp only [encZ, norm_one ow]; rfl)
    rw [h3] at this
    simpa [elAdr, ARef.add, encZ] using this
  · have := stQ_rowE (base := base) (ver := ver) (e := 25) (id := id) (x := w') (K := F) hi (encZ_sc w') (by omega)
    have e1 : encZ.cells w' = [w'] := by simp only [encZ, norm_one h1]
    rw [e1, show i * encZ.z = i from Nat.mul_one i] at this
    exact this
end Go.AM
/-
  Contracts: Piles, walked.
-/
namespace Go.AM
open Go.Proofs.Try
theorem dschL30 {p : Prop} (h : p := by first | exact Nat.ne_of_beq_eq_false rfl | assumption | (apply asOne; (first | exact One.int | exact One.bool | assumption | exact Ints.one (by assumption) | exact Rows.one (by assumption) | exact Own.one (by assumption) | exact One.lit ⟨rfl, rfl, rfl⟩)) | (apply asInts; (repeat first | assumption | exact ints_nil | apply Ints.app); done) | (apply asRows; (repeat first | assumption | exact Rows.nil | apply Rows.app); done) | (apply asScal; (first | apply allS1 | apply allS2 | apply allS3 | apply allS4) <;> (first | exact One.int | exact One.bool | assumption | exact Ints.one (by assumption) | exact Rows.one (by assumption) | exact Own.one (by assumption) | exact One.lit ⟨rfl, rfl, rfl⟩)) | exact litT rfl | exact litF rfl | omega | (simp only [List.length_append, List.length_cons, List.length_nil, List.length_set, List.length_reverse]; first | done | omega) | fail) : p := h
attribute [-go_sem] put_ne put_same
attribute [local go_sem ↓] put_if
theorem few_flat : ∀ {ps : List (List Int)}, (∀ x ∈ ps, x ≠ []) → ps.length ≤ ps.flatten.length
  | [], _ => by simp
  | a :: l, hne => by
    have h1 := few_flat (ps := l) fun x hx => hne x (by simp [hx])
    have h2 := hne a (by simp)
    have h3 : 0 < a.length := by cases z : a with | nil => exact absurd z h2 | cons b c => simp
    simp only [List.flatten_cons, List.length_append, List.length_cons]
    omega
theorem idx_lt {α : Type} {p : α → Bool} {l : List α} (h : ¬ idx p l < 0) : ∃ i : Nat, idx p l = (i : Int) ∧ i < l.length := by
  obtain ⟨i, h1, ⟨h2, _⟩, _⟩ := idx_at (p := p) (l := l) (by omega)
  exact ⟨i, h1, h2⟩
set_option maxRecDepth 100000 in
set_option maxHeartbeats 4000000 in
theorem run_Piles {base : Nat} {h : Heap} {v : AVal} {o : List Int} (hb : base ≤ h.length) (hI : Ints h v o) :
    Ret prog raw base (.fn 68 [] []) [v] h (fun w H => Ext h H ∧ ∃ x vs, w = .tuple [x, .int .i64 (pilE o).2] ∧ PilAt h.length H x vs (pilE o).1) := by
  have ov := hI.one
  obtain ⟨G, eG⟩ : ∃ G, G = h ++ [(⟨.cells [v] 25 false false, 0⟩ : ABlk)] := ⟨_, rfl⟩
  have xG : Ext h G := by rw [eG]; exact .app .refl
  have gv : G[h.length]? = some ⟨.cells [v] 25 false false, 0⟩ := by rw [eG]; exact get_eq rfl
  have lG : G.length = h.length + 1 := by rw [eG]; simp
  have ha := fun base => run_alone (base := base) (hI.ext xG)
  by_cases c : aloL o = 0
  · obtain ⟨c1, c2, c3⟩ := aloL_iff.1 c
    rw [c] at ha
    have r : pilE o = (pilN o o.length, 0) := by unfold pilE; rw [if_pos c]
    rw [r]
    have hlo := lenI (hI.ext xG)
    have hdist : ∀ i j, i < j → j < o.length → o.getD i 0 ≠ o.getD j 0 := fun i j hij hj e => by
      have := ord_inj c3 (by omega) hj e; omega
    refine ret_raw func68 rfl (by kernel_rfl) ?_
    have hsp := @Nat.succ_ne_zero; repeat' (first | simp (disch := first | exact dschL30 | fail) only [go_sem, ↓reduceIte, hsp, ← eG, gv, ha, eq_self, hlo] | refine WP_drw ?_ | refine cnd_intro (fun hsp => ?_) fun hsp => ?_)
    refine WP_count [(5, 8), (16, 41)] 0 o.length (Nat.zero_le _) (fun _ p fr K => fr 16 = .int .i64 (p : Int) ∧ Ext G K ∧ ∃ u vs, fr 5 = u ∧ PilAt G.length K u vs (pilN o p)) ?_ ?_ ?_
    · exact ⟨by (simp (disch := first | exact dschL30 | fail) only [go_sem, ↓reduceIte, Int.natCast_zero]; first | done | rfl), .refl, .slice none 0 0, [], by simp (disch := first | exact dschL30 | fail) only [go_sem, ↓reduceIte], Own.nil, rfl, fun i x t q => by simp at q, fun i j x y _ q => by simp at q⟩
    · rintro p fr K hp0 hp hA ⟨r16, xK, u, vs, r5, hP⟩
      have q1 := hA 1 rfl
      have q2 := hA 2 rfl
      have q3 := hA 3 rfl
      have q14 := hA 14 rfl
      have q15 := hA 15 rfl
      try simp (disch := first | exact dschL30 | fail) only [go_sem, ↓reduceIte] at q1 q2 q3 q14 q15
      have hlt : ((p : Int) < (o.length : Int)) = True := eq_true (by omega)
      have hIK := hI.ext (xG.trans xK)
      have ap := adrI (i := (p : Int)) (by omega) hIK (by omega)
      rw [Int.toNat_natCast] at ap
      have lp := loadI hIK hp
      obtain ⟨k, ek⟩ : ∃ k, k = o.getD p 0 := ⟨_, rfl⟩
      rw [← ek] at lp
      have ou := hP.own.one
      have lK := xK.len
      obtain ⟨ps, eps⟩ : ∃ ps, ps = pilN o p := ⟨_, rfl⟩
      rw [← eps] at hP
      have hok := pilN_ok (o := o) hdist (n := p) (by omega)
      rw [← eps] at hok
      have hmem : ∀ x ∈ ps, ∀ y ∈ x, 0 ≤ y ∧ y < (p : Int) := fun x hx y hy => upto_mem.1 (hok.all.mem_iff.1 (List.mem_flatten.2 ⟨x, hx, hy⟩))
      have hxl : ∀ x ∈ ps, x.length ≤ p := fun x hx => by
        have h1 : x.Sublist ps.flatten := List.sublist_flatten_of_mem hx
        have h2 := h1.length_le
        rw [hok.all.length_eq, upto_len] at h2; exact h2
      have hpl : ps.length ≤ p := by
        have h1 := few_flat hok.ne
        rw [hok.all.length_eq, upto_len] at h1; exact h1
      obtain ⟨K1, eK1⟩ : ∃ K1, K1 = K ++ [nB k] := ⟨_, rfl⟩
      have x1 : Ext K K1 := by rw [eK1]; exact .app .refl
      have gk : K1[K.length]? = some (nB k) := by rw [eK1]; exact get_eq rfl
      have l1 : K1.length = K.length + 1 := by rw [eK1]; simp
      have gv1 := (xK.trans x1).get gv
      have hP1 := hP.ext x1
      have hix := idx_Z (base := base) (h := K1) (v := u) (g := .fn 135 [] [.ptr (some ⟨h.length, 0, 0⟩), .ptr (some ⟨K.length, 0, 0⟩)]) (ts := ps) (fun pile => decide (topV o pile > k)) (by omega) ⟨rfl, rfl, rfl⟩ hP1.all (by omega)
        (fun x t ht hx => run_pil1 gv1 gk (hI.ext ((xG.trans xK).trans x1)) (ownE_ints hx ⟨by have := hxl t ht; omega, fun y hy => by have := hmem t ht y hy; omega⟩) (hok.ne t ht) (fun y hy => by have := hmem t ht y hy; omega))
      obtain ⟨z, ez⟩ : ∃ z, z = idx (fun pile => decide (topV o pile > k)) ps := ⟨_, rfl⟩
      rw [← ez] at hix
      have hstep : pilN o (p + 1) = if z < 0 then ps ++ [[(p : Int)]] else ps.set z.toNat (ps.getD z.toNat [] ++ [(p : Int)]) := by
        rw [pilN, ← eps, pilS, pilI, ← ek, ← ez]
      unfold nB at eK1
      by_cases hz : z < 0
      · have t1 : (z < 0) = True := eq_true hz
        rw [if_pos hz] at hstep
        have hlu := hP1.all.len (by omega)
        obtain ⟨zz, A, u2, K2, b1, b2, b3, b4, b5, b6, hP2⟩ := hP1.snoc (base := base) (by omega) (by omega) (by omega)
        obtain ⟨w', K3, K4, id, ver, f1, f2, f3, f4, f5, f6, f7, f8, f9, f10⟩ := put_facts (base := base) (i := ps.length) (w := .slice none 0 0) (t := []) (p := (p : Int)) hP2 (by omega) (by omega) (by rw [List.getElem?_append_right (by have := hP1.len; omega), show ps.length - vs.length = 0 by have := hP1.len; omega]; rfl) (by simp) (by simp) (by simp; omega)
        have hps : (ps ++ [[]]).set ps.length ([] ++ [(p : Int)]) = ps ++ [[(p : Int)]] := by simp
        rw [hps, ← hstep] at f10
        have hvl : vs.length = ps.length := hP1.len
        subst f2
        have ai : indexAddrA prog 54 (.slice (some ⟨id, ver, 0⟩) (vs ++ [AVal.slice none 0 0]).length (vs ++ [AVal.slice none 0 0]).length) (.int .i64 (ps.length : Int)) = some (.ptr (some ⟨id, ver, ps.length⟩)) := by
          rw [adr_sl Fc.el54 Fc.ar54 (by omega) (by simp; omega), Int.toNat_natCast, Nat.mul_one, Nat.zero_add]
        have hsp := @Nat.succ_ne_zero; repeat' (first | simp (disch := first | exact dschL30 | fail) only [go_sem, ↓reduceIte, hsp, r16, r5, q1, q2, q3, q14, q15, hlt, ap, lp, ← eK1, hix, t1, hlu, b1, b2, ai, f3, f4, f5, f6, f7] | refine WP_drw ?_ | refine cnd_intro (fun hsp => ?_) fun hsp => ?_)
        exact ⟨by (repeat first | exact Agree.refl | assumption | refine Agree.put rfl ?_ | refine Agree.put0 ?_ | refine Agree.sub rfl (by assumption) ?_), by omega, f9 _ (Nat.le_refl _) (b5 _ (Nat.le_refl _) (xK.trans x1)), _, _, rfl, by simpa using f10⟩
      · have t1 : (z < 0) = False := eq_false hz
        rw [if_neg hz] at hstep
        obtain ⟨i, ei, hi⟩ := idx_lt (by rw [← ez]; exact hz)
        rw [← ez] at ei
        rw [ei] at hix t1 hstep
        rw [Int.toNat_natCast] at hstep
        have hvl : vs.length = ps.length := hP1.len
        have hti : ps[i]? = some (ps.getD i []) := getD_some hi
        obtain ⟨w', K3, K4, id, ver, f1, f2, f3, f4, f5, f6, f7, f8, f9, f10⟩ := put_facts (base := base) (i := i) (w := vs[i]) (t := ps.getD i []) (p := (p : Int)) hP1 (by omega) (by omega) (List.getElem?_eq_getElem (by omega)) hti (by have := hxl _ (List.mem_of_getElem? hti); omega) (by omega)
        rw [← hstep] at f10
        subst f2
        have ai : indexAddrA prog 54 (.slice (some ⟨id, ver, 0⟩) vs.length vs.length) (.int .i64 (i : Int)) = some (.ptr (some ⟨id, ver, i⟩)) := by
          rw [adr_sl Fc.el54 Fc.ar54 (by omega) (by omega), Int.toNat_natCast, Nat.mul_one, Nat.zero_add]
        have hsp := @Nat.succ_ne_zero; repeat' (first | simp (disch := first | exact dschL30 | fail) only [go_sem, ↓reduceIte, hsp, r16, r5, q1, q2, q3, q14, q15, hlt, ap, lp, ← eK1, hix, t1, ai, f3, f4, f5, f6, f7] | refine WP_drw ?_ | refine cnd_intro (fun hsp => ?_) fun hsp => ?_)
        exact ⟨by (repeat first | exact Agree.refl | assumption | refine Agree.put rfl ?_ | refine Agree.put0 ?_ | refine Agree.sub rfl (by assumption) ?_), by omega, f9 _ (Nat.le_refl _) (xK.trans x1), _, _, rfl, f10⟩
    · rintro fr K hA ⟨r16, xK, u, vs, r5, hP⟩
      have q1 := hA 1 rfl
      have q2 := hA 2 rfl
      have q3 := hA 3 rfl
      have q14 := hA 14 rfl
      have q15 := hA 15 rfl
      try simp (disch := first | exact dschL30 | fail) only [go_sem, ↓reduceIte] at q1 q2 q3 q14 q15
      have hlt : ((o.length : Int) < (o.length : Int)) = False := eq_false (by omega)
      have ou := hP.own.one
      have hsp := @Nat.succ_ne_zero; repeat' (first | simp (disch := first | exact dschL30 | fail) only [go_sem, ↓reduceIte, hsp, r16, r5, q1, q2, q3, q14, q15, hlt] | refine WP_drw ?_ | refine cnd_intro (fun hsp => ?_) fun hsp => ?_)
      exact ⟨xG.trans xK, _, vs, rfl, hP.own.low (by omega), hP.len, fun i x t h1 h2 => (hP.el i x t h1 h2).low (by omega), hP.apart⟩
  · have t1 : (aloL o = 0) = False := eq_false c
    have r : pilE o = ([], aloL o) := by unfold pilE; rw [if_neg c]
    rw [r]
    refine ret_raw func68 rfl (by kernel_rfl) ?_
    have hsp := @Nat.succ_ne_zero; repeat' (first | simp (disch := first | exact dschL30 | fail) only [go_sem, ↓reduceIte, hsp, ← eG, gv, ha, t1] | refine WP_drw ?_ | refine cnd_intro (fun hsp => ?_) fun hsp => ?_)
    exact ⟨xG, _, [], rfl, Own.nil, rfl, fun i x t q => by simp at q, fun i j x y _ q => by simp at q⟩
end Go.AM
/-
  Contracts: the number of piles, or the errors (Shows).
-/
namespace Go.AM
open Go.Proofs.Try
theorem dschL26 {p : Prop} (h : p := by first | exact Nat.ne_of_beq_eq_false rfl | assumption | (apply asOne; (first | exact One.int | exact One.bool | assumption | exact Ints.one (by assumption) | exact Rows.one (by assumption) | exact Own.one (by assumption) | exact One.lit ⟨rfl, rfl, rfl⟩)) | (apply asInts; (repeat first | assumption | exact ints_nil | apply Ints.app); done) | (apply asRows; (repeat first | assumption | exact Rows.nil | apply Rows.app); done) | (apply asScal; (first | apply allS1 | apply allS2 | apply allS3 | apply allS4) <;> (first | exact One.int | exact One.bool | assumption | exact Ints.one (by assumption) | exact Rows.one (by assumption) | exact Own.one (by assumption) | exact One.lit ⟨rfl, rfl, rfl⟩)) | exact litT rfl | exact litF rfl | omega | (simp only [List.length_append, List.length_cons, List.length_nil, List.length_set, List.length_reverse]; first | done | omega) | fail) : p := h
attribute [-go_sem] put_ne put_same
attribute [local go_sem ↓] put_if
def badAt (o pile : List Int) (i : Nat) : Bool :=
  !decide (0 ≤ pile.getD i 0 ∧ pile.getD i 0 ≤ (o.length : Int) - 1) || (decide (0 < i) && (decide (pile.getD i 0 ≤ pile.getD (i - 1) 0) || decide (o.getD (pile.getD i 0).toNat 0 ≥ o.getD (pile.getD (i - 1) 0).toNat 0)))
def pilB (o pile : List Int) : Bool := decide (pile ≠ []) && (List.range pile.length).all fun i => !badAt o pile i
theorem badAt_in {o pile : List Int} {i : Nat} (h : badAt o pile i = false) : 0 ≤ pile.getD i 0 ∧ pile.getD i 0 < (o.length : Int) := by
  unfold badAt at h
  rw [Bool.or_eq_false_iff] at h
  have := h.1
  simp only [Bool.not_eq_false', decide_eq_true_eq] at this
  omega
theorem pilB_bad {o pile : List Int} {i : Nat} (hi : i < pile.length) (h : badAt o pile i = true) : pilB o pile = false := by
  unfold pilB
  rw [show (List.range pile.length).all (fun i => !badAt o pile i) = false from all_no (x := i) (n := i) (List.getElem?_range hi) (by rw [h]; rfl), Bool.and_false]
theorem pilB_ok {o pile : List Int} (h0 : pile ≠ []) (h : ∀ i, i < pile.length → badAt o pile i = false) : pilB o pile = true := by
  unfold pilB
  rw [decide_eq_true h0, Bool.true_and, List.all_eq_true]
  intro i hi
  rw [h i (List.mem_range.1 hi)]; rfl
def shwE (o : List Int) (ps : List (List Int)) : Int × Int :=
  if aloL o ≠ 0 then (0, aloL o) else if ps.all (pilB o) = false then (0, 8) else if ps.flatten.length ≠ o.length ∨ twB ps.flatten = true then (0, 8) else ((ps.length : Int), 0)
set_option maxRecDepth 100000 in
set_option maxHeartbeats 4000000 in
theorem run_Shows {base bb : Nat} {h : Heap} {v pv : AVal} {o : List Int} {ps : List (List Int)} (hI : Ints h v o) (hP : AllI bb h pv ps) (hl : ps.length ≤ 1000) (hpl : ∀ p ∈ ps, p.length ≤ 1000 ∧ Small p) :
    callL prog raw base (.fn 69 [] []) [v, pv] h = some (.tuple [.int .i64 (shwE o ps).1, .int .i64 (shwE o ps).2], h) := by
  have ha := fun base => run_alone (base := base) hI
  have ov := hI.one
  have op := hP.one
  by_cases c : aloL o = 0
  · obtain ⟨c1, c2, c3⟩ := aloL_iff.1 c
    rw [c] at ha
    have hlo := lenI hI
    have hlp := hP.len (by omega)
    refine callL_run func69 rfl rfl ?_
    have hsp := @Nat.succ_ne_zero; repeat' (first | simp (disch := first | exact dschL26 | fail) only [go_sem, ↓reduceIte, hsp, ha, eq_self, hlp] | refine WP_drw ?_ | refine cnd_intro (fun hsp => ?_) fun hsp => ?_)
    refine WP_count [(4, 11), (19, 71)] 0 ps.length (Nat.zero_le _) (fun _ j fr K => fr 19 = .int .i64 (j : Int) ∧ Ext h K ∧ (ps.take j).all (pilB o) = true ∧ ∃ w, fr 7 = w ∧ Own encI 3 h.length K w (ps.take j).flatten ∧ (ps.take j).flatten.length ≤ j * 1000 ∧ Small (ps.take j).flatten) ?_ ?_ ?_
    · exact ⟨by (simp (disch := first | exact dschL26 | fail) only [go_sem, ↓reduceIte, Int.natCast_zero]; first | done | rfl), .refl, rfl, .slice none 0 0, by simp (disch := first | exact dschL26 | fail) only [go_sem, ↓reduceIte], Own.nil, by simp, ⟨by simp, fun x hx => by simp at hx⟩⟩
    · rintro j fr K hj0 hj hA ⟨r19, xK, hall, w, r7, hO, hfl, hfs⟩
      have q0 := hA 0 rfl
      have q1 := hA 1 rfl
      have q17 := hA 17 rfl
      have q18 := hA 18 rfl
      try simp (disch := first | exact dschL26 | fail) only [go_sem, ↓reduceIte] at q0 q1 q17 q18
      have hlt : ((j : Int) < (ps.length : Int)) = True := eq_true (by omega)
      obtain ⟨pl, epl⟩ : ∃ pl, pl = ps[j] := ⟨_, rfl⟩
      have hpj : ps[j]? = some pl := by rw [epl]; exact List.getElem?_eq_getElem hj
      obtain ⟨hp1, hps⟩ := hpl pl (List.mem_of_getElem? hpj)
      obtain ⟨a, z, ad, ld, oz⟩ := hP.at (by omega) hpj
      have ldK := ld K xK
      have iz := ownE_ints (oz.ext xK) hps
      have ozz := iz.one
      have ow := hO.one
      have hlz := lenI iz
      have hIK := hI.ext xK
      have hloK := lenI hIK
      have lK := xK.len
      have hfail : pilB o pl = false → shwE o ps = (0, 8) := fun q => by
        unfold shwE
        rw [if_neg (by simp [c]), if_pos (all_no hpj q)]
      have hsp := @Nat.succ_ne_zero; repeat' (first | simp (disch := first | exact dschL26 | fail) only [go_sem, ↓reduceIte, hsp, r19, r7, q0, q1, q17, q18, hlt, ad, ldK, hlz] | refine WP_drw ?_ | refine cnd_intro (fun hsp => ?_) fun hsp => ?_)
      refine WP_count [(4, 5), (10, 11), (25, 64)] 0 pl.length (Nat.zero_le _) (fun _ i fr K' => fr 25 = .int .i64 (i : Int) ∧ K' = K ∧ ∀ i', i' < i → badAt o pl i' = false) ?_ ?_ ?_
      · exact ⟨by (simp (disch := first | exact dschL26 | fail) only [go_sem, ↓reduceIte, Int.natCast_zero]; first | done | rfl), rfl, fun i' q => by omega⟩
      · rintro i fr2 K' hi0 hi hA2 ⟨r25, eK, hno⟩
        subst eK
        have d0 := hA2 0 rfl
        have d1 := hA2 1 rfl
        have d7 := hA2 7 rfl
        have d9 := hA2 9 rfl
        have d17 := hA2 17 rfl
        have d18 := hA2 18 rfl
        have d19 := hA2 19 rfl
        have d23 := hA2 23 rfl
        have d24 := hA2 24 rfl
        try simp (disch := first | exact dschL26 | fail) only [go_sem, ↓reduceIte, q0, q1, q17, q18] at d0 d1 d7 d9 d17 d18 d19 d23 d24
        have hlt2 : ((i : Int) < (pl.length : Int)) = True := eq_true (by omega)
        have ai := adrI (i := (i : Int)) (by omega) iz (by omega)
        rw [Int.toNat_natCast] at ai
        have li := loadI iz hi
        obtain ⟨p, ep⟩ : ∃ p, p = pl.getD i 0 := ⟨_, rfl⟩
        rw [← ep] at li
        have skip : badAt o pl i = false → ∀ i', i' < i + 1 → badAt o pl i' = false := fun z i' hi' => by
          by_cases e : i' = i
          · rw [e]; exact z
          · exact hno i' (by omega)
        have hend := fun z => hfail (pilB_bad hi z)
        by_cases q1 : 0 ≤ p ∧ p ≤ (o.length : Int) - 1
        · have t1 : decide (0 ≤ p ∧ p ≤ (o.length : Int) - 1) = true := decide_eq_true q1
          by_cases q2 : 0 < i
          · have t2 : ((i : Int) > 0) = True := eq_true (by omega)
            have t3 : ((i : Int) - 1) = ((i - 1 : Nat) : Int) := by omega
            have ai1 := adrI (i := ((i - 1 : Nat) : Int)) (by omega) iz (by omega)
            rw [Int.toNat_natCast] at ai1
            have li1 := loadI iz (i := i - 1) (by omega)
            have hpr := badAt_in (hno (i - 1) (by omega))
            obtain ⟨p1, ep1⟩ : ∃ p1, p1 = pl.getD (i - 1) 0 := ⟨_, rfl⟩
            rw [← ep1] at li1 hpr
            have hbad : badAt o pl i = (decide (p ≤ p1) || decide (o.getD p.toNat 0 ≥ o.getD p1.toNat 0)) := by
              unfold badAt
              rw [← ep, ← ep1, t1, decide_eq_true q2]; rfl
            have a1 := adrI (i := p) (by omega) hIK (by omega)
            have l1 := loadI hIK (i := p.toNat) (by omega)
            have a2 := adrI (i := p1) (by omega) hIK (by omega)
            have l2 := loadI hIK (i := p1.toNat) (by omega)
            by_cases q3 : p ≤ p1
            · have t4 : (p ≤ p1) = True := eq_true q3
              have hsp := @Nat.succ_ne_zero; repeat' (first | simp (disch := first | exact dschL26 | fail) only [go_sem, ↓reduceIte, hsp, r25, d0, d1, d7, d9, d17, d18, d19, d23, d24, q0, q1, q17, q18, hlt2, hloK, ai, li, t1, t2, t3, ai1, li1, t4] | refine WP_drw ?_ | refine cnd_intro (fun hsp => ?_) fun hsp => ?_)
              rw [hend (by rw [hbad, decide_eq_true q3]; rfl)]
              exact fII rfl rfl xK
            · have t4 : (p ≤ p1) = False := eq_false q3
              by_cases q4 : o.getD p.toNat 0 ≥ o.getD p1.toNat 0
              · have t5 : (o.getD p.toNat 0 ≥ o.getD p1.toNat 0) = True := eq_true q4
                have hsp := @Nat.succ_ne_zero; repeat' (first | simp (disch := first | exact dschL26 | fail) only [go_sem, ↓reduceIte, hsp, r25, d0, d1, d7, d9, d17, d18, d19, d23, d24, q0, q1, q17, q18, hlt2, hloK, ai, li, t1, t2, t3, ai1, li1, t4, a1, l1, a2, l2, t5] | refine WP_drw ?_ | refine cnd_intro (fun hsp => ?_) fun hsp => ?_)
                rw [hend (by rw [hbad, decide_eq_true q4, Bool.or_true])]
                exact fII rfl rfl xK
              · have t5 : (o.getD p.toNat 0 ≥ o.getD p1.toNat 0) = False := eq_false q4
                have hsp := @Nat.succ_ne_zero; repeat' (first | simp (disch := first | exact dschL26 | fail) only [go_sem, ↓reduceIte, hsp, r25, d0, d1, d7, d9, d17, d18, d19, d23, d24, q0, q1, q17, q18, hlt2, hloK, ai, li, t1, t2, t3, ai1, li1, t4, a1, l1, a2, l2, t5] | refine WP_drw ?_ | refine cnd_intro (fun hsp => ?_) fun hsp => ?_)
                exact ⟨by (repeat first | exact Agree.refl | assumption | refine Agree.put rfl ?_ | refine Agree.put0 ?_ | refine Agree.sub rfl (by assumption) ?_), by omega, skip (by rw [hbad, decide_eq_false q3, decide_eq_false q4]; rfl)⟩
          · have t2 : ((i : Int) > 0) = False := eq_false (by omega)
            have hsp := @Nat.succ_ne_zero; repeat' (first | simp (disch := first | exact dschL26 | fail) only [go_sem, ↓reduceIte, hsp, r25, d0, d1, d7, d9, d17, d18, d19, d23, d24, q0, q1, q17, q18, hlt2, hloK, ai, li, t1, t2] | refine WP_drw ?_ | refine cnd_intro (fun hsp => ?_) fun hsp => ?_)
            exact ⟨by (repeat first | exact Agree.refl | assumption | refine Agree.put rfl ?_ | refine Agree.put0 ?_ | refine Agree.sub rfl (by assumption) ?_), by omega, skip (by unfold badAt; rw [← ep, t1, decide_eq_false q2]; rfl)⟩
        · have t1 : decide (0 ≤ p ∧ p ≤ (o.length : Int) - 1) = false := decide_eq_false q1
          have hsp := @Nat.succ_ne_zero; repeat' (first | simp (disch := first | exact dschL26 | fail) only [go_sem, ↓reduceIte, hsp, r25, d0, d1, d7, d9, d17, d18, d19, d23, d24, q0, q1, q17, q18, hlt2, hloK, ai, li, t1] | refine WP_drw ?_ | refine cnd_intro (fun hsp => ?_) fun hsp => ?_)
          rw [hend (by unfold badAt; rw [← ep, t1]; rfl)]
          exact fII rfl rfl xK
      · rintro fr2 K' hA2 ⟨r25, eK, hno⟩
        subst eK
        have d0 := hA2 0 rfl
        have d1 := hA2 1 rfl
        have d7 := hA2 7 rfl
        have d9 := hA2 9 rfl
        have d17 := hA2 17 rfl
        have d18 := hA2 18 rfl
        have d19 := hA2 19 rfl
        have d23 := hA2 23 rfl
        have d24 := hA2 24 rfl
        try simp (disch := first | exact dschL26 | fail) only [go_sem, ↓reduceIte, q0, q1, q17, q18] at d0 d1 d7 d9 d17 d18 d19 d23 d24
        have hlt2 : ((pl.length : Int) < (pl.length : Int)) = False := eq_false (by omega)
        have d7 := hA2 7 rfl
        simp (disch := first | exact dschL26 | fail) only [go_sem, ↓reduceIte, r7] at d7
        have d19 := hA2 19 rfl
        simp (disch := first | exact dschL26 | fail) only [go_sem, ↓reduceIte, r19] at d19
        by_cases q1 : pl = []
        · have t1 : ((pl.length : Int) = 0) = True := eq_true (by rw [q1]; rfl)
          have hsp := @Nat.succ_ne_zero; repeat' (first | simp (disch := first | exact dschL26 | fail) only [go_sem, ↓reduceIte, hsp, r25, d7, d19, d0, d1, d7, d9, d17, d18, d19, d23, d24, q0, q1, q17, q18, hlt2, hlz, t1] | refine WP_drw ?_ | refine cnd_intro (fun hsp => ?_) fun hsp => ?_)
          rw [hfail (by unfold pilB; rw [decide_eq_false (fun z => z q1), Bool.false_and])]
          exact fII rfl rfl xK
        · have hpos : 0 < pl.length := by cases z : pl with | nil => exact absurd z q1 | cons a b => simp
          have t1 : ((pl.length : Int) = 0) = False := eq_false (by omega)
          have hok := pilB_ok q1 hno
          obtain ⟨w', K2, ea, oW, lW, eW, oneW, kW⟩ := hO.appendRX (P := prog) (base := h.length) (x := z) (m := pl) (t := 25) iz.rows Fc.el25 encI_sc (Nat.le_refl _) (by omega) hpos (by omega)
          have htk : ps.take (j + 1) = ps.take j ++ [pl] := by rw [List.take_add_one, hpj]; rfl
          have hsp := @Nat.succ_ne_zero; repeat' (first | simp (disch := first | exact dschL26 | fail) only [go_sem, ↓reduceIte, hsp, r25, d7, d19, d0, d1, d7, d9, d17, d18, d19, d23, d24, q0, q1, q17, q18, hlt2, hlz, t1, ea] | refine WP_drw ?_ | refine cnd_intro (fun hsp => ?_) fun hsp => ?_)
          refine ⟨by (repeat first | exact Agree.refl | assumption | refine Agree.put rfl ?_ | refine Agree.put0 ?_ | refine Agree.sub rfl (by assumption) ?_), by omega, eW _ (Nat.le_refl _) xK, by rw [htk, List.all_append, hall]; simp [hok], w', rfl, by rw [htk]; simpa using oW, by rw [htk]; simp at hfl ⊢; omega, ?_⟩
          rw [htk]
          refine ⟨by simp at hfl ⊢; omega, fun x hx => ?_⟩
          simp only [List.flatten_append, List.flatten_cons, List.flatten_nil, List.append_nil] at hx
          rcases List.mem_append.1 hx with z | z
          · exact hfs.2 x z
          · exact hps.2 x z
    · rintro fr K hA ⟨r19, xK, hall, w, r7, hO, hfl, hfs⟩
      have q0 := hA 0 rfl
      have q1 := hA 1 rfl
      have q17 := hA 17 rfl
      have q18 := hA 18 rfl
      try simp (disch := first | exact dschL26 | fail) only [go_sem, ↓reduceIte] at q0 q1 q17 q18
      have hlt : ((ps.length : Int) < (ps.length : Int)) = False := eq_false (by omega)
      rw [List.take_length] at hall hO hfl hfs
      have qq1 := hA 1 rfl
      simp (disch := first | exact dschL26 | fail) only [go_sem, ↓reduceIte] at qq1
      have ow := hO.one
      have iO := own_ints hO hfs
      have hlO := lenI iO
      have hloK := lenI (hI.ext xK)
      have hlpK := (hP.ext xK).len (by omega)
      have htw := run_twice (base := h.length) iO
      have u1 : ¬ (ps.all (pilB o) = false) := by rw [hall]; simp
      by_cases q1 : ps.flatten.length = o.length
      · have t1 : ((ps.flatten.length : Int) = (o.length : Int)) = True := eq_true (by omega)
        cases q2 : twB ps.flatten with
        | true =>
          rw [q2] at htw
          have r : shwE o ps = (0, 8) := by unfold shwE; rw [if_neg (by simp [c]), if_neg u1, if_pos (.inr q2)]
          have hsp := @Nat.succ_ne_zero; repeat' (first | simp (disch := first | exact dschL26 | fail) only [go_sem, ↓reduceIte, hsp, r19, r7, q0, q1, q17, q18, hlt, hlO, hloK, t1, htw] | refine WP_drw ?_ | refine cnd_intro (fun hsp => ?_) fun hsp => ?_)
          rw [r]
          exact fII rfl rfl xK
        | false =>
          rw [q2] at htw
          have r : shwE o ps = ((ps.length : Int), 0) := by unfold shwE; rw [if_neg (by simp [c]), if_neg u1, if_neg (by rw [q2]; simp [q1])]
          have hsp := @Nat.succ_ne_zero; repeat' (first | simp (disch := first | exact dschL26 | fail) only [go_sem, ↓reduceIte, hsp, r19, r7, qq1, q0, q1, q17, q18, hlt, hlO, hloK, t1, htw, hlpK] | refine WP_drw ?_ | refine cnd_intro (fun hsp => ?_) fun hsp => ?_)
          rw [r]
          exact fII rfl rfl xK
      · have t1 : ((ps.flatten.length : Int) = (o.length : Int)) = False := eq_false (by omega)
        have r : shwE o ps = (0, 8) := by unfold shwE; rw [if_neg (by simp [c]), if_neg u1, if_pos (.inl q1)]
        have hsp := @Nat.succ_ne_zero; repeat' (first | simp (disch := first | exact dschL26 | fail) only [go_sem, ↓reduceIte, hsp, r19, r7, q0, q1, q17, q18, hlt, hlO, hloK, t1] | refine WP_drw ?_ | refine cnd_intro (fun hsp => ?_) fun hsp => ?_)
        rw [r]
        exact fII rfl rfl xK
  · have t1 : (aloL o = 0) = False := eq_false c
    have r : shwE o ps = (0, aloL o) := by unfold shwE; rw [if_pos c]
    refine callL_run func69 rfl rfl ?_
    have hsp := @Nat.succ_ne_zero; repeat' (first | simp (disch := first | exact dschL26 | fail) only [go_sem, ↓reduceIte, hsp, ha, t1] | refine WP_drw ?_ | refine cnd_intro (fun hsp => ?_) fun hsp => ?_)
    rw [r]
    exact fII rfl rfl .refl
end Go.AM
/-
  Contracts: how many cards fit some positions; by how much these are a gap.
-/
namespace Go.AM
open Go.Proofs.Try
theorem dschL19 {p : Prop} (h : p := by first | exact Nat.ne_of_beq_eq_false rfl | assumption | (apply asOne; (first | exact One.int | exact One.bool | assumption | exact Ints.one (by assumption) | exact Rows.one (by assumption) | exact Own.one (by assumption) | exact One.lit ⟨rfl, rfl, rfl⟩)) | (apply asInts; (repeat first | assumption | exact ints_nil | apply Ints.app); done) | (apply asRows; (repeat first | assumption | exact Rows.nil | apply Rows.app); done) | (apply asScal; (first | apply allS1 | apply allS2 | apply allS3 | apply allS4) <;> (first | exact One.int | exact One.bool | assumption | exact Ints.one (by assumption) | exact Rows.one (by assumption) | exact Own.one (by assumption) | exact One.lit ⟨rfl, rfl, rfl⟩)) | exact litT rfl | exact litF rfl | omega | (simp only [List.length_append, List.length_cons, List.length_nil, List.length_set, List.length_reverse]; first | done | omega) | fail) : p := h
attribute [-go_sem] put_ne put_same
attribute [local go_sem ↓] put_if
theorem run_fit1 {base a b id p k : Nat} {h : Heap} {L : Lac} (ga : h[a]? = some (pB id)) (gb : h[b]? = some (nB (k : Int))) (hD : DskAt h id L) (hn : L.C.length ≤ 7) (hp : p < L.C.length) (hk : k < L.C.length) :
    callL prog raw base (.fn 163 [] [.ptr (some ⟨a, 0, 0⟩), .ptr (some ⟨b, 0, 0⟩)]) [.int .i64 (p : Int)] h = some (.bool (fitB L p k), h) := by
  obtain ⟨cv, rv, hg, -, -⟩ := hD
  have la := lt_of_get ga
  have lb := lt_of_get gb
  have lid := lt_of_get hg
  have ad1 := Fc.ad150 (id := id) (ver := 0) (o := 3) (i := (p : Int)) (by omega) (by omega)
  have ad2 := Fc.ad148 (id := id) (ver := 0) (o := 3 + p * 7) (i := (k : Int)) (by omega) (by omega)
  rw [Int.toNat_natCast] at ad1 ad2
  rw [Nat.mul_one] at ad2
  have lb := ld_dsk hg hn hp hk
  unfold pB at ga
  unfold nB at gb
  refine callL_run func163 rfl rfl ?_
  have hsp := @Nat.succ_ne_zero; repeat' (first | simp (disch := first | exact dschL19 | fail) only [go_sem, ↓reduceIte, hsp, ga, gb, ad1, ad2, lb] | refine WP_drw ?_ | refine cnd_intro (fun hsp => ?_) fun hsp => ?_)
  exact fB rfl
set_option maxHeartbeats 1000000 in
theorem run_fitting {base id : Nat} {h : Heap} {v : AVal} {L : Lac} {l : List Int} (hD : DskAt h id L) (hn : L.C.length ≤ 7) (hI : Ints h v l) (hl : ∀ x ∈ l, 0 ≤ x ∧ x < (L.C.length : Int)) :
    callL prog raw base (.fn 119 [] []) [.ptr (some ⟨id, 0, 0⟩), v] h = some (.int .i64 (fittN L l : Int), h) := by
  have hD0 := hD
  obtain ⟨cv, rv, hg, hC, hR⟩ := hD
  have lid := lt_of_get hg
  have ov := hI.one
  obtain ⟨G, eG⟩ : ∃ G, G = h ++ [pB id] := ⟨_, rfl⟩
  have xG : Ext h G := by rw [eG]; exact .app .refl
  have gp : G[h.length]? = some (pB id) := by rw [eG]; exact get_eq rfl
  have lG : G.length = h.length + 1 := by rw [eG]; simp
  have lc := ld_cards (xG.get hg)
  have hlc := lenI (hC.ext xG)
  have gp' := gp
  unfold pB at eG gp'
  obtain ⟨f, ef⟩ : ∃ f : Int → Bool, f = fun k => l.any fun p => fitB L p.toNat k.toNat := ⟨_, rfl⟩
  refine callL_run func119 rfl rfl ?_
  have hsp := @Nat.succ_ne_zero; repeat' (first | simp (disch := first | exact dschL19 | fail) only [go_sem, ↓reduceIte, hsp, ← eG, gp', lc, hlc] | refine WP_drw ?_ | refine cnd_intro (fun hsp => ?_) fun hsp => ?_)
  refine WP_count [(5, 6), (13, 21)] 0 L.C.length (Nat.zero_le _) (fun _ k fr H => fr 13 = .int .i64 (k : Int) ∧ Ext G H ∧ fr 5 = .int .i64 ((((upto k).filter f).length : Nat) : Int)) ?_ ?_ ?_
  · exact ⟨by (simp (disch := first | exact dschL19 | fail) only [go_sem, ↓reduceIte, Int.natCast_zero]; first | done | rfl), .refl, by simp (disch := first | exact dschL19 | fail) only [go_sem, ↓reduceIte]; rfl⟩
  · rintro k fr H hk0 hk hA ⟨r13, xH, r5⟩
    have q1 := hA 1 rfl
    have q2 := hA 2 rfl
    have q4 := hA 4 rfl
    have q12 := hA 12 rfl
    try simp (disch := first | exact dschL19 | fail) only [go_sem, ↓reduceIte] at q1 q2 q4 q12
    have hlt : ((k : Int) < (L.C.length : Int)) = True := eq_true (by omega)
    have lH := xH.len
    have hfl : ((upto k).filter f).length ≤ k := Nat.le_trans (List.length_filter_le _ _) (by rw [upto_len]; omega)
    obtain ⟨K, eK⟩ : ∃ K, K = H ++ [nB (k : Int)] := ⟨_, rfl⟩
    have xK : Ext H K := by rw [eK]; exact .app .refl
    have gK : K[H.length]? = some (nB (k : Int)) := by rw [eK]; exact get_eq rfl
    have xGK := xH.trans xK
    have lK := xGK.len
    have hany := any_I (base := h.length) (h := K) (v := v) (g := .fn 163 [] [.ptr (some ⟨h.length, 0, 0⟩), .ptr (some ⟨H.length, 0, 0⟩)]) (l := l) (fun p => fitB L p.toNat k) (by omega) ⟨rfl, rfl, rfl⟩ (hI.ext (xG.trans xGK)) (fun x hx => by
      have hx2 := hl x hx
      obtain ⟨p, rfl⟩ := Int.eq_ofNat_of_zero_le hx2.1
      exact run_fit1 (xGK.get gp) gK (hD0.ext (xG.trans xGK)) hn (by omega) hk)
    have hfk : l.any (fun p => fitB L p.toNat k) = f (k : Int) := by rw [ef]; simp only [Int.toNat_natCast]
    rw [hfk] at hany
    have hup := upto_filt (f := f) (k := k)
    unfold nB at eK gK
    cases c : f (k : Int) with
    | true =>
      rw [c] at hany hup
      rw [if_pos rfl] at hup
      have hlen : (((upto k).filter f).length : Int) + 1 = ((((upto (k + 1)).filter f).length : Nat) : Int) := by rw [hup]; simp
      have hsp := @Nat.succ_ne_zero; repeat' (first | simp (disch := first | exact dschL19 | fail) only [go_sem, ↓reduceIte, hsp, r13, r5, q1, q2, q4, q12, hlt, ← eK, hany] | refine WP_drw ?_ | refine cnd_intro (fun hsp => ?_) fun hsp => ?_)
      exact ⟨by (repeat first | exact Agree.refl | assumption | refine Agree.put rfl ?_ | refine Agree.put0 ?_ | refine Agree.sub rfl (by assumption) ?_), by omega, xGK, hlen⟩
    | false =>
      rw [c] at hany hup
      rw [if_neg (by simp), List.append_nil] at hup
      have hsp := @Nat.succ_ne_zero; repeat' (first | simp (disch := first | exact dschL19 | fail) only [go_sem, ↓reduceIte, hsp, r13, r5, q1, q2, q4, q12, hlt, ← eK, hany] | refine WP_drw ?_ | refine cnd_intro (fun hsp => ?_) fun hsp => ?_)
      exact ⟨by (repeat first | exact Agree.refl | assumption | refine Agree.put rfl ?_ | refine Agree.put0 ?_ | refine Agree.sub rfl (by assumption) ?_), by omega, xGK, by rw [hup]⟩
  · rintro fr H hA ⟨r13, xH, r5⟩
    have q1 := hA 1 rfl
    have q2 := hA 2 rfl
    have q4 := hA 4 rfl
    have q12 := hA 12 rfl
    try simp (disch := first | exact dschL19 | fail) only [go_sem, ↓reduceIte] at q1 q2 q4 q12
    have hlt : ((L.C.length : Int) < (L.C.length : Int)) = False := eq_false (by omega)
    have hsp := @Nat.succ_ne_zero; repeat' (first | simp (disch := first | exact dschL19 | fail) only [go_sem, ↓reduceIte, hsp, r13, r5, q1, q2, q4, q12, hlt] | refine WP_drw ?_ | refine cnd_intro (fun hsp => ?_) fun hsp => ?_)
    refine fI ?_ (xG.trans xH)
    rw [ef]; rfl
theorem run_pos {base : Nat} {h : Heap} {T x : Int} {cv rv : AVal} {l : List Int} (hC : Ints h cv l) (o2 : One rv) : callL prog raw base (.fn 113 [.agg [.int .i64 T, cv, rv]] []) [.int .i64 x] h = some (.bool (decide (0 ≤ x ∧ x ≤ (l.length : Int) - 1)), h) := by
  have o1 := hC.one
  have hb := hC.1.1
  obtain ⟨G, eG⟩ : ∃ G, G = h ++ [lacB T cv rv] := ⟨_, rfl⟩
  have xG : Ext h G := by rw [eG]; exact .app .refl
  have g0 : G[h.length]? = some (lacB T cv rv) := by rw [eG]; exact get_eq rfl
  have hl := lenI (hC.ext xG)
  unfold lacB at eG g0
  refine callL_run func113 rfl rfl ?_
  have hsp := @Nat.succ_ne_zero; repeat' (first | simp (disch := first | exact dschL19 | fail) only [go_sem, ↓reduceIte, hsp, ← eG, g0, hl] | refine WP_drw ?_ | refine cnd_intro (fun hsp => ?_) fun hsp => ?_)
  exact fB rfl xG
def gpsE (L : Lac) (gap : List Int) : Int × Int :=
  if chkL L ≠ 0 then (0, chkL L) else if ¬ (gap.all fun x => decide (0 ≤ x ∧ x ≤ (L.C.length : Int) - 1)) = true then (0, 1) else if gap = [] ∨ sortB gap = false ∨ twB gap = true then (0, 4) else
  if (gap.length : Int) - fittN L gap < 1 then (0, 6) else ((gap.length : Int) - fittN L gap, 0)
set_option maxHeartbeats 2000000 in
theorem run_Gapes {base : Nat} {h : Heap} {v gv : AVal} {L : Lac} {gap : List Int} (hL : LacAt h v L) (hG : Ints h gv gap) :
    callL prog raw base (.fn 54 [] []) [v, gv] h = some (.tuple [.int .i64 (gpsE L gap).1, .int .i64 (gpsE L gap).2], h) := by
  have hL0 := hL
  obtain ⟨cv, rv, rfl, hC, hR⟩ := hL
  have o1 := hC.one
  have o2 := hR.one
  have o3 := hG.one
  have hgb := hG.1.1
  obtain ⟨G0, eG0⟩ : ∃ G0, G0 = h ++ [lacB L.T cv rv] := ⟨_, rfl⟩
  have x0 : Ext h G0 := by rw [eG0]; exact .app .refl
  have g0 : G0[h.length]? = some (lacB L.T cv rv) := by rw [eG0]; exact get_eq rfl
  have l0 : G0.length = h.length + 1 := by rw [eG0]; simp
  obtain ⟨w1, H1, e1, x1, r1, r2⟩ := run_opened (base := h.length) (h := G0) (by omega) (hL0.ext x0)
  have l1 := x1.len
  have g1 := x1.get g0
  unfold lacB at eG0 g0 g1
  refine callL_run func54 rfl rfl ?_
  by_cases c0 : chkL L = 0
  · obtain ⟨id, rfl, hid, hD⟩ := r2 c0
    have kn := (chkL_iff.1 c0).n
    have xh := x0.trans x1
    obtain ⟨H2, eH2⟩ : ∃ H2, H2 = H1 ++ [evB (.fn 113 [.agg [.int .i64 L.T, cv, rv]] [])] := ⟨_, rfl⟩
    have x2 : Ext H1 H2 := by rw [eH2]; exact .app .refl
    have xh2 := xh.trans x2
    have hev := every_I (base := h.length) (h := H1) (v := gv) (g := .fn 113 [.agg [.int .i64 L.T, cv, rv]] []) (l := gap) (fun x => decide (0 ≤ x ∧ x ≤ (L.C.length : Int) - 1)) (by omega) ⟨rfl, rfl, rfl⟩ (hG.ext xh) (fun x _ => run_pos (hC.ext (xh.trans (.app .refl))) o2)
    rw [← eH2] at hev
    have hGl := lenI (hG.ext xh2)
    have hst := fun base => run_sorted (base := base) (hG.ext xh2)
    have htw := fun base => run_twice (base := base) (hG.ext xh2)
    cases c1 : gap.all (fun x => decide (0 ≤ x ∧ x ≤ (L.C.length : Int) - 1)) with
    | false =>
      rw [c1] at hev
      have hsp := @Nat.succ_ne_zero; repeat' (first | simp (disch := first | exact dschL19 | fail) only [go_sem, ↓reduceIte, hsp, ← eG0, g0, e1, eq_self, g1, hev] | refine WP_drw ?_ | refine cnd_intro (fun hsp => ?_) fun hsp => ?_)
      have r : gpsE L gap = (0, 1) := by unfold gpsE; rw [if_neg (by simp [c0]), if_pos (by rw [c1]; simp)]
      rw [r]
      exact fII rfl rfl xh2
    | true =>
      rw [c1] at hev
      have hin : ∀ x ∈ gap, 0 ≤ x ∧ x < (L.C.length : Int) := fun x hx => by have := of_decide_eq_true (List.all_eq_true.1 c1 x hx); omega
      have hft := fun base => run_fitting (base := base) (hD.ext x2) kn.2 (hG.ext xh2) hin
      have hfn : fittN L gap ≤ 7 := Nat.le_trans (List.length_filter_le _ _) (by rw [upto_len]; exact kn.2)
      have u1 : ¬ (¬ (gap.all fun x => decide (0 ≤ x ∧ x ≤ (L.C.length : Int) - 1)) = true) := by rw [c1]; simp
      by_cases c2 : gap = []
      · have t2 : ((gap.length : Int) = 0) = True := eq_true (by rw [c2]; rfl)
        have hsp := @Nat.succ_ne_zero; repeat' (first | simp (disch := first | exact dschL19 | fail) only [go_sem, ↓reduceIte, hsp, ← eG0, g0, e1, eq_self, g1, hev, hGl, t2] | refine WP_drw ?_ | refine cnd_intro (fun hsp => ?_) fun hsp => ?_)
        have r : gpsE L gap = (0, 4) := by unfold gpsE; rw [if_neg (by simp [c0]), if_neg u1, if_pos (.inl c2)]
        rw [r]
        exact fII rfl rfl xh2
      · have hgp : 0 < gap.length := by cases q : gap with | nil => exact absurd q c2 | cons a b => simp
        have t2 : ((gap.length : Int) = 0) = False := eq_false (by omega)
        cases c3 : sortB gap with
        | false =>
          rw [c3] at hst
          have hsp := @Nat.succ_ne_zero; repeat' (first | simp (disch := first | exact dschL19 | fail) only [go_sem, ↓reduceIte, hsp, ← eG0, g0, e1, eq_self, g1, hev, hGl, t2, hst] | refine WP_drw ?_ | refine cnd_intro (fun hsp => ?_) fun hsp => ?_)
          have r : gpsE L gap = (0, 4) := by unfold gpsE; rw [if_neg (by simp [c0]), if_neg u1, if_pos (.inr (.inl c3))]
          rw [r]
          exact fII rfl rfl xh2
        | true =>
          rw [c3] at hst
          cases c4 : twB gap with
          | true =>
            rw [c4] at htw
            have hsp := @Nat.succ_ne_zero; repeat' (first | simp (disch := first | exact dschL19 | fail) only [go_sem, ↓reduceIte, hsp, ← eG0, g0, e1, eq_self, g1, hev, hGl, t2, hst, htw] | refine WP_drw ?_ | refine cnd_intro (fun hsp => ?_) fun hsp => ?_)
            have r : gpsE L gap = (0, 4) := by unfold gpsE; rw [if_neg (by simp [c0]), if_neg u1, if_pos (.inr (.inr c4))]
            rw [r]
            exact fII rfl rfl xh2
          | false =>
            rw [c4] at htw
            have u2 : ¬ (gap = [] ∨ sortB gap = false ∨ twB gap = true) := by rw [c3, c4]; simp [c2]
            by_cases c5 : (gap.length : Int) - fittN L gap < 1
            · have t5 : ((gap.length : Int) - (fittN L gap : Int) < 1) = True := eq_true c5
              have hsp := @Nat.succ_ne_zero; repeat' (first | simp (disch := first | exact dschL19 | fail) only [go_sem, ↓reduceIte, hsp, ← eG0, g0, e1, eq_self, g1, hev, hGl, t2, hst, htw, hft, t5] | refine WP_drw ?_ | refine cnd_intro (fun hsp => ?_) fun hsp => ?_)
              have r : gpsE L gap = (0, 6) := by unfold gpsE; rw [if_neg (by simp [c0]), if_neg u1, if_neg u2, if_pos c5]
              rw [r]
              exact fII rfl rfl xh2
            · have t5 : ((gap.length : Int) - (fittN L gap : Int) < 1) = False := eq_false c5
              have hsp := @Nat.succ_ne_zero; repeat' (first | simp (disch := first | exact dschL19 | fail) only [go_sem, ↓reduceIte, hsp, ← eG0, g0, e1, eq_self, g1, hev, hGl, t2, hst, htw, hft, t5] | refine WP_drw ?_ | refine cnd_intro (fun hsp => ?_) fun hsp => ?_)
              have r : gpsE L gap = ((gap.length : Int) - fittN L gap, 0) := by unfold gpsE; rw [if_neg (by simp [c0]), if_neg u1, if_neg u2, if_neg c5]
              rw [r]
              exact fII rfl rfl xh2
  · have t0 : (chkL L = 0) = False := eq_false c0
    have r := r1 c0
    subst r
    have hsp := @Nat.succ_ne_zero; repeat' (first | simp (disch := first | exact dschL19 | fail) only [go_sem, ↓reduceIte, hsp, ← eG0, g0, e1, t0, g1] | refine WP_drw ?_ | refine cnd_intro (fun hsp => ?_) fun hsp => ?_)
    have re : gpsE L gap = (0, chkL L) := by unfold gpsE; rw [if_pos c0]
    rw [re]
    exact fII rfl rfl (x0.trans x1)
end Go.AM
/-
  Contracts: the cards that fit a position, whether an order explains the rows, or the errors; whether a list has each number once.
-/
namespace Go.AM
open Go.Proofs.Try
theorem dschL24 {p : Prop} (h : p := by first | exact Nat.ne_of_beq_eq_false rfl | assumption | (apply asOne; (first | exact One.int | exact One.bool | assumption | exact Ints.one (by assumption) | exact Rows.one (by assumption) | exact Own.one (by assumption) | exact One.lit ⟨rfl, rfl, rfl⟩)) | (apply asInts; (repeat first | assumption | exact ints_nil | apply Ints.app); done) | (apply asRows; (repeat first | assumption | exact Rows.nil | apply Rows.app); done) | (apply asScal; (first | apply allS1 | apply allS2 | apply allS3 | apply allS4) <;> (first | exact One.int | exact One.bool | assumption | exact Ints.one (by assumption) | exact Rows.one (by assumption) | exact Own.one (by assumption) | exact One.lit ⟨rfl, rfl, rfl⟩)) | exact litT rfl | exact litF rfl | omega | (simp only [List.length_append, List.length_cons, List.length_nil, List.length_set, List.length_reverse]; first | done | omega) | fail) : p := h
attribute [-go_sem] put_ne put_same
attribute [local go_sem ↓] put_if
def fitE (L : Lac) (p : Int) : List Int × Int := if chkL L ≠ 0 then ([], chkL L) else if ¬ (0 ≤ p ∧ p ≤ (L.C.length : Int) - 1) then ([], 1) else (fitL L p.toNat, 0)
def xplD (L : Lac) (o : List Int) (i : Nat) : Bool := (List.range i).all fun i => fitB L i (o.getD i 0).toNat
/-- The error of a chain, or of an order of its cards. -/
def lcdE (L : Lac) (o : List Int) : Int := if chkL L = 0 then ordL o L.C.length else chkL L
def xpsE (L : Lac) (o : List Int) : Bool × Int := if lcdE L o = 0 then (xplD L o o.length, 0) else (false, lcdE L o)
/-- Each number below n is there once. -/
def prmB (l : List Int) (n : Nat) : Bool := decide (l.length = n) && (upto n).all fun k => decide (k ∈ l)
theorem run_permutes {base n : Nat} {h : Heap} {v : AVal} {l : List Int} (hI : Ints h v l) : callL prog raw base (.fn 71 [] []) [v, .int .i64 (n : Int)] h = some (.bool (prmB l n), h) := by
  have hl := hI.1.1
  have ov := hI.one
  have hlo := lenI hI
  refine callL_run func71 rfl rfl ?_
  by_cases c : l.length = n
  · have t1 : ((l.length : Int) = (n : Int)) = True := eq_true (by omega)
    have hsp := @Nat.succ_ne_zero; repeat' (first | simp (disch := first | exact dschL24 | fail) only [go_sem, ↓reduceIte, hsp, hlo, t1] | refine WP_drw ?_ | refine cnd_intro (fun hsp => ?_) fun hsp => ?_)
    refine WP_count [(4, 5), (11, 18)] 0 n (Nat.zero_le _) (fun _ i fr H => fr 11 = .int .i64 (i : Int) ∧ H = h ∧ (upto i).all (fun k => decide (k ∈ l)) = true) ?_ ?_ ?_
    · exact ⟨by (simp (disch := first | exact dschL24 | fail) only [go_sem, ↓reduceIte, Int.natCast_zero]; first | done | rfl), rfl, rfl⟩
    · rintro i fr H hi0 hi hA ⟨r11, rfl, hx⟩
      have q0 := hA 0 rfl
      have q10 := hA 10 rfl
      try simp (disch := first | exact dschL24 | fail) only [go_sem, ↓reduceIte] at q0 q10
      have hlt : ((i : Int) < (n : Int)) = True := eq_true (by omega)
      have hc := fun base => run_contains (base := base) (x := (i : Int)) hI
      by_cases m : (i : Int) ∈ l
      · rw [decide_eq_true m] at hc
        have hsp := @Nat.succ_ne_zero; repeat' (first | simp (disch := first | exact dschL24 | fail) only [go_sem, ↓reduceIte, hsp, r11, q0, q10, hlt, hc] | refine WP_drw ?_ | refine cnd_intro (fun hsp => ?_) fun hsp => ?_)
        exact ⟨by (repeat first | exact Agree.refl | assumption | refine Agree.put rfl ?_ | refine Agree.put0 ?_ | refine Agree.sub rfl (by assumption) ?_), by omega, by rw [upto_succ, List.all_append, hx]; simp [m]⟩
      · rw [decide_eq_false m] at hc
        have hsp := @Nat.succ_ne_zero; repeat' (first | simp (disch := first | exact dschL24 | fail) only [go_sem, ↓reduceIte, hsp, r11, q0, q10, hlt, hc] | refine WP_drw ?_ | refine cnd_intro (fun hsp => ?_) fun hsp => ?_)
        refine fB ?_
        unfold prmB
        rw [show (upto n).all (fun k => decide (k ∈ l)) = false from all_no (x := (i : Int)) (n := i) (by
          have : (upto n)[i]? = some ((upto n).getD i 0) := getD_some (by rw [upto_len]; exact hi)
          rw [this]
          show some ((lst _ n).getD i 0) = _
          rw [lst_get hi]) (decide_eq_false m), Bool.and_false]
    · rintro fr H hA ⟨r11, rfl, hx⟩
      have q0 := hA 0 rfl
      have q10 := hA 10 rfl
      try simp (disch := first | exact dschL24 | fail) only [go_sem, ↓reduceIte] at q0 q10
      have hlt : ((n : Int) < (n : Int)) = False := eq_false (by omega)
      have hsp := @Nat.succ_ne_zero; repeat' (first | simp (disch := first | exact dschL24 | fail) only [go_sem, ↓reduceIte, hsp, r11, q0, q10, hlt] | refine WP_drw ?_ | refine cnd_intro (fun hsp => ?_) fun hsp => ?_)
      refine fB ?_
      unfold prmB
      rw [hx, decide_eq_true c]; rfl
  · have t1 : ((l.length : Int) = (n : Int)) = False := eq_false (by omega)
    have hsp := @Nat.succ_ne_zero; repeat' (first | simp (disch := first | exact dschL24 | fail) only [go_sem, ↓reduceIte, hsp, hlo, t1] | refine WP_drw ?_ | refine cnd_intro (fun hsp => ?_) fun hsp => ?_)
    refine fB ?_
    unfold prmB
    rw [decide_eq_false c, Bool.false_and]
end Go.AM
/-
  Contracts: what moves make of an order, or the errors.
-/
namespace Go.AM
open Go.Proofs.Try
theorem dschL7 {p : Prop} (h : p := by first | exact Nat.ne_of_beq_eq_false rfl | assumption | (apply asOne; (first | exact One.int | exact One.bool | assumption | exact Ints.one (by assumption) | exact Rows.one (by assumption) | exact Own.one (by assumption) | exact One.lit ⟨rfl, rfl, rfl⟩)) | (apply asInts; (repeat first | assumption | exact ints_nil | apply Ints.app); done) | (apply asRows; (repeat first | assumption | exact Rows.nil | apply Rows.app); done) | (apply asScal; (first | apply allS1 | apply allS2 | apply allS3 | apply allS4) <;> (first | exact One.int | exact One.bool | assumption | exact Ints.one (by assumption) | exact Rows.one (by assumption) | exact Own.one (by assumption) | exact One.lit ⟨rfl, rfl, rfl⟩)) | exact litT rfl | exact litF rfl | omega | (simp only [List.length_append, List.length_cons, List.length_nil, List.length_set, List.length_reverse]; first | done | omega) | fail) : p := h
attribute [-go_sem] put_ne put_same
attribute [local go_sem ↓] put_if
def makE (o : List Int) (ms : List (Int × Int)) : List Int × Int := if aloL o = 0 then makF o.length ms o else ([], aloL o)
theorem perm_small' {l m : List Int} (h : l.Perm m) (hs : Small m) : Small l := ⟨by rw [h.length_eq]; exact hs.1, fun x hx => hs.2 x (h.mem_iff.1 hx)⟩
set_option maxHeartbeats 2000000 in
theorem run_Make {base : Nat} {h : Heap} {v mv : AVal} {o : List Int} {ms : List (Int × Int)} (hb : base ≤ h.length) (hI : Ints h v o) (hM : Rows encM h mv ms) (hml : ms.length ≤ 100000) :
    Ret prog raw base (.fn 26 [] []) [v, mv] h (fun w H => Ext h H ∧ ∃ x, w = .tuple [x, .int .i64 (makE o ms).2] ∧ OwnE encI 3 h.length H x (makE o ms).1) := by
  have ha := fun base => run_alone (base := base) hI
  have hv1 := hI.one
  have hm1 := hM.one
  by_cases c : aloL o = 0
  · obtain ⟨c1, c2, c3⟩ := aloL_iff.1 c
    rw [c] at ha
    have hsm := small_ints hI (by omega)
    obtain ⟨n, en⟩ : ∃ n, n = o.length := ⟨_, rfl⟩
    have r : makE o ms = makF n ms o := by unfold makE; rw [if_pos c, en]
    rw [r]
    obtain ⟨v1, H1, e1, x1, o1⟩ := run_cloneE (base := base) hI hsm
    have hl1 := x1.len
    have ov1 := o1.one
    have hlm := (hM.ext x1).len (P := prog) Fc.el33
    refine ret_raw func26 rfl (by kernel_rfl) ?_
    have hsp := @Nat.succ_ne_zero; repeat' (first | simp (disch := first | exact dschL7 | fail) only [go_sem, ↓reduceIte, hsp, ha, eq_self, e1, hlm] | refine WP_drw ?_ | refine cnd_intro (fun hsp => ?_) fun hsp => ?_)
    refine WP_count [(4, 9), (19, 42)] 0 ms.length (Nat.zero_le _) (fun _ i fr K => fr 19 = .int .i64 (i : Int) ∧ Ext h K ∧ ∃ o' w, fr 7 = w ∧ OwnE encI 3 h.length K w o' ∧ o'.Perm o ∧ makF n ms o = makF n (ms.drop i) o') ?_ ?_ ?_
    · exact ⟨by (simp (disch := first | exact dschL7 | fail) only [go_sem, ↓reduceIte, Int.natCast_zero]; first | done | rfl), x1, o, v1, by simp (disch := first | exact dschL7 | fail) only [go_sem, ↓reduceIte], o1, .refl _, rfl⟩
    · rintro i fr K hi0 hi hA ⟨r19, xK, o', w, r7, hO, hp, hF⟩
      have p17 := hA 17 rfl
      have p18 := hA 18 rfl
      try simp (disch := first | exact dschL7 | fail) only [go_sem, ↓reduceIte] at p17 p18
      have hlt : ((i : Int) < (ms.length : Int)) = True := eq_true (by omega)
      obtain ⟨⟨a, b⟩, em⟩ : ∃ m, ms[i] = m := ⟨_, rfl⟩
      have hx : ms[i]? = some (a, b) := by rw [List.getElem?_eq_getElem hi, em]
      have hMK := hM.ext xK
      have ad := hMK.addr (P := prog) (i := (i : Int)) Fc.el33 Fc.ar33 (by omega) (by omega)
      rw [Int.toNat_natCast] at ad
      have ld := hMK.load (P := prog) Fc.ty36 hx
      simp only [encM] at ad ld
      have hw1 := hO.one
      have hKl := xK.len
      have hol : o'.length = n := by rw [hp.length_eq, en]
      obtain ⟨G, eG⟩ : ∃ G, G = K ++ [mvB a b] := ⟨_, rfl⟩
      have xG : Ext K G := by rw [eG]; exact .app .refl
      have gG : G[K.length]? = some (mvB a b) := by rw [eG]; exact get_eq rfl
      have hGl := xG.len
      have iG := (ownE_ints hO (perm_small' hp hsm)).ext xG
      have lG := lenI iG
      have hst : makF n (ms.drop i) o' = if (0 ≤ a ∧ a < (n : Int)) ∧ (0 ≤ b ∧ b < (n : Int)) then makF n (ms.drop (i + 1)) (mvL o' a.toNat b.toNat) else ([], 1) := by
        rw [List.drop_eq_getElem_cons hi, em, makF]
      unfold mvB at eG gG
      by_cases q1 : 0 ≤ a ∧ a < (n : Int)
      · have t1 : decide (0 ≤ a ∧ a ≤ (o'.length : Int) - 1) = true := decide_eq_true (by omega)
        by_cases q2 : 0 ≤ b ∧ b < (n : Int)
        · have t2 : decide (0 ≤ b ∧ b ≤ (o'.length : Int) - 1) = true := decide_eq_true (by omega)
          rw [if_pos ⟨q1, q2⟩] at hst
          obtain ⟨a', rfl⟩ := Int.eq_ofNat_of_zero_le q1.1
          obtain ⟨b', rfl⟩ := Int.eq_ofNat_of_zero_le q2.1
          rw [Int.toNat_natCast, Int.toNat_natCast] at hst
          obtain ⟨w2, H2, e2, x2, o2⟩ := run_made (base := base) (f := a') (t := b') (by omega) iG (by omega) (by omega) (by omega)
          have ow2 := o2.one
          have hsp := @Nat.succ_ne_zero; repeat' (first | simp (disch := first | exact dschL7 | fail) only [go_sem, ↓reduceIte, hsp, r19, r7, p17, p18, hlt, ad, ld, ← eG, gG, lG, t1, t2, e2] | refine WP_drw ?_ | refine cnd_intro (fun hsp => ?_) fun hsp => ?_)
          refine ⟨by (repeat first | exact Agree.refl | assumption | refine Agree.put rfl ?_ | refine Agree.put0 ?_ | refine Agree.sub rfl (by assumption) ?_), by omega, xK.trans (xG.trans x2), _, w2, rfl, OwnE.low (b' := h.length) (.inl o2) (by omega), (mvL_perm (by omega) (by omega)).trans hp, by rw [hF, hst]⟩
        · have t2 : decide (0 ≤ b ∧ b ≤ (o'.length : Int) - 1) = false := decide_eq_false (by omega)
          rw [if_neg (fun q => q2 q.2)] at hst
          have hsp := @Nat.succ_ne_zero; repeat' (first | simp (disch := first | exact dschL7 | fail) only [go_sem, ↓reduceIte, hsp, r19, r7, p17, p18, hlt, ad, ld, ← eG, gG, lG, t1, t2] | refine WP_drw ?_ | refine cnd_intro (fun hsp => ?_) fun hsp => ?_)
          exact ⟨xK.trans xG, _, by rw [hF, hst], by rw [hF, hst]; exact .inl Own.nil⟩
      · have t1 : decide (0 ≤ a ∧ a ≤ (o'.length : Int) - 1) = false := decide_eq_false (by omega)
        rw [if_neg (fun q => q1 q.1)] at hst
        have hsp := @Nat.succ_ne_zero; repeat' (first | simp (disch := first | exact dschL7 | fail) only [go_sem, ↓reduceIte, hsp, r19, r7, p17, p18, hlt, ad, ld, ← eG, gG, lG, t1] | refine WP_drw ?_ | refine cnd_intro (fun hsp => ?_) fun hsp => ?_)
        exact ⟨xK.trans xG, _, by rw [hF, hst], by rw [hF, hst]; exact .inl Own.nil⟩
    · rintro fr K hA ⟨r19, xK, o', w, r7, hO, hp, hF⟩
      have p17 := hA 17 rfl
      have p18 := hA 18 rfl
      try simp (disch := first | exact dschL7 | fail) only [go_sem, ↓reduceIte] at p17 p18
      have hlt : ((ms.length : Int) < (ms.length : Int)) = False := eq_false (by omega)
      have hw1 := hO.one
      rw [List.drop_length, makF] at hF
      have hsp := @Nat.succ_ne_zero; repeat' (first | simp (disch := first | exact dschL7 | fail) only [go_sem, ↓reduceIte, hsp, r19, r7, p17, p18, hlt] | refine WP_drw ?_ | refine cnd_intro (fun hsp => ?_) fun hsp => ?_)
      exact ⟨xK, _, by rw [hF], by rw [hF]; exact hO⟩
  · have t1 : (aloL o = 0) = False := eq_false c
    have r : makE o ms = ([], aloL o) := by unfold makE; rw [if_neg c]
    rw [r]
    refine ret_raw func26 rfl (by kernel_rfl) ?_
    have hsp := @Nat.succ_ne_zero; repeat' (first | simp (disch := first | exact dschL7 | fail) only [go_sem, ↓reduceIte, hsp, ha, t1] | refine WP_drw ?_ | refine cnd_intro (fun hsp => ?_) fun hsp => ?_)
    exact ⟨.refl, _, rfl, .inl Own.nil⟩
end Go.AM
/-
  Plain: piles that are made are right; moves that are made.
-/
namespace Go.AM
theorem pair_at {α : Type} {R : α → α → Prop} {l : List α} (h : l.Pairwise R) {i j : Nat} (hij : i < j) (hj : j < l.length) : R (l[i]'(by omega)) l[j] := List.pairwise_iff_getElem.1 h i j (by omega) hj hij
theorem pils_ok {o : List Int} {ps : List (List Int)} (h : Pils o o.length ps) : ps.all (pilB o) = true := by
  rw [List.all_eq_true]
  intro x hx
  have hmem : ∀ y ∈ x, 0 ≤ y ∧ y < (o.length : Int) := fun y hy => upto_mem.1 (h.all.mem_iff.1 (List.mem_flatten.2 ⟨x, hx, hy⟩))
  refine pilB_ok (h.ne x hx) fun i hi => ?_
  have h1 := hmem _ (getD_mem hi)
  unfold badAt
  rw [decide_eq_true (by omega : 0 ≤ x.getD i 0 ∧ x.getD i 0 ≤ (o.length : Int) - 1)]
  by_cases hp : 0 < i
  · have h2 := pair_at (h.dn x hx) (i := i - 1) (j := i) (by omega) hi
    unfold PilR at h2
    rw [← getD_at (d := 0) hi, ← getD_at (d := 0) (show i - 1 < x.length by omega)] at h2
    rw [decide_eq_true hp, decide_eq_false (by omega), decide_eq_false (by omega)]
    rfl
  · rw [decide_eq_false hp]; rfl
theorem upto_nd (n : Nat) : (upto n).Nodup := (upto_sorted n).imp fun h => by omega
theorem shwE_pils {o : List Int} {ps : List (List Int)} (hc : aloL o = 0) (h : Pils o o.length ps) : shwE o ps = ((ps.length : Int), 0) := by
  unfold shwE
  rw [if_neg (by simp [hc]), if_neg (by rw [pils_ok h]; simp), if_neg]
  intro q
  rcases q with q | q
  · exact q (by rw [h.all.length_eq, upto_len])
  · have := of_decide_eq_true (show decide (¬ ps.flatten.Nodup) = true from q)
    exact this (h.all.nodup_iff.2 (upto_nd _))
theorem ord_dist {n : Nat} {o : List Int} (h : Ord n o) : ∀ i j, i < j → j < o.length → o.getD i 0 ≠ o.getD j 0 := fun i j hij hj e => by
  have := ord_inj h (by have := h.1; omega) (by have := h.1; omega) e
  omega
/-- Rise, Piles, Shows, Mend and Make of an order. -/
theorem ord_all5 {n : Nat} {o : List Int} (hn : 1 ≤ n ∧ n ≤ 7) (h : Ord n o) :
    aloL o = 0 ∧ risE o = (riseL o, 0) ∧ pilE o = (pilN o o.length, 0) ∧ shwE o (pilN o o.length) = (((riseL o).length : Int), 0) ∧ (pilN o o.length).length = (riseL o).length ∧ mndE o = (mndL o, 0) ∧ makE o (mndL o) = (upto n, 0) ∧ (mndL o).length + (riseL o).length = n := by
  have ha : aloL o = 0 := aloL_iff.2 ⟨by have := h.1; omega, by have := h.1; omega, by rw [h.1]; exact h⟩
  have hp := pilN_ok (ord_dist h) (Nat.le_refl _)
  have hl := piles_rise hp (riseL_is o)
  obtain ⟨m1, m2, m3⟩ := mndL_ok h
  refine ⟨ha, by unfold risE; rw [if_pos ha], by unfold pilE; rw [if_pos ha], by rw [shwE_pils ha hp, hl], hl, by unfold mndE; rw [if_pos ha], by unfold makE; rw [if_pos ha, h.1, m1], m3⟩
theorem prmB_upto {n : Nat} : prmB (upto n) n = true := by
  unfold prmB
  rw [decide_eq_true upto_len, Bool.true_and, List.all_eq_true]
  intro x hx
  exact decide_eq_true hx
theorem prmB_ord {n : Nat} {o : List Int} (h : Ord n o) : prmB o n = true := by
  unfold prmB
  rw [decide_eq_true h.1, Bool.true_and, List.all_eq_true]
  intro x hx
  exact decide_eq_true (ord_all h (upto_mem.1 hx))
end Go.AM
/-
  Plain: fewer moves do not make an order right.
-/
namespace Go.AM
theorem sortB_pair {m : List Int} (h : sortB m = true) : m.Pairwise (· ≤ ·) := by
  have h1 := of_decide_eq_true (show decide (∀ i, i < m.length → 0 < i → m.getD (i - 1) 0 ≤ m.getD i 0) = true from h)
  have h2 : ∀ d a, a + d < m.length → m.getD a 0 ≤ m.getD (a + d) 0 := by
    intro d
    induction d with
    | zero => intro a _; exact Int.le_refl _
    | succ d ih =>
      intro a ha
      have q1 := ih a (by omega)
      have q2 := h1 (a + d + 1) (by omega) (by omega)
      rw [show a + d + 1 - 1 = a + d by omega] at q2
      rw [show a + (d + 1) = a + d + 1 by omega]
      omega
  refine List.pairwise_iff_getElem.2 fun i j hi hj hij => ?_
  have := h2 (j - i) i (by omega)
  rw [show i + (j - i) = j by omega, getD_at hi, getD_at hj] at this
  exact this
theorem pair_sortB {m : List Int} (h : m.Pairwise (· ≤ ·)) : sortB m = true := by
  unfold sortB
  refine decide_eq_true fun i hi h0 => ?_
  have := pair_at h (i := i - 1) (j := i) (by omega) hi
  rw [getD_at hi, getD_at (show i - 1 < m.length by omega)]
  exact this
theorem sortB_upto {n : Nat} : sortB (upto n) = true := pair_sortB ((upto_sorted n).imp fun h => by omega)
theorem few_lis {n : Nat} {o : List Int} {fs : List (Int × Int)} (ho : Ord n o) (hm : ∀ m ∈ fs, (0 ≤ m.1 ∧ m.1 < (n : Int)) ∧ (0 ≤ m.2 ∧ m.2 < (n : Int))) : Ord n (makF n fs o).1 ∧ (makF n fs o).2 = 0 ∧ (riseL (makF n fs o).1).length ≤ (riseL o).length + fs.length := by
  obtain ⟨h1, h2⟩ := makF_ord ho hm
  exact ⟨ord_perm ho h2, h1, lis_moves ho hm⟩
theorem few_not {n : Nat} {o : List Int} {fs : List (Int × Int)} (ho : Ord n o) (hm : ∀ m ∈ fs, (0 ≤ m.1 ∧ m.1 < (n : Int)) ∧ (0 ≤ m.2 ∧ m.2 < (n : Int))) (hl : fs.length + 1 + (riseL o).length ≤ n) : sortB (makF n fs o).1 = false := by
  rw [Bool.eq_false_iff]
  intro hs
  obtain ⟨h1, h2, h3⟩ := few_lis ho hm
  have h4 := ord_sorted h1 (sortB_pair hs)
  have h5 := lis_upto (n := n)
  unfold lisN at h5
  rw [← h4] at h5
  omega
/-- What is asked of a rising list. -/
theorem rise_at {o : List Int} {k : Nat} (hk : k < (riseL o).length) : (0 ≤ (riseL o).getD k 0 ∧ (riseL o).getD k 0 < (o.length : Int)) ∧ (0 < k → (riseL o).getD (k - 1) 0 < (riseL o).getD k 0 ∧ o.getD ((riseL o).getD (k - 1) 0).toNat 0 < o.getD ((riseL o).getD k 0).toNat 0) := by
  obtain ⟨h1, h2⟩ := (riseL_is o).1
  refine ⟨h2 _ (getD_mem hk), fun h0 => ?_⟩
  have := pair_at h1 (i := k - 1) (j := k) (by omega) hk
  unfold rsR at this
  rw [← getD_at (d := 0) hk, ← getD_at (d := 0) (show k - 1 < (riseL o).length by omega)] at this
  exact this
end Go.AM
