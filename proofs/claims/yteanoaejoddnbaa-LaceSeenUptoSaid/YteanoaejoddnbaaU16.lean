/-
  Contracts: the cards that are sure.
-/
import Derived.Test.YteanoaejoddnbaaU14
import Derived.Test.YteanoaejoddnbaaU15
import Derived.Test.YteanoaejoddnbaaU12
import Derived.Test.YteanoaejoddnbaaU13
set_option linter.unusedSimpArgs false
set_option linter.unusedVariables false
namespace Go.AM
open Go.Proofs.Try
theorem dschL18 {p : Prop} (h : p := by first | exact Nat.ne_of_beq_eq_false rfl | assumption | (apply asOne; (first | exact One.int | exact One.bool | assumption | exact Ints.one (by assumption) | exact Rows.one (by assumption) | exact Own.one (by assumption) | exact One.lit ⟨rfl, rfl, rfl⟩)) | (apply asInts; (repeat first | assumption | exact ints_nil | apply Ints.app); done) | (apply asRows; (repeat first | assumption | exact Rows.nil | apply Rows.app); done) | (apply asScal; (first | apply allS1 | apply allS2 | apply allS3 | apply allS4) <;> (first | exact One.int | exact One.bool | assumption | exact Ints.one (by assumption) | exact Rows.one (by assumption) | exact Own.one (by assumption) | exact One.lit ⟨rfl, rfl, rfl⟩)) | exact litT rfl | exact litF rfl | omega | (simp only [List.length_append, List.length_cons, List.length_nil, List.length_set, List.length_reverse]; first | done | omega) | fail) : p := h
attribute [-go_sem] put_ne put_same
attribute [local go_sem ↓] put_if
def knwM (o : List Int) (ok : Nat → Bool) : Nat → List Int
  | 0 => o
  | i + 1 => if ok i = true then knwM o ok i else (knwM o ok i).set i (-1)
theorem knwM_len {o : List Int} {ok : Nat → Bool} : ∀ i, (knwM o ok i).length = o.length
  | 0 => rfl
  | i + 1 => by rw [knwM]; split <;> simp [knwM_len i]
theorem knwM_at {o : List Int} {ok : Nat → Bool} {p : Nat} : ∀ {i}, i ≤ o.length → (knwM o ok i).getD p 0 = if p < i ∧ ok p = false then -1 else o.getD p 0
  | 0, _ => by rw [knwM, if_neg (by omega)]
  | i + 1, hi => by
    have ih := knwM_at (o := o) (ok := ok) (p := p) (i := i) (by omega)
    rw [knwM]
    cases c : ok i with
    | true =>
      rw [if_pos rfl, ih]
      by_cases e : p = i
      · rw [if_neg (by omega), if_neg (by rw [e, c]; simp)]
      · by_cases q : p < i ∧ ok p = false
        · rw [if_pos q, if_pos ⟨by omega, q.2⟩]
        · rw [if_neg q, if_neg (fun z => q ⟨by omega, z.2⟩)]
    | false =>
      rw [if_neg (by simp), getD_setI (by rw [knwM_len]; omega), ih]
      by_cases e : i = p
      · rw [if_pos e, if_pos ⟨by omega, by rw [← e]; exact c⟩]
      · rw [if_neg e]
        by_cases q : p < i ∧ ok p = false
        · rw [if_pos q, if_pos ⟨by omega, q.2⟩]
        · rw [if_neg q, if_neg (fun z => q ⟨by omega, z.2⟩)]
def allK (os : List (List Int)) (k : Int) (p : Nat) : Bool := os.all fun x => decide (x.getD p 0 = k)
theorem getD_ext {l m : List Int} (h : l.length = m.length) (q : ∀ i, i < l.length → l.getD i 0 = m.getD i 0) : l = m := by
  refine List.ext_getElem h fun i h1 h2 => ?_
  have := q i h1
  rwa [getD_at h1, getD_at h2] at this
theorem lst_getD {f : Nat → Int} {n i : Nat} (h : i < n) : (lst f n).getD i 0 = f i := by
  exact lst_get h
theorem knwM_all {n : Nat} {os : List (List Int)} (h : (os.headD []).length = n) : knwM (os.headD []) (fun p => allK os ((os.headD []).getD p 0) p) n = knwL n os := by
  refine getD_ext (by rw [knwM_len, h, knwL, lst_len]) fun i hi => ?_
  rw [knwM_len, h] at hi
  rw [knwM_at (by omega), knwL, lst_getD hi]
  show _ = if allK os ((os.headD []).getD i 0) i = true then _ else _
  cases c : allK os ((os.headD []).getD i 0) i with
  | true => rw [if_neg (by simp), if_pos rfl]
  | false => rw [if_pos ⟨hi, rfl⟩, if_neg (by simp)]
theorem run_kn1 {base a b : Nat} {h : Heap} {y : AVal} {t : List Int} {p : Nat} {k : Int} (ga : h[a]? = some (nB (p : Int))) (gb : h[b]? = some (nB k)) (hO : Ints h y t) (hp : p < t.length) :
    callL prog raw base (.fn 107 [] [.ptr (some ⟨a, 0, 0⟩), .ptr (some ⟨b, 0, 0⟩)]) [y] h = some (.bool (decide (t.getD p 0 = k)), h) := by
  have la := lt_of_get ga
  have lb := lt_of_get gb
  have oy := hO.one
  have hb := hO.1.1
  have ad := adrI (i := (p : Int)) (by omega) hO (by omega)
  rw [Int.toNat_natCast] at ad
  have ld := loadI hO hp
  unfold nB at ga gb
  refine callL_run func107 rfl rfl ?_
  have hsp := @Nat.succ_ne_zero; repeat' (first | simp (disch := first | exact dschL18 | fail) only [go_sem, ↓reduceIte, hsp, ga, gb, ad, ld] | refine WP_drw ?_ | refine cnd_intro (fun hsp => ?_) fun hsp => ?_)
  exact fB rfl
set_option maxRecDepth 100000 in
set_option maxHeartbeats 4000000 in
theorem run_Known {base : Nat} {h : Heap} {v : AVal} {L : Lac} (hb : base ≤ h.length) (hL : LacAt h v L) :
    Ret prog raw base (.fn 41 [] []) [v] h (fun w H => Ext h H ∧ ∃ x, w = .tuple [x, .int .i64 (kwnE L).2] ∧ OwnE encI 3 h.length H x (kwnE L).1) := by
  have hL0 := hL
  obtain ⟨cv, rv, rfl, hC, hR⟩ := hL
  have o1 := hC.one
  have o2 := hR.one
  obtain ⟨G0, eG0⟩ : ∃ G0, G0 = h ++ [lacB L.T cv rv] := ⟨_, rfl⟩
  have x0 : Ext h G0 := by rw [eG0]; exact .app .refl
  have g0 : G0[h.length]? = some (lacB L.T cv rv) := by rw [eG0]; exact get_eq rfl
  have l0 : G0.length = h.length + 1 := by rw [eG0]; simp
  obtain ⟨w1, H1, e1, x1, a, x, rfl, oa, hA, hD⟩ := run_found (base := base) (h := G0) (by omega) (hL0.ext x0)
  have ox := hA.one
  have l1 := x1.len
  unfold lacB at eG0 g0
  by_cases c : (fndE L).2 = 0
  · obtain ⟨c1, c2, c3⟩ := fndE_ok c
    obtain ⟨n, en⟩ : ∃ n, L.C.length = n := ⟨_, rfl⟩
    have hn7 : 1 ≤ n ∧ n ≤ 7 := by rw [← en]; exact (chkL_iff.1 c1).n
    have hord : ∀ o ∈ fnd L, Ord n o := fun o ho => by rw [← en]; exact fnd_ord ho
    have r : kwnE L = (knwL n (fnd L), 0) := by unfold kwnE; rw [if_pos c, en]
    rw [r]
    rw [c3] at hA e1
    have hAI : AllI G0.length H1 x (fnd L) := hA.all
    obtain ⟨vs, q1, q2', q3⟩ := hA
    have q2 : vs.length = (fnd L).length := q2'
    have hpos : 0 < (fnd L).length := by cases q : fnd L with | nil => exact absurd q c2 | cons a b => simp
    have hv0 : vs[0]? = some vs[0] := List.getElem?_eq_getElem (by omega)
    have ho := q3 0 _ _ hv0 (head_at c2)
    obtain ⟨y, ey⟩ : ∃ y, y = vs[0]'(by rw [q2]; exact hpos) := ⟨_, rfl⟩
    rw [← ey] at hv0 ho
    have hfew := fnd_few (L := L) (by omega)
    have hRw := q1.rows (show vs.length < 2 ^ 60 by omega)
    have ad := hRw.addr (P := prog) (i := ((0 : Nat) : Int)) Fc.el54 Fc.ar54 (by omega) (by omega)
    have ld : loadP prog H1 25 (elAdr x 1 0 0) = some y := hRw.cell (P := prog) Fc.ty25 hv0 (o := 0) (a := y) (by simp only [encZ, norm_one ho.one]; rfl)
    rw [Int.toNat_natCast, Int.natCast_zero] at ad
    have oy := ho.one
    have hz : encZ.z = 1 := rfl
    rw [hz] at ad
    obtain ⟨o, eo⟩ : ∃ o, o = (fnd L).headD [] := ⟨_, rfl⟩
    rw [← eo] at ho
    have hom : o ∈ fnd L := by rw [eo]; exact List.mem_of_getElem? (head_at c2)
    have hoo := hord o hom
    have hol := hoo.1
    have hIo := ownE_ints ho (ord_small hoo (by omega))
    obtain ⟨v2, H2, e2, x2, o2⟩ := run_cloneE (base := base) hIo (ord_small hoo (by omega))
    obtain ⟨id, ver, rfl, gid, hid⟩ := o2.pos (by omega)
    rw [rowE_iB] at gid
    have lid := lt_of_get gid
    have l2 := x2.len
    obtain ⟨ok, eok⟩ : ∃ ok : Nat → Bool, ok = fun p => allK (fnd L) (o.getD p 0) p := ⟨_, rfl⟩
    obtain ⟨D, eD⟩ : ∃ D : Nat → Heap, D = fun i => H2.set id (iB (knwM o ok i) ver) := ⟨_, rfl⟩
    have lD : ∀ i, (D i).length = H2.length := fun i => by rw [eD]; exact List.length_set
    have gD : ∀ i, (D i)[id]? = some (iB (knwM o ok i) ver) := fun i => by rw [eD]; exact List.getElem?_set_self lid
    have xD : ∀ i, Ext H1 (D i) := fun i => by rw [eD]; exact x2.set (by omega)
    have hD0 : D 0 = H2 := by rw [eD]; exact set_id gid
    have hDs : ∀ i j, (D i).set id (iB (knwM o ok j) ver) = D j := fun i j => by rw [eD]; exact List.set_set ..
    have ln2 : ∀ {H : Heap}, lenOpA prog H 25 (.slice (some ⟨id, ver, 0⟩) o.length o.length) = some (.int .i64 (o.length : Int)) := fun {H} => by simp [lenOpA, Fc.el25, lenA]
    refine ret_raw func41 rfl (by kernel_rfl) ?_
    have hsp := @Nat.succ_ne_zero; repeat' (first | simp (disch := first | exact dschL18 | fail) only [go_sem, ↓reduceIte, hsp, ← eG0, g0, e1, eq_self, ad, ld, e2, ln2] | refine WP_drw ?_ | refine cnd_intro (fun hsp => ?_) fun hsp => ?_)
    refine WP_count [(8, 9), (25, 37)] 0 o.length (Nat.zero_le _) (fun _ i fr K => fr 25 = .int .i64 (i : Int) ∧ Ext (D i) K) ?_ ?_ ?_
    · exact ⟨by (simp (disch := first | exact dschL18 | fail) only [go_sem, ↓reduceIte, Int.natCast_zero]; first | done | rfl), by rw [hD0]; exact .refl⟩
    · rintro i fr K hi0 hi hA2 ⟨r25, xK⟩
      have p2 := hA2 2 rfl
      have p3 := hA2 3 rfl
      have p5 := hA2 5 rfl
      have p7 := hA2 7 rfl
      have p23 := hA2 23 rfl
      have p24 := hA2 24 rfl
      try simp (disch := first | exact dschL18 | fail) only [go_sem, ↓reduceIte] at p2 p3 p5 p7 p23 p24
      have hlt : ((i : Int) < (o.length : Int)) = True := eq_true (by omega)
      have lK := xK.len
      have lDi := lD i
      have gK := xK.get (gD i)
      have hkl := knwM_len (o := o) (ok := ok) i
      have adr : indexAddrA prog 25 (.slice (some ⟨id, ver, 0⟩) o.length o.length) (.int .i64 (i : Int)) = some (.ptr (some ⟨id, ver, i⟩)) := by
        rw [adr_sl Fc.el25 Fc.ar25 (by omega) (by omega), Int.toNat_natCast, Nat.mul_one, Nat.zero_add]
      obtain ⟨k, ek⟩ : ∃ k, k = o.getD i 0 := ⟨_, rfl⟩
      have d1 : loadP prog K 3 (.ptr (some ⟨id, ver, i⟩)) = some (.int .i64 k) := by
        rw [load_eq, Fc.ty3, gK, ldB_ints (by omega), knwM_at (by omega), if_neg (by omega), ek]
      obtain ⟨K1, eK1⟩ : ∃ K1, K1 = K ++ [nB (i : Int)] := ⟨_, rfl⟩
      obtain ⟨K2, eK2⟩ : ∃ K2, K2 = K1 ++ [nB k] := ⟨_, rfl⟩
      have y1 : Ext K K1 := by rw [eK1]; exact .app .refl
      have y2 : Ext K1 K2 := by rw [eK2]; exact .app .refl
      have lK1 : K1.length = K.length + 1 := by rw [eK1]; simp
      have lK2 : K2.length = K.length + 2 := by rw [eK2]; simp [lK1]
      have ga : K2[K.length]? = some (nB (i : Int)) := by rw [eK2]; exact get_app (by rw [eK1]; exact get_eq rfl)
      have gb : K2[K.length + 1]? = some (nB k) := by rw [eK2]; exact get_eq lK1.symm
      have xDK := (xK.trans y1).trans y2
      have hev := every_Z (base := base) (b := G0.length) (h := K2) (v := x) (g := .fn 107 [] [.ptr (some ⟨K.length, 0, 0⟩), .ptr (some ⟨K.length + 1, 0, 0⟩)]) (ts := fnd L) (fun t => decide (t.getD i 0 = k)) (by omega) ⟨rfl, rfl, rfl⟩ (hAI.ext ((xD i).trans xDK)) (by omega)
        (fun z t ht hz => run_kn1 (get_app ga) (get_app gb) ((ownE_ints hz (ord_small (hord t ht) (by omega))).ext (.app .refl)) (by have := (hord t ht).1; omega))
      rw [show (fnd L).all (fun t => decide (t.getD i 0 = k)) = ok i by rw [eok, ek]; rfl] at hev
      obtain ⟨K3, eK3⟩ : ∃ K3, K3 = K2 ++ [evZ (.fn 107 [] [.ptr (some ⟨K.length, 0, 0⟩), .ptr (some ⟨K.length + 1, 0, 0⟩)])] := ⟨_, rfl⟩
      rw [← eK3] at hev
      have y3 : Ext K2 K3 := by rw [eK3]; exact .app .refl
      have ga3 := y3.get ga
      have xD3 := xDK.trans y3
      have gK3 := xD3.get (gD i)
      have l3 := xD3.len
      unfold nB at eK1 eK2 ga3
      cases c5 : ok i with
      | true =>
        rw [c5] at hev
        have hDi : D (i + 1) = D i := by rw [eD]; simp only [knwM, if_pos c5]
        have hsp := @Nat.succ_ne_zero; repeat' (first | simp (disch := first | exact dschL18 | fail) only [go_sem, ↓reduceIte, hsp, r25, p2, p3, p5, p7, p23, p24, hlt, adr, d1, ← eK1, ← eK2, hev] | refine WP_drw ?_ | refine cnd_intro (fun hsp => ?_) fun hsp => ?_)
        exact ⟨by (repeat first | exact Agree.refl | assumption | refine Agree.put rfl ?_ | refine Agree.put0 ?_ | refine Agree.sub rfl (by assumption) ?_), by omega, by rw [hDi]; exact xD3⟩
      | false =>
        rw [c5] at hev
        have hst : ∀ {F : ABlk → Heap}, stQ base id (some (iB (knwM o ok i) ver)) ver i [.int .i64 (-1)] F = some (F (iB ((knwM o ok i).set i (-1)) ver)) := fun {F} => stQ_ints (by omega)
        have hkm : (knwM o ok i).set i (-1) = knwM o ok (i + 1) := by rw [knwM, if_neg (by rw [c5]; simp)]
        rw [hkm] at hst
        have hfin : Ext (D (i + 1)) (K3.set id (iB (knwM o ok (i + 1)) ver)) := by
          have := xD3.set2 (i := id) (k := iB (knwM o ok (i + 1)) ver) (by omega)
          rwa [hDs] at this
        have hsp := @Nat.succ_ne_zero; repeat' (first | simp (disch := first | exact dschL18 | fail) only [go_sem, ↓reduceIte, hsp, r25, p2, p3, p5, p7, p23, p24, hlt, adr, d1, ← eK1, ← eK2, hev, ga3, gK3, hst] | refine WP_drw ?_ | refine cnd_intro (fun hsp => ?_) fun hsp => ?_)
        exact ⟨by (repeat first | exact Agree.refl | assumption | refine Agree.put rfl ?_ | refine Agree.put0 ?_ | refine Agree.sub rfl (by assumption) ?_), by omega, hfin⟩
    · rintro fr K hA2 ⟨r25, xK⟩
      have p2 := hA2 2 rfl
      have p3 := hA2 3 rfl
      have p5 := hA2 5 rfl
      have p7 := hA2 7 rfl
      have p23 := hA2 23 rfl
      have p24 := hA2 24 rfl
      try simp (disch := first | exact dschL18 | fail) only [go_sem, ↓reduceIte] at p2 p3 p5 p7 p23 p24
      have hlt : ((o.length : Int) < (o.length : Int)) = False := eq_false (by omega)
      have gK := xK.get (gD o.length)
      have hfe : knwM o ok o.length = knwL n (fnd L) := by
        rw [eok, eo, ← knwM_all (n := n) (by rw [← eo]; exact hol)]
        rw [← eo, hol]
      have hsp := @Nat.succ_ne_zero; repeat' (first | simp (disch := first | exact dschL18 | fail) only [go_sem, ↓reduceIte, hsp, r25, p2, p3, p5, p7, p23, p24, hlt] | refine WP_drw ?_ | refine cnd_intro (fun hsp => ?_) fun hsp => ?_)
      refine ⟨((x0.trans x1).trans (xD _)).trans xK, _, rfl, .inl (.inr ⟨id, ver, ?_, ?_, by omega, ?_⟩)⟩
      · rw [← hfe, knwM_len]
      · rw [gK, rowE_iB, hfe]
      · rw [← hfe, knwM_len]; omega
  · have t0 : ((fndE L).2 = 0) = False := eq_false c
    have r : kwnE L = ([], (fndE L).2) := by unfold kwnE; rw [if_neg c]
    rw [r]
    refine ret_raw func41 rfl (by kernel_rfl) ?_
    have hsp := @Nat.succ_ne_zero; repeat' (first | simp (disch := first | exact dschL18 | fail) only [go_sem, ↓reduceIte, hsp, ← eG0, g0, e1, t0] | refine WP_drw ?_ | refine cnd_intro (fun hsp => ?_) fun hsp => ?_)
    exact ⟨x0.trans x1, _, rfl, .inl Own.nil⟩
end Go.AM
/-
  Contracts: as few positions as can be that decide (Decide).
-/
namespace Go.AM
open Go.Proofs.Try
attribute [-go_sem] put_ne put_same
attribute [local go_sem ↓] put_if
/-- The key of an order, as far as it is made. -/
def kyN (l o : List Int) (i : Nat) : List Int := ((l.take i).map fun p => o.getD p.toNat 0) ++ List.replicate (7 - i) 0
def kyA (l o : List Int) : List Int := keyL l o ++ List.replicate (7 - l.length) 0
abbrev mbB (m : Nat) : ABlk := ⟨.cells [.map (some m)] 156 false false, 0⟩
abbrev kyB (k : List Int) : ABlk := ⟨.cells (ints k) 157 false false, 0⟩
end Go.AM
/-
  Contracts: Decide.
-/
namespace Go.AM
open Go.Proofs.Try
attribute [-go_sem] put_ne put_same
attribute [local go_sem ↓] put_if
/-- No map. -/
def prC (b : ABlk) : Prop := ∀ es, b ≠ ⟨.map es, 0⟩
def dcdE (L : Lac) : List Int × Int := if (fndE L).2 = 0 then (dcdL L.C.length (fnd L), 0) else ([], (fndE L).2)
end Go.AM
/-
  Contracts: the cards that fit a position, whether an order explains the rows, or the errors; whether a list has each number once.
-/
namespace Go.AM
open Go.Proofs.Try
theorem dschL24 {p : Prop} (h : p := by first | exact Nat.ne_of_beq_eq_false rfl | assumption | (apply asOne; (first | exact One.int | exact One.bool | assumption | exact Ints.one (by assumption) | exact Rows.one (by assumption) | exact Own.one (by assumption) | exact One.lit ⟨rfl, rfl, rfl⟩)) | (apply asInts; (repeat first | assumption | exact ints_nil | apply Ints.app); done) | (apply asRows; (repeat first | assumption | exact Rows.nil | apply Rows.app); done) | (apply asScal; (first | apply allS1 | apply allS2 | apply allS3 | apply allS4) <;> (first | exact One.int | exact One.bool | assumption | exact Ints.one (by assumption) | exact Rows.one (by assumption) | exact Own.one (by assumption) | exact One.lit ⟨rfl, rfl, rfl⟩)) | exact litT rfl | exact litF rfl | omega | (simp only [List.length_append, List.length_cons, List.length_nil, List.length_set, List.length_reverse]; first | done | omega) | fail) : p := h
attribute [-go_sem] put_ne put_same
attribute [local go_sem ↓] put_if
theorem run_pos2 {base : Nat} {h : Heap} {T x : Int} {cv rv : AVal} {l : List Int} (hC : Ints h cv l) (o2 : One rv) : callL prog raw base (.fn 113 [] []) [.agg [.int .i64 T, cv, rv], .int .i64 x] h = some (.bool (decide (0 ≤ x ∧ x ≤ (l.length : Int) - 1)), h) := by
  have o1 := hC.one
  have hb := hC.1.1
  obtain ⟨G, eG⟩ : ∃ G, G = h ++ [lacB T cv rv] := ⟨_, rfl⟩
  have xG : Ext h G := by rw [eG]; exact .app .refl
  have g0 : G[h.length]? = some (lacB T cv rv) := by rw [eG]; exact get_eq rfl
  have hl := lenI (hC.ext xG)
  unfold lacB at eG g0
  refine callL_run func113 rfl rfl ?_
  have hsp := @Nat.succ_ne_zero; repeat' (first | simp (disch := first | exact dschL24 | fail) only [go_sem, ↓reduceIte, hsp, ← eG, g0, hl] | refine WP_drw ?_ | refine cnd_intro (fun hsp => ?_) fun hsp => ?_)
  exact fB rfl xG
def fitE (L : Lac) (p : Int) : List Int × Int := if chkL L ≠ 0 then ([], chkL L) else if ¬ (0 ≤ p ∧ p ≤ (L.C.length : Int) - 1) then ([], 1) else (fitL L p.toNat, 0)
set_option maxHeartbeats 1000000 in
theorem run_Fit {base : Nat} {h : Heap} {v : AVal} {L : Lac} {p : Int} (hb : base ≤ h.length) (hL : LacAt h v L) :
    Ret prog raw base (.fn 49 [] []) [v, .int .i64 p] h (fun w H => Ext h H ∧ ∃ x, w = .tuple [x, .int .i64 (fitE L p).2] ∧ Own encI 3 h.length H x (fitE L p).1) := by
  have hL0 := hL
  obtain ⟨cv, rv, rfl, hC, hR⟩ := hL
  have o1 := hC.one
  have o2 := hR.one
  obtain ⟨G0, eG0⟩ : ∃ G0, G0 = h ++ [lacB L.T cv rv] := ⟨_, rfl⟩
  have x0 : Ext h G0 := by rw [eG0]; exact .app .refl
  have g0 : G0[h.length]? = some (lacB L.T cv rv) := by rw [eG0]; exact get_eq rfl
  have l0 : G0.length = h.length + 1 := by rw [eG0]; simp
  obtain ⟨w1, H1, e1, x1, r1, r2⟩ := run_opened (base := base) (h := G0) (by omega) (hL0.ext x0)
  have l1 := x1.len
  have g1 := x1.get g0
  have hps2 := run_pos2 (base := base) (T := L.T) (x := p) (rv := rv) (hC.ext (x0.trans x1)) o2
  unfold lacB at eG0 g0 g1
  refine ret_raw func49 rfl (by kernel_rfl) ?_
  by_cases c0 : chkL L = 0
  · obtain ⟨id, rfl, hid, hD⟩ := r2 c0
    have kn := (chkL_iff.1 c0).n
    by_cases c1 : 0 ≤ p ∧ p ≤ (L.C.length : Int) - 1
    · rw [decide_eq_true c1] at hps2
      obtain ⟨q, rfl⟩ := Int.eq_ofNat_of_zero_le c1.1
      obtain ⟨w2, H2, e2, x2, oF⟩ := run_fit (base := base) (p := q) (by omega) hD kn.2 (by omega)
      have ow := oF.one
      have hl2 := x2.len
      have r : fitE L (q : Int) = (fitL L q, 0) := by unfold fitE; rw [if_neg (by simp [c0]), if_neg (fun z => z c1), Int.toNat_natCast]
      rw [r]
      have hsp := @Nat.succ_ne_zero; repeat' (first | simp (disch := first | exact dschL24 | fail) only [go_sem, ↓reduceIte, hsp, ← eG0, g0, e1, eq_self, g1, hps2, e2] | refine WP_drw ?_ | refine cnd_intro (fun hsp => ?_) fun hsp => ?_)
      exact ⟨(x0.trans x1).trans x2, _, rfl, oF.low (by omega)⟩
    · rw [decide_eq_false c1] at hps2
      have r : fitE L p = ([], 1) := by unfold fitE; rw [if_neg (by simp [c0]), if_pos c1]
      rw [r]
      have hsp := @Nat.succ_ne_zero; repeat' (first | simp (disch := first | exact dschL24 | fail) only [go_sem, ↓reduceIte, hsp, ← eG0, g0, e1, eq_self, g1, hps2] | refine WP_drw ?_ | refine cnd_intro (fun hsp => ?_) fun hsp => ?_)
      exact ⟨x0.trans x1, _, rfl, Own.nil⟩
  · have t0 : (chkL L = 0) = False := eq_false c0
    have q := r1 c0
    subst q
    have r : fitE L p = ([], chkL L) := by unfold fitE; rw [if_pos c0]
    rw [r]
    have hsp := @Nat.succ_ne_zero; repeat' (first | simp (disch := first | exact dschL24 | fail) only [go_sem, ↓reduceIte, hsp, ← eG0, g0, e1, t0, g1] | refine WP_drw ?_ | refine cnd_intro (fun hsp => ?_) fun hsp => ?_)
    exact ⟨x0.trans x1, _, rfl, Own.nil⟩
def xplD (L : Lac) (o : List Int) (i : Nat) : Bool := (List.range i).all fun i => fitB L i (o.getD i 0).toNat
theorem xplD_iff {L : Lac} {o : List Int} : xplD L o o.length = true ↔ Xpl L o := by
  unfold xplD Xpl
  rw [List.all_eq_true]
  exact ⟨fun h i hi => h i (List.mem_range.2 hi), fun h i hi => h i (List.mem_range.1 hi)⟩
/-- The error of a chain, or of an order of its cards. -/
def lcdE (L : Lac) (o : List Int) : Int := if chkL L = 0 then ordL o L.C.length else chkL L
def xpsE (L : Lac) (o : List Int) : Bool × Int := if lcdE L o = 0 then (xplD L o o.length, 0) else (false, lcdE L o)
/-- Each number below n is there once. -/
def prmB (l : List Int) (n : Nat) : Bool := decide (l.length = n) && (upto n).all fun k => decide (k ∈ l)
theorem run_permutes {base n : Nat} {h : Heap} {v : AVal} {l : List Int} (hI : Ints h v l) : callL prog raw base (.fn 71 [] []) [v, .int .i64 (n : Int)] h = some (.bool (prmB l n), h) := by
  have hl := hI.1.1
  have ov := hI.one
  have hlo := lenI hI
  refine callL_run func71 rfl rfl ?_
  by_cases c : l.length = n
  · have t1 : ((l.length : Int) = (n : Int)) = True := eq_true (by omega)
    have hsp := @Nat.succ_ne_zero; repeat' (first | simp (disch := first | exact dschL24 | fail) only [go_sem, ↓reduceIte, hsp, hlo, t1] | refine WP_drw ?_ | refine cnd_intro (fun hsp => ?_) fun hsp => ?_)
    refine WP_count [(4, 5), (11, 18)] 0 n (Nat.zero_le _) (fun _ i fr H => fr 11 = .int .i64 (i : Int) ∧ H = h ∧ (upto i).all (fun k => decide (k ∈ l)) = true) ?_ ?_ ?_
    · exact ⟨by (simp (disch := first | exact dschL24 | fail) only [go_sem, ↓reduceIte, Int.natCast_zero]; first | done | rfl), rfl, rfl⟩
    · rintro i fr H hi0 hi hA ⟨r11, rfl, hx⟩
      have q0 := hA 0 rfl
      have q10 := hA 10 rfl
      try simp (disch := first | exact dschL24 | fail) only [go_sem, ↓reduceIte] at q0 q10
      have hlt : ((i : Int) < (n : Int)) = True := eq_true (by omega)
      have hc := fun base => run_contains (base := base) (x := (i : Int)) hI
      by_cases m : (i : Int) ∈ l
      · rw [decide_eq_true m] at hc
        have hsp := @Nat.succ_ne_zero; repeat' (first | simp (disch := first | exact dschL24 | fail) only [go_sem, ↓reduceIte, hsp, r11, q0, q10, hlt, hc] | refine WP_drw ?_ | refine cnd_intro (fun hsp => ?_) fun hsp => ?_)
        exact ⟨by (repeat first | exact Agree.refl | assumption | refine Agree.put rfl ?_ | refine Agree.put0 ?_ | refine Agree.sub rfl (by assumption) ?_), by omega, by rw [upto_succ, List.all_append, hx]; simp [m]⟩
      · rw [decide_eq_false m] at hc
        have hsp := @Nat.succ_ne_zero; repeat' (first | simp (disch := first | exact dschL24 | fail) only [go_sem, ↓reduceIte, hsp, r11, q0, q10, hlt, hc] | refine WP_drw ?_ | refine cnd_intro (fun hsp => ?_) fun hsp => ?_)
        refine fB ?_
        unfold prmB
        rw [show (upto n).all (fun k => decide (k ∈ l)) = false from all_no (x := (i : Int)) (n := i) (by
          have : (upto n)[i]? = some ((upto n).getD i 0) := getD_some (by rw [upto_len]; exact hi)
          rw [this]
          show some ((lst _ n).getD i 0) = _
          rw [lst_get hi]) (decide_eq_false m), Bool.and_false]
    · rintro fr H hA ⟨r11, rfl, hx⟩
      have q0 := hA 0 rfl
      have q10 := hA 10 rfl
      try simp (disch := first | exact dschL24 | fail) only [go_sem, ↓reduceIte] at q0 q10
      have hlt : ((n : Int) < (n : Int)) = False := eq_false (by omega)
      have hsp := @Nat.succ_ne_zero; repeat' (first | simp (disch := first | exact dschL24 | fail) only [go_sem, ↓reduceIte, hsp, r11, q0, q10, hlt] | refine WP_drw ?_ | refine cnd_intro (fun hsp => ?_) fun hsp => ?_)
      refine fB ?_
      unfold prmB
      rw [hx, decide_eq_true c]; rfl
  · have t1 : ((l.length : Int) = (n : Int)) = False := eq_false (by omega)
    have hsp := @Nat.succ_ne_zero; repeat' (first | simp (disch := first | exact dschL24 | fail) only [go_sem, ↓reduceIte, hsp, hlo, t1] | refine WP_drw ?_ | refine cnd_intro (fun hsp => ?_) fun hsp => ?_)
    refine fB ?_
    unfold prmB
    rw [decide_eq_false c, Bool.false_and]
end Go.AM
/-
  Contracts: what moves make of an order, or the errors.
-/
namespace Go.AM
open Go.Proofs.Try
theorem dschL7 {p : Prop} (h : p := by first | exact Nat.ne_of_beq_eq_false rfl | assumption | (apply asOne; (first | exact One.int | exact One.bool | assumption | exact Ints.one (by assumption) | exact Rows.one (by assumption) | exact Own.one (by assumption) | exact One.lit ⟨rfl, rfl, rfl⟩)) | (apply asInts; (repeat first | assumption | exact ints_nil | apply Ints.app); done) | (apply asRows; (repeat first | assumption | exact Rows.nil | apply Rows.app); done) | (apply asScal; (first | apply allS1 | apply allS2 | apply allS3 | apply allS4) <;> (first | exact One.int | exact One.bool | assumption | exact Ints.one (by assumption) | exact Rows.one (by assumption) | exact Own.one (by assumption) | exact One.lit ⟨rfl, rfl, rfl⟩)) | exact litT rfl | exact litF rfl | omega | (simp only [List.length_append, List.length_cons, List.length_nil, List.length_set, List.length_reverse]; first | done | omega) | fail) : p := h
attribute [-go_sem] put_ne put_same
attribute [local go_sem ↓] put_if
def makE (o : List Int) (ms : List (Int × Int)) : List Int × Int := if aloL o = 0 then makF o.length ms o else ([], aloL o)
theorem perm_small' {l m : List Int} (h : l.Perm m) (hs : Small m) : Small l := ⟨by rw [h.length_eq]; exact hs.1, fun x hx => hs.2 x (h.mem_iff.1 hx)⟩
set_option maxHeartbeats 2000000 in
theorem run_Make {base : Nat} {h : Heap} {v mv : AVal} {o : List Int} {ms : List (Int × Int)} (hb : base ≤ h.length) (hI : Ints h v o) (hM : Rows encM h mv ms) (hml : ms.length ≤ 100000) :
    Ret prog raw base (.fn 26 [] []) [v, mv] h (fun w H => Ext h H ∧ ∃ x, w = .tuple [x, .int .i64 (makE o ms).2] ∧ OwnE encI 3 h.length H x (makE o ms).1) := by
  have ha := fun base => run_alone (base := base) hI
  have hv1 := hI.one
  have hm1 := hM.one
  by_cases c : aloL o = 0
  · obtain ⟨c1, c2, c3⟩ := aloL_iff.1 c
    rw [c] at ha
    have hsm := small_ints hI (by omega)
    obtain ⟨n, en⟩ : ∃ n, n = o.length := ⟨_, rfl⟩
    have r : makE o ms = makF n ms o := by unfold makE; rw [if_pos c, en]
    rw [r]
    obtain ⟨v1, H1, e1, x1, o1⟩ := run_cloneE (base := base) hI hsm
    have hl1 := x1.len
    have ov1 := o1.one
    have hlm := (hM.ext x1).len (P := prog) Fc.el33
    refine ret_raw func26 rfl (by kernel_rfl) ?_
    have hsp := @Nat.succ_ne_zero; repeat' (first | simp (disch := first | exact dschL7 | fail) only [go_sem, ↓reduceIte, hsp, ha, eq_self, e1, hlm] | refine WP_drw ?_ | refine cnd_intro (fun hsp => ?_) fun hsp => ?_)
    refine WP_count [(4, 9), (19, 42)] 0 ms.length (Nat.zero_le _) (fun _ i fr K => fr 19 = .int .i64 (i : Int) ∧ Ext h K ∧ ∃ o' w, fr 7 = w ∧ OwnE encI 3 h.length K w o' ∧ o'.Perm o ∧ makF n ms o = makF n (ms.drop i) o') ?_ ?_ ?_
    · exact ⟨by (simp (disch := first | exact dschL7 | fail) only [go_sem, ↓reduceIte, Int.natCast_zero]; first | done | rfl), x1, o, v1, by simp (disch := first | exact dschL7 | fail) only [go_sem, ↓reduceIte], o1, .refl _, rfl⟩
    · rintro i fr K hi0 hi hA ⟨r19, xK, o', w, r7, hO, hp, hF⟩
      have p17 := hA 17 rfl
      have p18 := hA 18 rfl
      try simp (disch := first | exact dschL7 | fail) only [go_sem, ↓reduceIte] at p17 p18
      have hlt : ((i : Int) < (ms.length : Int)) = True := eq_true (by omega)
      obtain ⟨⟨a, b⟩, em⟩ : ∃ m, ms[i] = m := ⟨_, rfl⟩
      have hx : ms[i]? = some (a, b) := by rw [List.getElem?_eq_getElem hi, em]
      have hMK := hM.ext xK
      have ad := hMK.addr (P := prog) (i := (i : Int)) Fc.el33 Fc.ar33 (by omega) (by omega)
      rw [Int.toNat_natCast] at ad
      have ld := hMK.load (P := prog) Fc.ty36 hx
      simp only [encM] at ad ld
      have hw1 := hO.one
      have hKl := xK.len
      have hol : o'.length = n := by rw [hp.length_eq, en]
      obtain ⟨G, eG⟩ : ∃ G, G = K ++ [mvB a b] := ⟨_, rfl⟩
      have xG : Ext K G := by rw [eG]; exact .app .refl
      have gG : G[K.length]? = some (mvB a b) := by rw [eG]; exact get_eq rfl
      have hGl := xG.len
      have iG := (ownE_ints hO (perm_small' hp hsm)).ext xG
      have lG := lenI iG
      have hst : makF n (ms.drop i) o' = if (0 ≤ a ∧ a < (n : Int)) ∧ (0 ≤ b ∧ b < (n : Int)) then makF n (ms.drop (i + 1)) (mvL o' a.toNat b.toNat) else ([], 1) := by
        rw [List.drop_eq_getElem_cons hi, em, makF]
      unfold mvB at eG gG
      by_cases q1 : 0 ≤ a ∧ a < (n : Int)
      · have t1 : decide (0 ≤ a ∧ a ≤ (o'.length : Int) - 1) = true := decide_eq_true (by omega)
        by_cases q2 : 0 ≤ b ∧ b < (n : Int)
        · have t2 : decide (0 ≤ b ∧ b ≤ (o'.length : Int) - 1) = true := decide_eq_true (by omega)
          rw [if_pos ⟨q1, q2⟩] at hst
          obtain ⟨a', rfl⟩ := Int.eq_ofNat_of_zero_le q1.1
          obtain ⟨b', rfl⟩ := Int.eq_ofNat_of_zero_le q2.1
          rw [Int.toNat_natCast, Int.toNat_natCast] at hst
          obtain ⟨w2, H2, e2, x2, o2⟩ := run_made (base := base) (f := a') (t := b') (by omega) iG (by omega) (by omega) (by omega)
          have ow2 := o2.one
          have hsp := @Nat.succ_ne_zero; repeat' (first | simp (disch := first | exact dschL7 | fail) only [go_sem, ↓reduceIte, hsp, r19, r7, p17, p18, hlt, ad, ld, ← eG, gG, lG, t1, t2, e2] | refine WP_drw ?_ | refine cnd_intro (fun hsp => ?_) fun hsp => ?_)
          refine ⟨by (repeat first | exact Agree.refl | assumption | refine Agree.put rfl ?_ | refine Agree.put0 ?_ | refine Agree.sub rfl (by assumption) ?_), by omega, xK.trans (xG.trans x2), _, w2, rfl, OwnE.low (b' := h.length) (.inl o2) (by omega), (mvL_perm (by omega) (by omega)).trans hp, by rw [hF, hst]⟩
        · have t2 : decide (0 ≤ b ∧ b ≤ (o'.length : Int) - 1) = false := decide_eq_false (by omega)
          rw [if_neg (fun q => q2 q.2)] at hst
          have hsp := @Nat.succ_ne_zero; repeat' (first | simp (disch := first | exact dschL7 | fail) only [go_sem, ↓reduceIte, hsp, r19, r7, p17, p18, hlt, ad, ld, ← eG, gG, lG, t1, t2] | refine WP_drw ?_ | refine cnd_intro (fun hsp => ?_) fun hsp => ?_)
          exact ⟨xK.trans xG, _, by rw [hF, hst], by rw [hF, hst]; exact .inl Own.nil⟩
      · have t1 : decide (0 ≤ a ∧ a ≤ (o'.length : Int) - 1) = false := decide_eq_false (by omega)
        rw [if_neg (fun q => q1 q.1)] at hst
        have hsp := @Nat.succ_ne_zero; repeat' (first | simp (disch := first | exact dschL7 | fail) only [go_sem, ↓reduceIte, hsp, r19, r7, p17, p18, hlt, ad, ld, ← eG, gG, lG, t1] | refine WP_drw ?_ | refine cnd_intro (fun hsp => ?_) fun hsp => ?_)
        exact ⟨xK.trans xG, _, by rw [hF, hst], by rw [hF, hst]; exact .inl Own.nil⟩
    · rintro fr K hA ⟨r19, xK, o', w, r7, hO, hp, hF⟩
      have p17 := hA 17 rfl
      have p18 := hA 18 rfl
      try simp (disch := first | exact dschL7 | fail) only [go_sem, ↓reduceIte] at p17 p18
      have hlt : ((ms.length : Int) < (ms.length : Int)) = False := eq_false (by omega)
      have hw1 := hO.one
      rw [List.drop_length, makF] at hF
      have hsp := @Nat.succ_ne_zero; repeat' (first | simp (disch := first | exact dschL7 | fail) only [go_sem, ↓reduceIte, hsp, r19, r7, p17, p18, hlt] | refine WP_drw ?_ | refine cnd_intro (fun hsp => ?_) fun hsp => ?_)
      exact ⟨xK, _, by rw [hF], by rw [hF]; exact hO⟩
  · have t1 : (aloL o = 0) = False := eq_false c
    have r : makE o ms = ([], aloL o) := by unfold makE; rw [if_neg c]
    rw [r]
    refine ret_raw func26 rfl (by kernel_rfl) ?_
    have hsp := @Nat.succ_ne_zero; repeat' (first | simp (disch := first | exact dschL7 | fail) only [go_sem, ↓reduceIte, hsp, ha, t1] | refine WP_drw ?_ | refine cnd_intro (fun hsp => ?_) fun hsp => ?_)
    exact ⟨.refl, _, rfl, .inl Own.nil⟩
end Go.AM
/-
  Contracts: an order whose cards are moved along a ring (turned), the cards that weave the first throws (Weave).
-/
namespace Go.AM
open Go.Proofs.Try
attribute [-go_sem] put_ne put_same
attribute [local go_sem ↓] put_if
end Go.AM
/-
  Plain: an order whose cards are moved along any ring is an order; the least number of some kind.
-/
namespace Go.AM
end Go.AM
/-
  Contracts: the cards that weave the first throws (Weave), an order along a ring (Turned).
-/
namespace Go.AM
open Go.Proofs.Try
attribute [-go_sem] put_ne put_same
attribute [local go_sem ↓] put_if
def wvL (L : Lac) (o : List Int) (n : Nat) : List Int := lst (fun t => L.C.getD (o.getD (t % o.length) 0).toNat 0) n
def wvE (L : Lac) (o : List Int) (n : Int) : List Int × Int := if lcdE L o = 0 then (if 0 ≤ n ∧ n ≤ 999 then (wvL L o n.toNat, 0) else ([], 3)) else ([], lcdE L o)
def trdE (L : Lac) (o ring : List Int) : List Int × Int :=
  if lcdE L o ≠ 0 then ([], lcdE L o) else if ring.length < 2 then ([], 2) else if ¬ (ring.all fun x => decide (0 ≤ x ∧ x ≤ (L.C.length : Int) - 1)) = true then ([], 1) else if twB ring = true then ([], 5) else
  if (xplD L o o.length && xplD L (trnL o ring) o.length) = true then (trnL o ring, 0) else ([], 8)
end Go.AM
/-
  Contracts: a ring of the first order that explains the rows (Ring).
-/
namespace Go.AM
open Go.Proofs.Try
attribute [-go_sem] put_ne put_same
attribute [local go_sem ↓] put_if
/-- A ring along which the second order differs from the first one. -/
def IsRing (L : Lac) (l : List Int) : Prop := ∃ o1 o2 a r, (fnd L)[0]? = some o1 ∧ (fnd L)[1]? = some o2 ∧ a < L.C.length ∧ o1.getD a 0 ≠ o2.getD a 0 ∧ 0 < r ∧ itr o1 o2 a r = a ∧ (∀ i, 0 < i → i < r → itr o1 o2 a i ≠ a) ∧ l = rngL o1 o2 a r
def rngE (L : Lac) : Int := if (fndE L).2 = 0 then (if (fnd L).length = 1 then 6 else 0) else (fndE L).2
end Go.AM
/-
  Copies of slices of structs.
-/
namespace Go.AM
open Go.Proofs.Try
section
variable {α : Type} {E : Enc α} {P : Program} {base : Nat} {h : Heap} {v : AVal} {l : List α} {t e : TypeId} {zs : List AVal}
/-- A slice that is read is nil, or empty, or not nil. -/
theorem Rows.nilEq2 (hR : Rows E h v l) (ht : P.underlying t = some (.slice e)) : (v = .slice none 0 0 ∧ l = [] ∧ binA P .eql t v (.slice .none 0 0) = some (.bool true)) ∨ binA P .eql t v (.slice .none 0 0) = some (.bool false) := by
  rcases hR.2 with ⟨rfl, rfl⟩ | ⟨rfl, rfl⟩ | ⟨r, k, c, e, row, ro, rfl, _⟩
  · exact .inl ⟨rfl, rfl, by simp [binA, eqT, eqDepth, ht, nilS]⟩
  · exact .inr (by simp [binA, eqT, eqDepth, ht, nilS])
  · exact .inr (by simp [binA, eqT, eqDepth, ht, nilS])
theorem app_empE (hR : Rows E h v l) (hl : l ≠ []) (hs : ∀ y, (E.cells y).all AVal.scalar = true) (hsz : l.length < 2147483648) (ht : elS P t = some (e, E.z, zs)) :
    appendA P base h t .emp v = some (.slice (some ⟨h.length, 0, 0⟩) l.length l.length, h ++ [rowE E e l 0]) := by
  have hn : l.length ≠ 0 := fun q => hl (List.eq_nil_of_length_eq_zero q)
  simp only [appendA, ht, hR.lenA, hR.firstN, flat_scalar hs, if_true]
  rw [if_neg hn, if_pos (show l.length < 2 ^ 31 by omega)]
  first | done | rfl
end
end Go.AM
/-
  Contracts: copies of rows and chains, comparison of chains, a chain with one row more (See).
-/
namespace Go.AM
open Go.Proofs.Try
theorem dschL44 {p : Prop} (h : p := by first | exact Nat.ne_of_beq_eq_false rfl | assumption | (apply asOne; (first | exact One.int | exact One.bool | assumption | exact Ints.one (by assumption) | exact Rows.one (by assumption) | exact Own.one (by assumption) | exact One.lit ⟨rfl, rfl, rfl⟩)) | (apply asInts; (repeat first | assumption | exact ints_nil | apply Ints.app); done) | (apply asRows; (repeat first | assumption | exact Rows.nil | apply Rows.app); done) | (apply asScal; (first | apply allS1 | apply allS2 | apply allS3 | apply allS4) <;> (first | exact One.int | exact One.bool | assumption | exact Ints.one (by assumption) | exact Rows.one (by assumption) | exact Own.one (by assumption) | exact One.lit ⟨rfl, rfl, rfl⟩)) | exact litT rfl | exact litF rfl | omega | (simp only [List.length_append, List.length_cons, List.length_nil, List.length_set, List.length_reverse]; first | done | omega) | fail) : p := h
attribute [-go_sem] put_ne put_same
attribute [local go_sem ↓] put_if
theorem run_cloneR {base : Nat} {h : Heap} {v : AVal} {l : List Rw3} (hR : Rows encR h v l) (hl : l.length ≤ 1000) :
    Ret prog raw base (.fn 109 [] []) [v] h (fun w H => Ext h H ∧ OwnE encR 70 h.length H w l) := by
  have ho := hR.one
  have hsz : l.length < 2147483648 := by omega
  refine ret_raw func109 rfl (by kernel_rfl) ?_
  rcases hR.nilEq2 Fc.un42 with ⟨rfl, rfl, e⟩ | e
  · have hsp := @Nat.succ_ne_zero; repeat' (first | simp (disch := first | exact dschL44 | fail) only [go_sem, ↓reduceIte, hsp, e] | refine WP_drw ?_ | refine cnd_intro (fun hsp => ?_) fun hsp => ?_)
    exact ⟨.refl, .inl Own.nil⟩
  · by_cases hl0 : l = []
    · subst hl0
      have ha := fun base => app_none (base := base) hR Fc.el42
      have hsp := @Nat.succ_ne_zero; repeat' (first | simp (disch := first | exact dschL44 | fail) only [go_sem, ↓reduceIte, hsp, e, bs_emp Fc.el42, ha] | refine WP_drw ?_ | refine cnd_intro (fun hsp => ?_) fun hsp => ?_)
      exact ⟨.refl, .inr ⟨rfl, rfl⟩⟩
    · have ha := fun base => app_empE (base := base) hR hl0 encR_sc hsz Fc.el42
      have hsp := @Nat.succ_ne_zero; repeat' (first | simp (disch := first | exact dschL44 | fail) only [go_sem, ↓reduceIte, hsp, e, bs_emp Fc.el42, ha] | refine WP_drw ?_ | refine cnd_intro (fun hsp => ?_) fun hsp => ?_)
      exact ⟨.app .refl, .inl (.inr ⟨h.length, 0, rfl, get_eq rfl, Nat.le_refl _, List.length_pos_iff.2 hl0⟩)⟩
end Go.AM
/-
  Contracts: a chain with one row more (See); whether an order explains the rows, as the statements ask it.
-/
namespace Go.AM
open Go.Proofs.Try
theorem dschL45 {p : Prop} (h : p := by first | exact Nat.ne_of_beq_eq_false rfl | assumption | (apply asOne; (first | exact One.int | exact One.bool | assumption | exact Ints.one (by assumption) | exact Rows.one (by assumption) | exact Own.one (by assumption) | exact One.lit ⟨rfl, rfl, rfl⟩)) | (apply asInts; (repeat first | assumption | exact ints_nil | apply Ints.app); done) | (apply asRows; (repeat first | assumption | exact Rows.nil | apply Rows.app); done) | (apply asScal; (first | apply allS1 | apply allS2 | apply allS3 | apply allS4) <;> (first | exact One.int | exact One.bool | assumption | exact Ints.one (by assumption) | exact Rows.one (by assumption) | exact Own.one (by assumption) | exact One.lit ⟨rfl, rfl, rfl⟩)) | exact litT rfl | exact litF rfl | omega | (simp only [List.length_append, List.length_cons, List.length_nil, List.length_set, List.length_reverse]; first | done | omega) | fail) : p := h
attribute [-go_sem] put_ne put_same
attribute [local go_sem ↓] put_if
def moreR (L : Lac) (r : Rw3) : Lac := ⟨L.T, L.C, L.R ++ [r]⟩
def lac0 : Lac := ⟨0, [], []⟩
def seeE (L : Lac) (r : Rw3) : Lac × Int := if chkL L = 0 then (if L.R.length = 12 then (lac0, 9) else if chkL (moreR L r) = 0 then (moreR L r, 0) else (lac0, chkL (moreR L r))) else (lac0, chkL L)
/-- A chain of one's own. -/
def OwnC (b : Nat) (H : Heap) (v : AVal) (L : Lac) : Prop := ∃ cv rv, v = .agg [.int .i64 L.T, cv, rv] ∧ OwnE encI 3 b H cv L.C ∧ OwnE encR 70 b H rv L.R
theorem OwnC.at {b : Nat} {H : Heap} {v : AVal} {L : Lac} (x : OwnC b H v L) (hs : Small L.C) (hl : L.R.length ≤ 1000000) : LacAt H v L := by
  obtain ⟨cv, rv, h1, h2, h3⟩ := x
  exact ⟨cv, rv, h1, ownE_ints h2 hs, h3.rows (by omega)⟩
theorem lac_small {L : Lac} (h : chkL L = 0) : Small L.C := by
  obtain ⟨kT, kn, km, kc, kr, kd⟩ := chkL_iff.1 h
  refine ⟨by omega, fun x hx => ?_⟩
  have h1 := kc x hx
  have h2 : (2 : Int) ^ L.T.toNat ≤ 2 ^ 8 := by exact_mod_cast Nat.pow_le_pow_right (by decide) (show L.T.toNat ≤ 8 by omega)
  omega
set_option maxRecDepth 100000 in
set_option maxHeartbeats 4000000 in
theorem run_See {base : Nat} {h : Heap} {v : AVal} {L : Lac} {r : Rw3} (hb : base ≤ h.length) (hL : LacAt h v L) :
    Ret prog raw base (.fn 46 [] []) [v, .agg [.int .i64 r.1, .int .i64 r.2.1, .int .i64 r.2.2]] h (fun w H => Ext h H ∧ ∃ x, w = .tuple [x, .int .i64 (seeE L r).2] ∧ OwnC h.length H x (seeE L r).1) := by
  have hL0 := hL
  obtain ⟨cv, rv, rfl, hC, hR⟩ := hL
  have o1 := hC.one
  have o2 := hR.one
  obtain ⟨G, eG⟩ : ∃ G, G = h ++ [lacB L.T cv rv] ++ [rwB r] ++ [lacB 0 (.slice none 0 0) (.slice none 0 0)] := ⟨_, rfl⟩
  have xG : Ext h G := by rw [eG]; exact .app (.app (.app .refl))
  have lG : G.length = h.length + 3 := by rw [eG]; simp
  have g0 : G[h.length]? = some (lacB L.T cv rv) := by rw [eG]; exact get_app (get_app (get_eq rfl))
  have g1 : G[h.length + 1]? = some (rwB r) := by rw [eG]; exact get_app (get_eq (by simp))
  have g2 : G[h.length + 1 + 1]? = some (lacB 0 (.slice none 0 0) (.slice none 0 0)) := by rw [eG]; exact get_eq (by simp)
  have c0 := fun base => run_Check (base := base) (hL0.ext xG)
  have hlr := (hR.ext xG).len (P := prog) Fc.el42
  unfold lacB rwB at eG
  have g0' := g0
  have g1' := g1
  have g2' := g2
  unfold lacB at g0' g2'
  unfold rwB at g1'
  refine ret_raw func46 rfl (by kernel_rfl) ?_
  by_cases c : chkL L = 0
  · by_cases c2 : L.R.length = 12
    · have t2 : ((L.R.length : Int) = 12) = True := eq_true (by omega)
      have re : seeE L r = (lac0, 9) := by unfold seeE; rw [if_pos c, if_pos c2]
      rw [re]
      rw [c] at c0
      have hsp := @Nat.succ_ne_zero; repeat' (first | simp (disch := first | exact dschL45 | fail) only [go_sem, ↓reduceIte, hsp, ← eG, g0', c0, eq_self, hlr, t2, g2'] | refine WP_drw ?_ | refine cnd_intro (fun hsp => ?_) fun hsp => ?_)
      exact ⟨xG.set (by omega), _, rfl, _, _, rfl, .inl Own.nil, .inl Own.nil⟩
    · have t2 : ((L.R.length : Int) = 12) = False := eq_false (by omega)
      obtain ⟨kT, kn, km, kc, kr, kd⟩ := chkL_iff.1 c
      obtain ⟨cw, H1, e1, x1, oC⟩ := run_cloneE (base := base) (hC.ext xG) (lac_small c)
      have l1 := x1.len
      have oc1 := oC.one
      have g01 := x1.get g0'
      obtain ⟨H2, eH2⟩ : ∃ H2, H2 = H1.set h.length (lacB L.T cw rv) := ⟨_, rfl⟩
      have x2 : Ext h H2 := by rw [eH2]; exact (xG.trans x1).set (Nat.le_refl _)
      have l2 : H2.length = H1.length := by rw [eH2, List.length_set]
      have g02 : H2[h.length]? = some (lacB L.T cw rv) := by rw [eH2, List.getElem?_set_self (by omega)]
      have g12 : H2[h.length + 1]? = some (rwB r) := by rw [eH2, List.getElem?_set_ne (by omega)]; exact x1.get g1
      have g22 : H2[h.length + 1 + 1]? = some (lacB 0 (.slice none 0 0) (.slice none 0 0)) := by rw [eH2, List.getElem?_set_ne (by omega)]; exact x1.get g2
      have oC2 : OwnE encI 3 (h.length + 3) H2 cw L.C := by rw [eH2]; exact (oC.setBox g01).low (by omega)
      obtain ⟨rw1, H3, e3, x3, oR⟩ := run_cloneR (base := base) (hR.ext x2) (by omega)
      have l3 := x3.len
      have or1 := oR.one
      have g13 := x3.get g12
      obtain ⟨H4, eH4⟩ : ∃ H4, H4 = H3 ++ [rowE encR 70 [r] 0] := ⟨_, rfl⟩
      have x4 : Ext H3 H4 := by rw [eH4]; exact .app .refl
      have l4 : H4.length = H3.length + 1 := by rw [eH4]; simp
      have hx : Rows encR H4 (.slice (some ⟨H3.length, 0, 0⟩) 1 1) [r] := Rows.own (by rw [eH4]; exact get_eq rfl) rfl (by simp)
      obtain ⟨rw2, H5, e5, oR5, l5, kE5, or2, k5⟩ : ∃ w' h', appendA prog base H4 42 rw1 (.slice (some ⟨H3.length, 0, 0⟩) 1 1) = some (w', h') ∧ Own encR 70 H2.length h' w' (L.R ++ [r]) ∧ H4.length ≤ h'.length ∧ (∀ G, G.length ≤ H2.length → Ext G H4 → Ext G h') ∧ One w' ∧ KeepO encR 70 H4 h' := by
        rcases oR with oR | ⟨e, e'⟩
        · exact (oR.ext x4).appendRX (P := prog) (base := base) (t := 42) hx Fc.el42 encR_sc (by omega) (by omega) (by simp) (by simp; omega)
        · rw [e, e']
          have := app_empE (base := base) hx (by simp) encR_sc (by simp) Fc.el42
          exact ⟨_, _, this, .inr ⟨H4.length, 0, rfl, get_eq rfl, by omega, by simp⟩, by simp, fun G _ q => q.trans (.app .refl), ⟨rfl, rfl, rfl⟩, fun i y hi _ => get_app hi⟩
      have x25 : Ext H2 H5 := kE5 _ (Nat.le_refl _) (x3.trans x4)
      have g05 := x25.get g02
      have g25 := x25.get g22
      obtain ⟨H6, eH6⟩ : ∃ H6, H6 = H5.set h.length (lacB L.T cw rw2) := ⟨_, rfl⟩
      have x6 : Ext h H6 := by rw [eH6]; exact (x2.trans x25).set (Nat.le_refl _)
      have g06 : H6[h.length]? = some (lacB L.T cw rw2) := by rw [eH6, List.getElem?_set_self (lt_of_get g05)]
      have g26 : H6[h.length + 1 + 1]? = some (lacB 0 (.slice none 0 0) (.slice none 0 0)) := by rw [eH6, List.getElem?_set_ne (by omega)]; exact g25
      have oC6 : OwnE encI 3 (h.length + 3) H6 cw L.C := by rw [eH6]; exact (oC2.ext x25).setBox g05
      have oR6 : OwnE encR 70 (h.length + 3) H6 rw2 (L.R ++ [r]) := by rw [eH6]; exact (OwnE.setBox (.inl oR5) g05).low (by omega)
      have hO6 : OwnC (h.length + 3) H6 (.agg [.int .i64 L.T, cw, rw2]) (moreR L r) := ⟨cw, rw2, rfl, oC6, oR6⟩
      have c6 := fun base => run_Check (base := base) (hO6.at (show Small (moreR L r).C from (lac_small c : Small L.C)) (by simp [moreR]; omega))
      have hO7 : ∀ b, OwnC h.length (H6.set (h.length + 1 + 1) b) (.agg [.int .i64 L.T, cw, rw2]) (moreR L r) := fun b => ⟨cw, rw2, rfl, (oC6.setBox g26).low (by omega), (oR6.setBox g26).low (by omega)⟩
      have l56 : H6.length = H5.length := by rw [eH6, List.length_set]
      unfold lacB at eH2 g02 g22 g05 eH6 g06 g26
      unfold rwB at g12 g13
      rw [c] at c0
      by_cases c3 : chkL (moreR L r) = 0
      · have re : seeE L r = (moreR L r, 0) := by unfold seeE; rw [if_pos c, if_neg c2, if_pos c3]
        rw [re]
        rw [c3] at c6
        have hsp := @Nat.succ_ne_zero; repeat' (first | simp (disch := first | exact dschL45 | fail) only [go_sem, ↓reduceIte, hsp, ← eG, g0', c0, eq_self, hlr, t2, e1, g01, ← eH2, g02, e3, g13, bsR1, ← eH4, e5, g05, ← eH6, g06, c6, g26] | refine WP_drw ?_ | refine cnd_intro (fun hsp => ?_) fun hsp => ?_)
        exact ⟨x6.set (by omega), _, rfl, hO7 _⟩
      · have t3 : (chkL (moreR L r) = 0) = False := eq_false c3
        have re : seeE L r = (lac0, chkL (moreR L r)) := by unfold seeE; rw [if_pos c, if_neg c2, if_neg c3]
        rw [re]
        have hsp := @Nat.succ_ne_zero; repeat' (first | simp (disch := first | exact dschL45 | fail) only [go_sem, ↓reduceIte, hsp, ← eG, g0', c0, eq_self, hlr, t2, e1, g01, ← eH2, g02, e3, g13, bsR1, ← eH4, e5, g05, ← eH6, g06, c6, t3, g26] | refine WP_drw ?_ | refine cnd_intro (fun hsp => ?_) fun hsp => ?_)
        exact ⟨x6.set (by omega), _, rfl, _, _, rfl, .inl Own.nil, .inl Own.nil⟩
  · have t0 : (chkL L = 0) = False := eq_false c
    have re : seeE L r = (lac0, chkL L) := by unfold seeE; rw [if_neg c]
    rw [re]
    have hsp := @Nat.succ_ne_zero; repeat' (first | simp (disch := first | exact dschL45 | fail) only [go_sem, ↓reduceIte, hsp, ← eG, g0', c0, t0, g2'] | refine WP_drw ?_ | refine cnd_intro (fun hsp => ?_) fun hsp => ?_)
    exact ⟨xG.set (by omega), _, rfl, _, _, rfl, .inl Own.nil, .inl Own.nil⟩
end Go.AM
/-
  Contracts: where the first list lies of which something holds; the pile that a card goes on.
-/
namespace Go.AM
open Go.Proofs.Try
attribute [-go_sem] put_ne put_same
attribute [local go_sem ↓] put_if
end Go.AM
/-
  Contracts: as few moves as can be (Mend).
-/
namespace Go.AM
open Go.Proofs.Try
attribute [-go_sem] put_ne put_same
attribute [local go_sem ↓] put_if
def mndE (o : List Int) : List (Int × Int) × Int := if aloL o = 0 then (mndL o, 0) else ([], aloL o)
theorem mndN_succ {s : MndS} {k : Nat} : mndN s (k + 1) = mndS (mndN s k) (k : Int) := rfl
end Go.AM
/-
  Contracts: as few piles as can be (Piles).
-/
namespace Go.AM
open Go.Proofs.Try
attribute [-go_sem] put_ne put_same
attribute [local go_sem ↓] put_if
/-- Piles in memory, each in a block of its own. -/
structure PilAt (b : Nat) (H : Heap) (u : AVal) (vs : List AVal) (ps : List (List Int)) : Prop where
  own : Own encZ 25 b H u vs
  len : vs.length = ps.length
  el : ∀ (i : Nat) x t, vs[i]? = some x → ps[i]? = some t → Own encI 3 b H x t
  apart : ∀ (i j : Nat) x y, i ≠ j → vs[i]? = some x → vs[j]? = some y → Asun x y
end Go.AM
/-
  Contracts: Piles.
-/
namespace Go.AM
open Go.Proofs.Try
attribute [-go_sem] put_ne put_same
attribute [local go_sem ↓] put_if
def pilE (o : List Int) : List (List Int) × Int := if aloL o = 0 then (pilN o o.length, 0) else ([], aloL o)
end Go.AM
/-
  Contracts: Piles, walked.
-/
namespace Go.AM
open Go.Proofs.Try
attribute [-go_sem] put_ne put_same
attribute [local go_sem ↓] put_if
end Go.AM
/-
  Contracts: the number of piles, or the errors (Shows).
-/
namespace Go.AM
open Go.Proofs.Try
attribute [-go_sem] put_ne put_same
attribute [local go_sem ↓] put_if
def badAt (o pile : List Int) (i : Nat) : Bool :=
  !decide (0 ≤ pile.getD i 0 ∧ pile.getD i 0 ≤ (o.length : Int) - 1) || (decide (0 < i) && (decide (pile.getD i 0 ≤ pile.getD (i - 1) 0) || decide (o.getD (pile.getD i 0).toNat 0 ≥ o.getD (pile.getD (i - 1) 0).toNat 0)))
def pilB (o pile : List Int) : Bool := decide (pile ≠ []) && (List.range pile.length).all fun i => !badAt o pile i
def shwE (o : List Int) (ps : List (List Int)) : Int × Int :=
  if aloL o ≠ 0 then (0, aloL o) else if ps.all (pilB o) = false then (0, 8) else if ps.flatten.length ≠ o.length ∨ twB ps.flatten = true then (0, 8) else ((ps.length : Int), 0)
end Go.AM
/-
  Plain: piles that are made are right; moves that are made.
-/
namespace Go.AM
theorem pair_at {α : Type} {R : α → α → Prop} {l : List α} (h : l.Pairwise R) {i j : Nat} (hij : i < j) (hj : j < l.length) : R (l[i]'(by omega)) l[j] := List.pairwise_iff_getElem.1 h i j (by omega) hj hij
theorem upto_nd (n : Nat) : (upto n).Nodup := (upto_sorted n).imp fun h => by omega
theorem prmB_ord {n : Nat} {o : List Int} (h : Ord n o) : prmB o n = true := by
  unfold prmB
  rw [decide_eq_true h.1, Bool.true_and, List.all_eq_true]
  intro x hx
  exact decide_eq_true (ord_all h (upto_mem.1 hx))
end Go.AM
/-
  Contracts: whether an order explains the rows, as the statements ask it; a chain in which the cards at some positions were looked at.
-/
namespace Go.AM
open Go.Proofs.Try
theorem dschL46 {p : Prop} (h : p := by first | exact Nat.ne_of_beq_eq_false rfl | assumption | (apply asOne; (first | exact One.int | exact One.bool | assumption | exact Ints.one (by assumption) | exact Rows.one (by assumption) | exact Own.one (by assumption) | exact One.lit ⟨rfl, rfl, rfl⟩)) | (apply asInts; (repeat first | assumption | exact ints_nil | apply Ints.app); done) | (apply asRows; (repeat first | assumption | exact Rows.nil | apply Rows.app); done) | (apply asScal; (first | apply allS1 | apply allS2 | apply allS3 | apply allS4) <;> (first | exact One.int | exact One.bool | assumption | exact Ints.one (by assumption) | exact Rows.one (by assumption) | exact Own.one (by assumption) | exact One.lit ⟨rfl, rfl, rfl⟩)) | exact litT rfl | exact litF rfl | omega | (simp only [List.length_append, List.length_cons, List.length_nil, List.length_set, List.length_reverse]; first | done | omega) | fail) : p := h
attribute [-go_sem] put_ne put_same
attribute [local go_sem ↓] put_if
theorem run_xpl1 {base A B : Nat} {h : Heap} {T : Int} {cv rv ov : AVal} {L : Lac} {o : List Int} {r : Rw3} (ga : h[A]? = some (lacB T cv rv)) (gb : h[B]? = some (lB ov)) (hC : Ints h cv L.C) (hO : Ints h ov o) (hc : LacOk L) (ho : Ord L.C.length o) (hr : r ∈ L.R) :
    callL prog raw base (.fn 111 [] [.ptr (some ⟨A, 0, 0⟩), .ptr (some ⟨B, 0, 0⟩)]) [.agg (encR.cells r)] h = some (.bool (!decide ((L.C.getD (o.getD (r.1.toNat % L.C.length) 0).toNat 0).toNat &&& r.2.1.toNat = r.2.2.toNat)), h) := by
  have lA := lt_of_get ga
  have lB' := lt_of_get gb
  obtain ⟨k1, k2, k3, k4⟩ := hc.r r hr
  have hp : (2 : Int) ^ L.T.toNat ≤ 2 ^ 8 := by exact_mod_cast Nat.pow_le_pow_right (by decide) (show L.T.toNat ≤ 8 by have := hc.T; omega)
  obtain ⟨n, en⟩ : ∃ n, n = L.C.length := ⟨_, rfl⟩
  have hn := hc.n
  rw [← en] at ho hn ⊢
  have hol := ho.1
  obtain ⟨G, eG⟩ : ∃ G, G = h ++ [rwB r] := ⟨_, rfl⟩
  have xG : Ext h G := by rw [eG]; exact .app .refl
  have gr : G[h.length]? = some (rwB r) := by rw [eG]; exact get_eq rfl
  have gaG := xG.get ga
  have gbG := xG.get gb
  have iO := hO.ext xG
  have iC := hC.ext xG
  have hlo := lenI iO
  rw [hol] at hlo
  have hrem := remN (x := r.1) (n := n) k1.1 (by omega)
  obtain ⟨j, ej⟩ : ∃ j, j = r.1.toNat % n := ⟨_, rfl⟩
  have hj : j < n := by rw [ej]; exact Nat.mod_lt _ (by omega)
  rw [← ej] at hrem ⊢
  have aj := adrI (i := (j : Int)) (by omega) iO (by omega)
  rw [Int.toNat_natCast] at aj
  have lj := loadI iO (i := j) (by omega)
  have hk := ho.2.1 _ (getD_mem (l := o) (i := j) (by omega))
  obtain ⟨k, ek⟩ := Int.eq_ofNat_of_zero_le hk.1
  rw [ek] at lj hk ⊢
  rw [Int.toNat_natCast]
  have ak := adrI (i := (k : Int)) (by omega) iC (by omega)
  rw [Int.toNat_natCast] at ak
  have lk := loadI iC (i := k) (by omega)
  have hck := hc.c _ (getD_mem (l := L.C) (i := k) (by omega))
  obtain ⟨c, ec⟩ := Int.eq_ofNat_of_zero_le hck.1
  rw [ec] at lk hck ⊢
  obtain ⟨mk, em⟩ := Int.eq_ofNat_of_zero_le k2.1
  obtain ⟨sh, es⟩ := Int.eq_ofNat_of_zero_le k3.1
  rw [em] at k2
  rw [em, es, Int.toNat_natCast, Int.toNat_natCast, Int.toNat_natCast]
  have ha := andN (t := 3) (a := c) (b := mk) (by omega) (by omega)
  have eG' : h ++ [(⟨.cells [.int .i64 r.1, .int .i64 (mk : Int), .int .i64 (sh : Int)] 70 false false, 0⟩ : ABlk)] = G := by rw [eG]; unfold rwB; rw [em, es]
  have gr' := gr
  unfold rwB at gr'
  rw [em, es] at gr'
  unfold lacB at gaG
  unfold lB at gbG
  simp only [encR]
  rw [em, es]
  refine callL_run func111 rfl rfl ?_
  have hsp := @Nat.succ_ne_zero; repeat' (first | simp (disch := first | exact dschL46 | fail) only [go_sem, ↓reduceIte, hsp, eG', gaG, gbG, gr', hlo, hrem, aj, lj, ak, lk, ha] | refine WP_drw ?_ | refine cnd_intro (fun hsp => ?_) fun hsp => ?_)
  refine fB ?_ xG
  by_cases q : c &&& mk = sh
  · rw [decide_eq_true q]; simp; omega
  · rw [decide_eq_false q]; simp; omega
theorem run_explains {base : Nat} {h : Heap} {v ov : AVal} {L : Lac} {o : List Int} (hL : LacAt h v L) (hO : Ints h ov o) (hc : chkL L = 0) (ho : Ord L.C.length o) :
    callL prog raw base (.fn 48 [] []) [v, ov] h = some (.bool (xplD L o o.length), h) := by
  obtain ⟨cv, rv, rfl, hC, hR⟩ := hL
  have hk := chkL_iff.1 hc
  have o1 := hC.one
  have o2 := hR.one
  have o3 := hO.one
  obtain ⟨G, eG⟩ : ∃ G, G = h ++ [lacB L.T cv rv] ++ [lB ov] := ⟨_, rfl⟩
  have xG : Ext h G := by rw [eG]; exact .app (.app .refl)
  have g0 : G[h.length]? = some (lacB L.T cv rv) := by rw [eG]; exact get_app (get_eq rfl)
  have g1 : G[h.length + 1]? = some (lB ov) := by rw [eG]; exact get_eq (by simp)
  have hlc := lenI (hC.ext xG)
  have hpm := fun base => run_permutes (base := base) (n := L.C.length) (hO.ext xG)
  rw [prmB_ord ho] at hpm
  have han := fun base => anyF_R (base := base) (h := G) (v := rv) (g := .fn 111 [] [.ptr (some ⟨h.length, 0, 0⟩), .ptr (some ⟨h.length + 1, 0, 0⟩)]) (l := L.R) (fun r => !decide ((L.C.getD (o.getD (r.1.toNat % L.C.length) 0).toNat 0).toNat &&& r.2.1.toNat = r.2.2.toNat)) (hR.ext xG) ⟨rfl, rfl, rfl⟩ (fun base x hx => run_xpl1 g0 g1 (hC.ext xG) (hO.ext xG) hk ho hx)
  have hres : (!L.R.any fun r => !decide ((L.C.getD (o.getD (r.1.toNat % L.C.length) 0).toNat 0).toNat &&& r.2.1.toNat = r.2.2.toNat)) = xplD L o o.length := by
    rw [Bool.eq_iff_iff, xplD_iff, xpl_rows (by have := hk.n; omega) ho.1]
    simp
  obtain ⟨b, eb⟩ : ∃ b, b = L.R.any fun r => !decide ((L.C.getD (o.getD (r.1.toNat % L.C.length) 0).toNat 0).toNat &&& r.2.1.toNat = r.2.2.toNat) := ⟨_, rfl⟩
  rw [← eb] at han hres
  unfold lacB lB at eG
  unfold lacB at g0
  unfold lB at g1
  refine callL_run func48 rfl rfl ?_
  have hsp := @Nat.succ_ne_zero; repeat' (first | simp (disch := first | exact dschL46 | fail) only [go_sem, ↓reduceIte, hsp, ← eG, g0, g1, hlc, hpm, han] | refine WP_drw ?_ | refine cnd_intro (fun hsp => ?_) fun hsp => ?_)
  exact fB hres xG
/-- Rows of what is seen at some positions. -/
def looks (L : Lac) (real ps : List Int) : List Rw3 := ps.map fun p => (p, 2 ^ L.T.toNat - 1, L.C.getD (real.getD p.toNat 0).toNat 0)
def shwL (L : Lac) (real ps : List Int) : Lac := ⟨L.T, L.C, L.R ++ looks L real ps⟩
theorem snocR {b base : Nat} {A : Heap} {w : AVal} {l : List Rw3} {r : Rw3} (hO : OwnE encR 70 b A w l) (hb : base ≤ b) (hbh : b ≤ A.length) (hl : l.length ≤ 1000000) :
    ∃ w' H, appendA prog base (A ++ [rowE encR 70 [r] 0]) 42 w (.slice (some ⟨A.length, 0, 0⟩) 1 1) = some (w', H) ∧ Own encR 70 b H w' (l ++ [r]) ∧ A.length ≤ H.length ∧ (∀ G, G.length ≤ b → Ext G A → Ext G H) ∧ One w' ∧ KeepO encR 70 A H := by
  obtain ⟨B, eB⟩ : ∃ B, B = A ++ [rowE encR 70 [r] 0] := ⟨_, rfl⟩
  have xB : Ext A B := by rw [eB]; exact .app .refl
  have lB' : B.length = A.length + 1 := by rw [eB]; simp
  have hx : Rows encR B (.slice (some ⟨A.length, 0, 0⟩) 1 1) [r] := Rows.own (by rw [eB]; exact get_eq rfl) rfl (by simp)
  rw [← eB]
  rcases hO with hO | ⟨rfl, rfl⟩
  · obtain ⟨w', H, a1, a2, a3, a4, a5, a6⟩ := (hO.ext xB).appendRX (P := prog) (base := base) (t := 42) hx Fc.el42 encR_sc hb (by omega) (by simp) (by simp; omega)
    have a6 : KeepO encR 70 B H := a6
    exact ⟨w', H, a1, a2, by omega, fun G h1 h2 => a4 G h1 (h2.trans xB), a5, fun i y hi hy => a6 i y (xB.get hi) hy⟩
  · have := app_empE (base := base) hx (by simp) encR_sc (by simp) Fc.el42
    exact ⟨_, _, this, .inr ⟨B.length, 0, rfl, get_eq rfl, by omega, by simp⟩, by simp; omega, fun G _ q => (q.trans xB).trans (.app .refl), ⟨rfl, rfl, rfl⟩, fun i y hi _ => get_app (xB.get hi)⟩
end Go.AM
/-
  Or of numbers.
-/
namespace Go.AM
open Go.Proofs.Try
theorem orN {t : TypeId} {a b : Nat} (ha : a < 2 ^ 62) (hb : b < 2 ^ 62) : binA prog .or t (.int .i64 (a : Int)) (.int .i64 (b : Int)) = some (.int .i64 ((a ||| b : Nat) : Int)) := by
  have hx : a ||| b < 2 ^ 62 := Nat.or_lt_two_pow ha hb
  have e : BitVec.ofInt 64 (a : Int) ||| BitVec.ofInt 64 (b : Int) = BitVec.ofNat 64 (a ||| b) := by
    apply BitVec.eq_of_toNat_eq
    simp only [BitVec.toNat_or, BitVec.toNat_ofInt, BitVec.toNat_ofNat]
    have h3 : (a : Int) % ((2 ^ 64 : Nat) : Int) = a := Int.emod_eq_of_lt (by omega) (by omega)
    have h4 : (b : Int) % ((2 ^ 64 : Nat) : Int) = b := Int.emod_eq_of_lt (by omega) (by omega)
    rw [h3, h4, Nat.mod_eq_of_lt (by omega)]
    rfl
  show some (AVal.int .i64 (IntKind.i64.wrap ((BitVec.ofInt 64 (a : Int) ||| BitVec.ofInt 64 (b : Int)).toNat : Int))) = _
  rw [e, BitVec.toNat_ofNat, Nat.mod_eq_of_lt (by omega), wrap64 (by omega) (by omega)]
end Go.AM
