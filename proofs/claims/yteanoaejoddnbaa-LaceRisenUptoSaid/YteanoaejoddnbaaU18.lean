/-
  Contracts: the cards that are sure.
-/
import Derived.Test.YteanoaejoddnbaaU15
import Derived.Test.YteanoaejoddnbaaU16
import Derived.Test.YteanoaejoddnbaaU17
import Derived.Test.YteanoaejoddnbaaU11
set_option linter.unusedSimpArgs false
set_option linter.unusedVariables false
namespace Go.AM
open Go.Proofs.Try
theorem dschL18 {p : Prop} (h : p := by first | exact Nat.ne_of_beq_eq_false rfl | assumption | (apply asOne; (first | exact One.int | exact One.bool | assumption | exact Ints.one (by assumption) | exact Rows.one (by assumption) | exact Own.one (by assumption) | exact One.lit ⟨rfl, rfl, rfl⟩)) | (apply asInts; (repeat first | assumption | exact ints_nil | apply Ints.app); done) | (apply asRows; (repeat first | assumption | exact Rows.nil | apply Rows.app); done) | (apply asScal; (first | apply allS1 | apply allS2 | apply allS3 | apply allS4) <;> (first | exact One.int | exact One.bool | assumption | exact Ints.one (by assumption) | exact Rows.one (by assumption) | exact Own.one (by assumption) | exact One.lit ⟨rfl, rfl, rfl⟩)) | exact litT rfl | exact litF rfl | omega | (simp only [List.length_append, List.length_cons, List.length_nil, List.length_set, List.length_reverse]; first | done | omega) | fail) : p := h
attribute [-go_sem] put_ne put_same
attribute [local go_sem ↓] put_if
def knwM (o : List Int) (ok : Nat → Bool) : Nat → List Int
  | 0 => o
  | i + 1 => if ok i = true then knwM o ok i else (knwM o ok i).set i (-1)
theorem knwM_len {o : List Int} {ok : Nat → Bool} : ∀ i, (knwM o ok i).length = o.length
  | 0 => rfl
  | i + 1 => by rw [knwM]; split <;> simp [knwM_len i]
theorem knwM_at {o : List Int} {ok : Nat → Bool} {p : Nat} : ∀ {i}, i ≤ o.length → (knwM o ok i).getD p 0 = if p < i ∧ ok p = false then -1 else o.getD p 0
  | 0, _ => by rw [knwM, if_neg (by omega)]
  | i + 1, hi => by
    have ih := knwM_at (o := o) (ok := ok) (p := p) (i := i) (by omega)
    rw [knwM]
    cases c : ok i with
    | true =>
      rw [if_pos rfl, ih]
      by_cases e : p = i
      · rw [if_neg (by omega), if_neg (by rw [e, c]; simp)]
      · by_cases q : p < i ∧ ok p = false
        · rw [if_pos q, if_pos ⟨by omega, q.2⟩]
        · rw [if_neg q, if_neg (fun z => q ⟨by omega, z.2⟩)]
    | false =>
      rw [if_neg (by simp), getD_setI (by rw [knwM_len]; omega), ih]
      by_cases e : i = p
      · rw [if_pos e, if_pos ⟨by omega, by rw [← e]; exact c⟩]
      · rw [if_neg e]
        by_cases q : p < i ∧ ok p = false
        · rw [if_pos q, if_pos ⟨by omega, q.2⟩]
        · rw [if_neg q, if_neg (fun z => q ⟨by omega, z.2⟩)]
def allK (os : List (List Int)) (k : Int) (p : Nat) : Bool := os.all fun x => decide (x.getD p 0 = k)
theorem getD_ext {l m : List Int} (h : l.length = m.length) (q : ∀ i, i < l.length → l.getD i 0 = m.getD i 0) : l = m := by
  refine List.ext_getElem h fun i h1 h2 => ?_
  have := q i h1
  rwa [getD_at h1, getD_at h2] at this
theorem lst_getD {f : Nat → Int} {n i : Nat} (h : i < n) : (lst f n).getD i 0 = f i := by
  exact lst_get h
theorem knwM_all {n : Nat} {os : List (List Int)} (h : (os.headD []).length = n) : knwM (os.headD []) (fun p => allK os ((os.headD []).getD p 0) p) n = knwL n os := by
  refine getD_ext (by rw [knwM_len, h, knwL, lst_len]) fun i hi => ?_
  rw [knwM_len, h] at hi
  rw [knwM_at (by omega), knwL, lst_getD hi]
  show _ = if allK os ((os.headD []).getD i 0) i = true then _ else _
  cases c : allK os ((os.headD []).getD i 0) i with
  | true => rw [if_neg (by simp), if_pos rfl]
  | false => rw [if_pos ⟨hi, rfl⟩, if_neg (by simp)]
theorem run_kn1 {base a b : Nat} {h : Heap} {y : AVal} {t : List Int} {p : Nat} {k : Int} (ga : h[a]? = some (nB (p : Int))) (gb : h[b]? = some (nB k)) (hO : Ints h y t) (hp : p < t.length) :
    callL prog raw base (.fn 107 [] [.ptr (some ⟨a, 0, 0⟩), .ptr (some ⟨b, 0, 0⟩)]) [y] h = some (.bool (decide (t.getD p 0 = k)), h) := by
  have la := lt_of_get ga
  have lb := lt_of_get gb
  have oy := hO.one
  have hb := hO.1.1
  have ad := adrI (i := (p : Int)) (by omega) hO (by omega)
  rw [Int.toNat_natCast] at ad
  have ld := loadI hO hp
  unfold nB at ga gb
  refine callL_run func107 rfl rfl ?_
  have hsp := @Nat.succ_ne_zero; repeat' (first | simp (disch := first | exact dschL18 | fail) only [go_sem, ↓reduceIte, hsp, ga, gb, ad, ld] | refine WP_drw ?_ | refine cnd_intro (fun hsp => ?_) fun hsp => ?_)
  exact fB rfl
set_option maxRecDepth 100000 in
set_option maxHeartbeats 4000000 in
theorem run_Known {base : Nat} {h : Heap} {v : AVal} {L : Lac} (hb : base ≤ h.length) (hL : LacAt h v L) :
    Ret prog raw base (.fn 41 [] []) [v] h (fun w H => Ext h H ∧ ∃ x, w = .tuple [x, .int .i64 (kwnE L).2] ∧ OwnE encI 3 h.length H x (kwnE L).1) := by
  have hL0 := hL
  obtain ⟨cv, rv, rfl, hC, hR⟩ := hL
  have o1 := hC.one
  have o2 := hR.one
  obtain ⟨G0, eG0⟩ : ∃ G0, G0 = h ++ [lacB L.T cv rv] := ⟨_, rfl⟩
  have x0 : Ext h G0 := by rw [eG0]; exact .app .refl
  have g0 : G0[h.length]? = some (lacB L.T cv rv) := by rw [eG0]; exact get_eq rfl
  have l0 : G0.length = h.length + 1 := by rw [eG0]; simp
  obtain ⟨w1, H1, e1, x1, a, x, rfl, oa, hA, hD⟩ := run_found (base := base) (h := G0) (by omega) (hL0.ext x0)
  have ox := hA.one
  have l1 := x1.len
  unfold lacB at eG0 g0
  by_cases c : (fndE L).2 = 0
  · obtain ⟨c1, c2, c3⟩ := fndE_ok c
    obtain ⟨n, en⟩ : ∃ n, L.C.length = n := ⟨_, rfl⟩
    have hn7 : 1 ≤ n ∧ n ≤ 7 := by rw [← en]; exact (chkL_iff.1 c1).n
    have hord : ∀ o ∈ fnd L, Ord n o := fun o ho => by rw [← en]; exact fnd_ord ho
    have r : kwnE L = (knwL n (fnd L), 0) := by unfold kwnE; rw [if_pos c, en]
    rw [r]
    rw [c3] at hA e1
    have hAI : AllI G0.length H1 x (fnd L) := hA.all
    obtain ⟨vs, q1, q2', q3⟩ := hA
    have q2 : vs.length = (fnd L).length := q2'
    have hpos : 0 < (fnd L).length := by cases q : fnd L with | nil => exact absurd q c2 | cons a b => simp
    have hv0 : vs[0]? = some vs[0] := List.getElem?_eq_getElem (by omega)
    have ho := q3 0 _ _ hv0 (head_at c2)
    obtain ⟨y, ey⟩ : ∃ y, y = vs[0]'(by rw [q2]; exact hpos) := ⟨_, rfl⟩
    rw [← ey] at hv0 ho
    have hfew := fnd_few (L := L) (by omega)
    have hRw := q1.rows (show vs.length < 2 ^ 60 by omega)
    have ad := hRw.addr (P := prog) (i := ((0 : Nat) : Int)) Fc.el54 Fc.ar54 (by omega) (by omega)
    have ld : loadP prog H1 25 (elAdr x 1 0 0) = some y := hRw.cell (P := prog) Fc.ty25 hv0 (o := 0) (a := y) (by simp only [encZ, norm_one ho.one]; rfl)
    rw [Int.toNat_natCast, Int.natCast_zero] at ad
    have oy := ho.one
    have hz : encZ.z = 1 := rfl
    rw [hz] at ad
    obtain ⟨o, eo⟩ : ∃ o, o = (fnd L).headD [] := ⟨_, rfl⟩
    rw [← eo] at ho
    have hom : o ∈ fnd L := by rw [eo]; exact List.mem_of_getElem? (head_at c2)
    have hoo := hord o hom
    have hol := hoo.1
    have hIo := ownE_ints ho (ord_small hoo (by omega))
    obtain ⟨v2, H2, e2, x2, o2⟩ := run_cloneE (base := base) hIo (ord_small hoo (by omega))
    obtain ⟨id, ver, rfl, gid, hid⟩ := o2.pos (by omega)
    rw [rowE_iB] at gid
    have lid := lt_of_get gid
    have l2 := x2.len
    obtain ⟨ok, eok⟩ : ∃ ok : Nat → Bool, ok = fun p => allK (fnd L) (o.getD p 0) p := ⟨_, rfl⟩
    obtain ⟨D, eD⟩ : ∃ D : Nat → Heap, D = fun i => H2.set id (iB (knwM o ok i) ver) := ⟨_, rfl⟩
    have lD : ∀ i, (D i).length = H2.length := fun i => by rw [eD]; exact List.length_set
    have gD : ∀ i, (D i)[id]? = some (iB (knwM o ok i) ver) := fun i => by rw [eD]; exact List.getElem?_set_self lid
    have xD : ∀ i, Ext H1 (D i) := fun i => by rw [eD]; exact x2.set (by omega)
    have hD0 : D 0 = H2 := by rw [eD]; exact set_id gid
    have hDs : ∀ i j, (D i).set id (iB (knwM o ok j) ver) = D j := fun i j => by rw [eD]; exact List.set_set ..
    have ln2 : ∀ {H : Heap}, lenOpA prog H 25 (.slice (some ⟨id, ver, 0⟩) o.length o.length) = some (.int .i64 (o.length : Int)) := fun {H} => by simp [lenOpA, Fc.el25, lenA]
    refine ret_raw func41 rfl (by kernel_rfl) ?_
    have hsp := @Nat.succ_ne_zero; repeat' (first | simp (disch := first | exact dschL18 | fail) only [go_sem, ↓reduceIte, hsp, ← eG0, g0, e1, eq_self, ad, ld, e2, ln2] | refine WP_drw ?_ | refine cnd_intro (fun hsp => ?_) fun hsp => ?_)
    refine WP_count [(8, 9), (25, 37)] 0 o.length (Nat.zero_le _) (fun _ i fr K => fr 25 = .int .i64 (i : Int) ∧ Ext (D i) K) ?_ ?_ ?_
    · exact ⟨by (simp (disch := first | exact dschL18 | fail) only [go_sem, ↓reduceIte, Int.natCast_zero]; first | done | rfl), by rw [hD0]; exact .refl⟩
    · rintro i fr K hi0 hi hA2 ⟨r25, xK⟩
      have p2 := hA2 2 rfl
      have p3 := hA2 3 rfl
      have p5 := hA2 5 rfl
      have p7 := hA2 7 rfl
      have p23 := hA2 23 rfl
      have p24 := hA2 24 rfl
      try simp (disch := first | exact dschL18 | fail) only [go_sem, ↓reduceIte] at p2 p3 p5 p7 p23 p24
      have hlt : ((i : Int) < (o.length : Int)) = True := eq_true (by omega)
      have lK := xK.len
      have lDi := lD i
      have gK := xK.get (gD i)
      have hkl := knwM_len (o := o) (ok := ok) i
      have adr : indexAddrA prog 25 (.slice (some ⟨id, ver, 0⟩) o.length o.length) (.int .i64 (i : Int)) = some (.ptr (some ⟨id, ver, i⟩)) := by
        rw [adr_sl Fc.el25 Fc.ar25 (by omega) (by omega), Int.toNat_natCast, Nat.mul_one, Nat.zero_add]
      obtain ⟨k, ek⟩ : ∃ k, k = o.getD i 0 := ⟨_, rfl⟩
      have d1 : loadP prog K 3 (.ptr (some ⟨id, ver, i⟩)) = some (.int .i64 k) := by
        rw [load_eq, Fc.ty3, gK, ldB_ints (by omega), knwM_at (by omega), if_neg (by omega), ek]
      obtain ⟨K1, eK1⟩ : ∃ K1, K1 = K ++ [nB (i : Int)] := ⟨_, rfl⟩
      obtain ⟨K2, eK2⟩ : ∃ K2, K2 = K1 ++ [nB k] := ⟨_, rfl⟩
      have y1 : Ext K K1 := by rw [eK1]; exact .app .refl
      have y2 : Ext K1 K2 := by rw [eK2]; exact .app .refl
      have lK1 : K1.length = K.length + 1 := by rw [eK1]; simp
      have lK2 : K2.length = K.length + 2 := by rw [eK2]; simp [lK1]
      have ga : K2[K.length]? = some (nB (i : Int)) := by rw [eK2]; exact get_app (by rw [eK1]; exact get_eq rfl)
      have gb : K2[K.length + 1]? = some (nB k) := by rw [eK2]; exact get_eq lK1.symm
      have xDK := (xK.trans y1).trans y2
      have hev := every_Z (base := base) (b := G0.length) (h := K2) (v := x) (g := .fn 107 [] [.ptr (some ⟨K.length, 0, 0⟩), .ptr (some ⟨K.length + 1, 0, 0⟩)]) (ts := fnd L) (fun t => decide (t.getD i 0 = k)) (by omega) ⟨rfl, rfl, rfl⟩ (hAI.ext ((xD i).trans xDK)) (by omega)
        (fun z t ht hz => run_kn1 (get_app ga) (get_app gb) ((ownE_ints hz (ord_small (hord t ht) (by omega))).ext (.app .refl)) (by have := (hord t ht).1; omega))
      rw [show (fnd L).all (fun t => decide (t.getD i 0 = k)) = ok i by rw [eok, ek]; rfl] at hev
      obtain ⟨K3, eK3⟩ : ∃ K3, K3 = K2 ++ [evZ (.fn 107 [] [.ptr (some ⟨K.length, 0, 0⟩), .ptr (some ⟨K.length + 1, 0, 0⟩)])] := ⟨_, rfl⟩
      rw [← eK3] at hev
      have y3 : Ext K2 K3 := by rw [eK3]; exact .app .refl
      have ga3 := y3.get ga
      have xD3 := xDK.trans y3
      have gK3 := xD3.get (gD i)
      have l3 := xD3.len
      unfold nB at eK1 eK2 ga3
      cases c5 : ok i with
      | true =>
        rw [c5] at hev
        have hDi : D (i + 1) = D i := by rw [eD]; simp only [knwM, if_pos c5]
        have hsp := @Nat.succ_ne_zero; repeat' (first | simp (disch := first | exact dschL18 | fail) only [go_sem, ↓reduceIte, hsp, r25, p2, p3, p5, p7, p23, p24, hlt, adr, d1, ← eK1, ← eK2, hev] | refine WP_drw ?_ | refine cnd_intro (fun hsp => ?_) fun hsp => ?_)
        exact ⟨by (repeat first | exact Agree.refl | assumption | refine Agree.put rfl ?_ | refine Agree.put0 ?_ | refine Agree.sub rfl (by assumption) ?_), by omega, by rw [hDi]; exact xD3⟩
      | false =>
        rw [c5] at hev
        have hst : ∀ {F : ABlk → Heap}, stQ base id (some (iB (knwM o ok i) ver)) ver i [.int .i64 (-1)] F = some (F (iB ((knwM o ok i).set i (-1)) ver)) := fun {F} => stQ_ints (by omega)
        have hkm : (knwM o ok i).set i (-1) = knwM o ok (i + 1) := by rw [knwM, if_neg (by rw [c5]; simp)]
        rw [hkm] at hst
        have hfin : Ext (D (i + 1)) (K3.set id (iB (knwM o ok (i + 1)) ver)) := by
          have := xD3.set2 (i := id) (k := iB (knwM o ok (i + 1)) ver) (by omega)
          rwa [hDs] at this
        have hsp := @Nat.succ_ne_zero; repeat' (first | simp (disch := first | exact dschL18 | fail) only [go_sem, ↓reduceIte, hsp, r25, p2, p3, p5, p7, p23, p24, hlt, adr, d1, ← eK1, ← eK2, hev, ga3, gK3, hst] | refine WP_drw ?_ | refine cnd_intro (fun hsp => ?_) fun hsp => ?_)
        exact ⟨by (repeat first | exact Agree.refl | assumption | refine Agree.put rfl ?_ | refine Agree.put0 ?_ | refine Agree.sub rfl (by assumption) ?_), by omega, hfin⟩
    · rintro fr K hA2 ⟨r25, xK⟩
      have p2 := hA2 2 rfl
      have p3 := hA2 3 rfl
      have p5 := hA2 5 rfl
      have p7 := hA2 7 rfl
      have p23 := hA2 23 rfl
      have p24 := hA2 24 rfl
      try simp (disch := first | exact dschL18 | fail) only [go_sem, ↓reduceIte] at p2 p3 p5 p7 p23 p24
      have hlt : ((o.length : Int) < (o.length : Int)) = False := eq_false (by omega)
      have gK := xK.get (gD o.length)
      have hfe : knwM o ok o.length = knwL n (fnd L) := by
        rw [eok, eo, ← knwM_all (n := n) (by rw [← eo]; exact hol)]
        rw [← eo, hol]
      have hsp := @Nat.succ_ne_zero; repeat' (first | simp (disch := first | exact dschL18 | fail) only [go_sem, ↓reduceIte, hsp, r25, p2, p3, p5, p7, p23, p24, hlt] | refine WP_drw ?_ | refine cnd_intro (fun hsp => ?_) fun hsp => ?_)
      refine ⟨((x0.trans x1).trans (xD _)).trans xK, _, rfl, .inl (.inr ⟨id, ver, ?_, ?_, by omega, ?_⟩)⟩
      · rw [← hfe, knwM_len]
      · rw [gK, rowE_iB, hfe]
      · rw [← hfe, knwM_len]; omega
  · have t0 : ((fndE L).2 = 0) = False := eq_false c
    have r : kwnE L = ([], (fndE L).2) := by unfold kwnE; rw [if_neg c]
    rw [r]
    refine ret_raw func41 rfl (by kernel_rfl) ?_
    have hsp := @Nat.succ_ne_zero; repeat' (first | simp (disch := first | exact dschL18 | fail) only [go_sem, ↓reduceIte, hsp, ← eG0, g0, e1, t0] | refine WP_drw ?_ | refine cnd_intro (fun hsp => ?_) fun hsp => ?_)
    exact ⟨x0.trans x1, _, rfl, .inl Own.nil⟩
end Go.AM
/-
  Contracts: the position at which one look leaves the fewest orders (Ask).
-/
namespace Go.AM
open Go.Proofs.Try
theorem dschL20 {p : Prop} (h : p := by first | exact Nat.ne_of_beq_eq_false rfl | assumption | (apply asOne; (first | exact One.int | exact One.bool | assumption | exact Ints.one (by assumption) | exact Rows.one (by assumption) | exact Own.one (by assumption) | exact One.lit ⟨rfl, rfl, rfl⟩)) | (apply asInts; (repeat first | assumption | exact ints_nil | apply Ints.app); done) | (apply asRows; (repeat first | assumption | exact Rows.nil | apply Rows.app); done) | (apply asScal; (first | apply allS1 | apply allS2 | apply allS3 | apply allS4) <;> (first | exact One.int | exact One.bool | assumption | exact Ints.one (by assumption) | exact Rows.one (by assumption) | exact Own.one (by assumption) | exact One.lit ⟨rfl, rfl, rfl⟩)) | exact litT rfl | exact litF rfl | omega | (simp only [List.length_append, List.length_cons, List.length_nil, List.length_set, List.length_reverse]; first | done | omega) | fail) : p := h
attribute [-go_sem] put_ne put_same
attribute [local go_sem ↓] put_if
def cntK (os : List (List Int)) (p n i : Nat) : List Int := lst (fun k => (((os.take i).countP fun o => decide (o.getD p 0 = (k : Int)) : Nat) : Int)) n
theorem cntK_len {os : List (List Int)} {p n i : Nat} : (cntK os p n i).length = n := lst_len
theorem cntK_step {os : List (List Int)} {p n i c : Nat} {o : List Int} (ho : os[i]? = some o) (hc : o.getD p 0 = (c : Int)) (hn : c < n) : (cntK os p n i).set c ((cntK os p n i).getD c 0 + 1) = cntK os p n (i + 1) := by
  unfold cntK
  rw [lst_get hn, lst_set hn]
  refine lst_congr fun k hk => ?_
  rw [List.take_add_one, ho, List.countP_append]
  by_cases e : k = c
  · subst e
    rw [if_pos rfl, show List.countP (fun o => decide (o.getD p 0 = (k : Int))) (some o).toList = 1 from List.countP_cons_of_pos (decide_eq_true hc)]
    omega
  · rw [if_neg e, show List.countP (fun o => decide (o.getD p 0 = (k : Int))) (some o).toList = 0 from List.countP_cons_of_neg (by rw [decide_eq_true_eq, hc]; omega)]
    omega
theorem cntK_bd {os : List (List Int)} {p n i k : Nat} (hk : k < n) : 0 ≤ (cntK os p n i).getD k 0 ∧ (cntK os p n i).getD k 0 ≤ (os.length : Int) := by
  unfold cntK
  rw [lst_get hk]
  have h1 : (os.take i).countP (fun o => decide (o.getD p 0 = (k : Int))) ≤ (os.take i).length := List.countP_le_length
  have h2 : (os.take i).length ≤ os.length := List.length_take_le' ..
  omega
theorem cntK_zero {os : List (List Int)} {p n : Nat} : cntK os p n 0 = List.replicate n 0 := by
  refine lst_ext (by rw [cntK_len, List.length_replicate]) fun i hi => ?_
  rw [cntK_len] at hi
  unfold cntK
  rw [lst_get hi, List.take_zero, List.getD_eq_getElem?_getD, List.getElem?_replicate, if_pos hi]
  rfl
theorem cntK_all {os : List (List Int)} {p n : Nat} : grt (cntK os p n os.length) = lvsN n os p := by
  unfold cntK lvsN
  rw [List.take_length]
set_option maxHeartbeats 1000000 in
theorem run_lvs {base a b id p bb : Nat} {h : Heap} {x : AVal} {L : Lac} {os : List (List Int)} (ga : h[a]? = some (pB id)) (gb : h[b]? = some (lsB x)) (hD : DskAt h id L) (hn : 1 ≤ L.C.length ∧ L.C.length ≤ 7) (hA : AllI bb h x os) (hl : os.length ≤ 823543) (ho : ∀ o ∈ os, Ord L.C.length o) (hp : p < L.C.length) :
    callL prog raw base (.fn 129 [] [.ptr (some ⟨a, 0, 0⟩), .ptr (some ⟨b, 0, 0⟩)]) [.int .i64 (p : Int)] h = some (.int .i64 (lvsN L.C.length os p), h) := by
  obtain ⟨cv, rv, hg, hC, -⟩ := hD
  have la := lt_of_get ga
  have lb := lt_of_get gb
  have lid := lt_of_get hg
  have ox := hA.one
  have lc := ld_cards hg
  have hlc := lenI hC
  obtain ⟨G, eG⟩ : ∃ G, G = h ++ [srB (cntK os p L.C.length 0) 3 0] := ⟨_, rfl⟩
  have mk : makeSliceA prog h 25 (.int .i64 (L.C.length : Int)) (.int .i64 (L.C.length : Int)) = some (.slice (some ⟨h.length, 0, 0⟩) L.C.length L.C.length, G) := by
    rw [make_full Fc.el25 (by omega) (by omega), rep_zero, eG, cntK_zero]
  have xG : Ext h G := by rw [eG]; exact .app .refl
  have gbG := xG.get gb
  have hlx := (hA.ext xG).len (by omega)
  unfold pB at ga
  unfold lsB at gb gbG
  refine callL_run func129 rfl rfl ?_
  have hsp := @Nat.succ_ne_zero; repeat' (first | simp (disch := first | exact dschL20 | fail) only [go_sem, ↓reduceIte, hsp, ga, lc, hlc, mk, gbG, hlx] | refine WP_drw ?_ | refine cnd_intro (fun hsp => ?_) fun hsp => ?_)
  refine WP_count [(7, 7), (17, 30)] 0 os.length (Nat.zero_le _) (fun _ i fr H => fr 17 = .int .i64 (i : Int) ∧ H = h ++ [srB (cntK os p L.C.length i) 3 0]) ?_ ?_ ?_
  · exact ⟨by (simp (disch := first | exact dschL20 | fail) only [go_sem, ↓reduceIte, Int.natCast_zero]; first | done | rfl), eG⟩
  · rintro i fr H hi0 hi hA2 ⟨r17, eH⟩
    have q0 := hA2 0 rfl
    have q4 := hA2 4 rfl
    have q5 := hA2 5 rfl
    have q15 := hA2 15 rfl
    have q16 := hA2 16 rfl
    try simp (disch := first | exact dschL20 | fail) only [go_sem, ↓reduceIte] at q0 q4 q5 q15 q16
    have hlt : ((i : Int) < (os.length : Int)) = True := eq_true (by omega)
    obtain ⟨o, eo⟩ : ∃ o, o = os[i] := ⟨_, rfl⟩
    have hoi : os[i]? = some o := by rw [eo]; exact List.getElem?_eq_getElem hi
    have hoo := ho o (List.mem_of_getElem? hoi)
    have xH : Ext h H := by rw [eH]; exact .app .refl
    have gH : H[h.length]? = some (srB (cntK os p L.C.length i) 3 0) := by rw [eH]; exact get_eq rfl
    obtain ⟨ea, w, ad, ld, ow⟩ := hA.at (by omega) hoi
    have ld0 := ld H xH
    have oww := ow.one
    have iw := ownE_ints (ow.ext xH) (ord_small hoo (by omega))
    have hpo : p < o.length := by rw [hoo.1]; exact hp
    have ap := adrI (i := (p : Int)) (by omega) iw (by omega)
    rw [Int.toNat_natCast] at ap
    have lp := loadI iw hpo
    have hr := hoo.2.1 _ (getD_mem hpo)
    obtain ⟨c, ec⟩ := Int.eq_ofNat_of_zero_le hr.1
    rw [ec] at lp
    have hcn : c < L.C.length := by omega
    have hcl := cntK_len (os := os) (p := p) (n := L.C.length) (i := i)
    have hbd := cntK_bd (os := os) (p := p) (i := i) hcn
    have ac : indexAddrA prog 25 (.slice (some ⟨h.length, 0, 0⟩) L.C.length L.C.length) (.int .i64 (c : Int)) = some (.ptr (some ⟨h.length, 0, c⟩)) := by
      rw [adr_sl Fc.el25 Fc.ar25 (by omega) (by omega), Int.toNat_natCast, Nat.mul_one, Nat.zero_add]
    obtain ⟨m, em⟩ : ∃ m, m = (cntK os p L.C.length i).getD c 0 := ⟨_, rfl⟩
    have d1 : loadP prog H 3 (.ptr (some ⟨h.length, 0, c⟩)) = some (.int .i64 m) := by
      rw [load_eq, Fc.ty3, gH, em]; exact ldB_ints (by omega)
    have hst : ∀ {F : ABlk → Heap}, stQ base h.length (some (srB (cntK os p L.C.length i) 3 0)) 0 c [.int .i64 (m + 1)] F = some (F (srB (cntK os p L.C.length (i + 1)) 3 0)) := fun {F} => by
      rw [stQ_ints (by omega), em, cntK_step hoi ec hcn]
    have hst2 : ∀ {F : ABlk → Heap}, stQ h.length h.length (some (srB (cntK os p L.C.length i) 3 0)) 0 c [.int .i64 (m + 1)] F = some (F (srB (cntK os p L.C.length (i + 1)) 3 0)) := fun {F} => by
      rw [stQ_ints (by omega), em, cntK_step hoi ec hcn]
    have hset : H.set h.length (srB (cntK os p L.C.length (i + 1)) 3 0) = h ++ [srB (cntK os p L.C.length (i + 1)) 3 0] := by
      rw [eH, List.set_append_right _ _ (Nat.le_refl _), Nat.sub_self]; rfl
    have hmb : 0 ≤ m ∧ m ≤ 823543 := by omega
    have hsp := @Nat.succ_ne_zero; repeat' (first | simp (disch := first | exact dschL20 | fail) only [go_sem, ↓reduceIte, hsp, r17, q0, q4, q5, q15, q16, hlt, ad, ld0, ap, lp, ac, d1, gH, hst2] | refine WP_drw ?_ | refine cnd_intro (fun hsp => ?_) fun hsp => ?_)
    exact ⟨by (repeat first | exact Agree.refl | assumption | refine Agree.put rfl ?_ | refine Agree.put0 ?_ | refine Agree.sub rfl (by assumption) ?_), by omega, hset⟩
  · rintro fr H hA2 ⟨r17, eH⟩
    have q0 := hA2 0 rfl
    have q4 := hA2 4 rfl
    have q5 := hA2 5 rfl
    have q15 := hA2 15 rfl
    have q16 := hA2 16 rfl
    try simp (disch := first | exact dschL20 | fail) only [go_sem, ↓reduceIte] at q0 q4 q5 q15 q16
    have hlt : ((os.length : Int) < (os.length : Int)) = False := eq_false (by omega)
    have gH : H[h.length]? = some (srB (cntK os p L.C.length os.length) 3 0) := by rw [eH]; exact get_eq rfl
    have hs : Small (cntK os p L.C.length os.length) := ⟨by rw [cntK_len]; omega, fun y hy => by
      obtain ⟨k, hk, e⟩ := List.mem_iff_getElem.1 hy
      rw [cntK_len] at hk
      have := cntK_bd (os := os) (p := p) (i := os.length) hk
      rw [getD_at (by rw [cntK_len]; exact hk), e] at this
      omega⟩
    have hI : Ints H (.slice (some ⟨h.length, 0, 0⟩) L.C.length L.C.length) (cntK os p L.C.length os.length) := by
      rw [eH]; exact slice_row rfl (by rw [cntK_len]) hs
    have hgr := fun base => run_greatest (base := base) hI
    rw [cntK_all] at hgr
    have hsp := @Nat.succ_ne_zero; repeat' (first | simp (disch := first | exact dschL20 | fail) only [go_sem, ↓reduceIte, hsp, r17, q0, q4, q5, q15, q16, hlt, hgr] | refine WP_drw ?_ | refine cnd_intro (fun hsp => ?_) fun hsp => ?_)
    exact fI rfl (by rw [eH]; exact .app .refl)
def askE (L : Lac) : Int × Int × Int := if (fndE L).2 = 0 then ((askN L.C.length (fnd L) L.C.length).1, (askN L.C.length (fnd L) L.C.length).2, 0) else (0, 0, (fndE L).2)
end Go.AM
/-
  Contracts: Ask.
-/
namespace Go.AM
open Go.Proofs.Try
theorem dschL21 {p : Prop} (h : p := by first | exact Nat.ne_of_beq_eq_false rfl | assumption | (apply asOne; (first | exact One.int | exact One.bool | assumption | exact Ints.one (by assumption) | exact Rows.one (by assumption) | exact Own.one (by assumption) | exact One.lit ⟨rfl, rfl, rfl⟩)) | (apply asInts; (repeat first | assumption | exact ints_nil | apply Ints.app); done) | (apply asRows; (repeat first | assumption | exact Rows.nil | apply Rows.app); done) | (apply asScal; (first | apply allS1 | apply allS2 | apply allS3 | apply allS4) <;> (first | exact One.int | exact One.bool | assumption | exact Ints.one (by assumption) | exact Rows.one (by assumption) | exact Own.one (by assumption) | exact One.lit ⟨rfl, rfl, rfl⟩)) | exact litT rfl | exact litF rfl | omega | (simp only [List.length_append, List.length_cons, List.length_nil, List.length_set, List.length_reverse]; first | done | omega) | fail) : p := h
attribute [-go_sem] put_ne put_same
attribute [local go_sem ↓] put_if
theorem grt_le {l : List Int} {B : Int} (hB : 0 ≤ B) (h : ∀ x ∈ l, x ≤ B) : 0 ≤ grt l ∧ grt l ≤ B := by
  refine ⟨grt_ge.1, ?_⟩
  unfold grt
  rcases grt_is (l := l) (a := 0) with q | q
  · omega
  · exact h _ q
theorem lvsN_bd {n : Nat} {os : List (List Int)} {p : Nat} (hl : os.length ≤ 823543) : 0 ≤ lvsN n os p ∧ lvsN n os p ≤ 1000000 := by
  unfold lvsN
  refine grt_le (by omega) fun x hx => ?_
  obtain ⟨k, hk, e⟩ := List.mem_iff_getElem.1 hx
  rw [lst_len] at hk
  have : (lst (fun k => ((os.countP fun o => decide (o.getD p 0 = (k : Int)) : Nat) : Int)) n).getD k 0 = x := by rw [getD_at (by rw [lst_len]; exact hk), e]
  rw [lst_get hk] at this
  have h2 : os.countP (fun o => decide (o.getD p 0 = (k : Int))) ≤ os.length := List.countP_le_length
  omega
abbrev lkB (g : AVal) : ABlk := ⟨.cells [g] 155 false false, 0⟩
set_option maxRecDepth 100000 in
set_option maxHeartbeats 2000000 in
theorem run_Ask {base : Nat} {h : Heap} {v : AVal} {L : Lac} (hL : LacAt h v L) :
    callL prog raw base (.fn 61 [] []) [v] h = some (.tuple [.int .i64 (askE L).1, .int .i64 (askE L).2.1, .int .i64 (askE L).2.2], h) := by
  have hL0 := hL
  obtain ⟨cv, rv, rfl, hC, hR⟩ := hL
  have o1 := hC.one
  have o2 := hR.one
  obtain ⟨G0, eG0⟩ : ∃ G0, G0 = h ++ [lacB L.T cv rv] := ⟨_, rfl⟩
  have x0 : Ext h G0 := by rw [eG0]; exact .app .refl
  have g0 : G0[h.length]? = some (lacB L.T cv rv) := by rw [eG0]; exact get_eq rfl
  have l0 : G0.length = h.length + 1 := by rw [eG0]; simp
  obtain ⟨w1, H1, e1, x1, a, x, rfl, oa, hA, hD⟩ := run_found (base := h.length) (h := G0) (by omega) (hL0.ext x0)
  have ox := hA.one
  have l1 := x1.len
  obtain ⟨H2, eH2⟩ : ∃ H2, H2 = H1 ++ [(⟨.cells [a] 132 false false, 0⟩ : ABlk)] := ⟨_, rfl⟩
  obtain ⟨H3, eH3⟩ : ∃ H3, H3 = H2 ++ [lsB x] := ⟨_, rfl⟩
  have x2 : Ext H1 H2 := by rw [eH2]; exact .app .refl
  have x3 : Ext H2 H3 := by rw [eH3]; exact .app .refl
  have l2 : H2.length = H1.length + 1 := by rw [eH2]; simp
  have l3 : H3.length = H1.length + 2 := by rw [eH3]; simp [l2]
  have ga : H3[H1.length]? = some ⟨.cells [a] 132 false false, 0⟩ := x3.get (by rw [eH2]; exact get_eq rfl)
  have gb : H3[H1.length + 1]? = some (lsB x) := by rw [eH3]; exact get_eq l2.symm
  have xh3 := ((x0.trans x1).trans x2).trans x3
  unfold lacB at eG0 g0
  have eH3' := eH3
  unfold lsB at eH3'
  refine callL_run func61 rfl rfl ?_
  by_cases c : (fndE L).2 = 0
  · obtain ⟨c1, c2, c3⟩ := fndE_ok c
    have kn := (chkL_iff.1 c1).n
    have r : askE L = ((askN L.C.length (fnd L) L.C.length).1, (askN L.C.length (fnd L) L.C.length).2, 0) := by unfold askE; rw [if_pos c]
    obtain ⟨id, rfl, hDk⟩ := hD c
    rw [r]
    rw [c3] at hA e1
    have hAI : AllI G0.length H1 x (fnd L) := hA.all
    have hfew := fnd_few (L := L) kn.2
    obtain ⟨H4, eH4⟩ : ∃ H4, H4 = H3 ++ [lkB (.fn 129 [] [.ptr (some ⟨H1.length, 0, 0⟩), .ptr (some ⟨H1.length + 1, 0, 0⟩)])] := ⟨_, rfl⟩
    have x4 : Ext H3 H4 := by rw [eH4]; exact .app .refl
    have l4 : H4.length = H1.length + 3 := by rw [eH4]; simp [l3]
    have g4 : H4[H3.length]? = some (lkB (.fn 129 [] [.ptr (some ⟨H1.length, 0, 0⟩), .ptr (some ⟨H1.length + 1, 0, 0⟩)])) := by rw [eH4]; exact get_eq rfl
    have ga4 := x4.get ga
    have gb4 := x4.get gb
    have x14 := (x2.trans x3).trans x4
    have hD4 := hDk.ext x14
    have hlv := fun base p (hp : p < L.C.length) => run_lvs (base := base) (p := p) ga4 gb4 hD4 kn (hAI.ext x14) hfew (fun o ho => fnd_ord ho) hp
    obtain ⟨cv', rv', hg, hC', -⟩ := hD4
    have lc := ld_cards hg
    have hlc := lenI hC'
    have hlb := fun p => lvsN_bd (n := L.C.length) (p := p) hfew
    unfold lkB at eH4 g4
    have hsp := @Nat.succ_ne_zero; repeat' (first | simp (disch := first | exact dschL21 | fail) only [go_sem, ↓reduceIte, hsp, ← eG0, g0, e1, eq_self, ← eH2, ← eH3', ga, gb, ← eH4, ga4, lc, hlc] | refine WP_drw ?_ | refine cnd_intro (fun hsp => ?_) fun hsp => ?_)
    obtain ⟨A, eA⟩ : ∃ A, A = askN L.C.length (fnd L) := ⟨_, rfl⟩
    rw [← eA]
    refine WP_count [(2, 3), (8, 9), (27, 43)] 0 L.C.length (Nat.zero_le _) (fun _ i fr H => fr 27 = .int .i64 (i : Int) ∧ H = H4 ∧ fr 2 = .int .i64 (A i).1 ∧ fr 3 = .int .i64 (A i).2) ?_ ?_ ?_
    · exact ⟨by (simp (disch := first | exact dschL21 | fail) only [go_sem, ↓reduceIte, Int.natCast_zero]; first | done | rfl), rfl, by rw [eA]; simp (disch := first | exact dschL21 | fail) only [go_sem, ↓reduceIte]; rfl, by rw [eA]; simp (disch := first | exact dschL21 | fail) only [go_sem, ↓reduceIte]; rfl⟩
    · rintro i fr H hi0 hi hA2 ⟨r27, rfl, r2, r3⟩
      have q4 := hA2 4 rfl
      have q7 := hA2 7 rfl
      have q26 := hA2 26 rfl
      try simp (disch := first | exact dschL21 | fail) only [go_sem, ↓reduceIte] at q4 q7 q26
      have hlt : ((i : Int) < (L.C.length : Int)) = True := eq_true (by omega)
      have hlv0 := fun base => hlv base i hi
      obtain ⟨m, em⟩ : ∃ m, m = lvsN L.C.length (fnd L) i := ⟨_, rfl⟩
      rw [← em] at hlv0
      have hs : A (i + 1) = if i = 0 ∨ m < (A i).2 then ((i : Int), m) else A i := by rw [eA, askN, em]
      by_cases q1 : i = 0
      · have t1 : ((i : Int) = 0) = True := eq_true (by omega)
        rw [if_pos (.inl q1)] at hs
        have hsp := @Nat.succ_ne_zero; repeat' (first | simp (disch := first | exact dschL21 | fail) only [go_sem, ↓reduceIte, hsp, r27, r2, r3, q4, q7, q26, hlt, g4, hlv0, t1] | refine WP_drw ?_ | refine cnd_intro (fun hsp => ?_) fun hsp => ?_)
        exact ⟨by (repeat first | exact Agree.refl | assumption | refine Agree.put rfl ?_ | refine Agree.put0 ?_ | refine Agree.sub rfl (by assumption) ?_), by omega, by rw [hs], by rw [hs]⟩
      · have t1 : ((i : Int) = 0) = False := eq_false (by omega)
        by_cases q2 : m < (A i).2
        · have t2 : (m < (A i).2) = True := eq_true q2
          rw [if_pos (.inr q2)] at hs
          have hsp := @Nat.succ_ne_zero; repeat' (first | simp (disch := first | exact dschL21 | fail) only [go_sem, ↓reduceIte, hsp, r27, r2, r3, q4, q7, q26, hlt, g4, hlv0, t1, t2] | refine WP_drw ?_ | refine cnd_intro (fun hsp => ?_) fun hsp => ?_)
          exact ⟨by (repeat first | exact Agree.refl | assumption | refine Agree.put rfl ?_ | refine Agree.put0 ?_ | refine Agree.sub rfl (by assumption) ?_), by omega, by rw [hs], by rw [hs]⟩
        · have t2 : (m < (A i).2) = False := eq_false q2
          rw [if_neg (fun z => z.elim q1 q2)] at hs
          have hsp := @Nat.succ_ne_zero; repeat' (first | simp (disch := first | exact dschL21 | fail) only [go_sem, ↓reduceIte, hsp, r27, r2, r3, q4, q7, q26, hlt, g4, hlv0, t1, t2] | refine WP_drw ?_ | refine cnd_intro (fun hsp => ?_) fun hsp => ?_)
          exact ⟨by (repeat first | exact Agree.refl | assumption | refine Agree.put rfl ?_ | refine Agree.put0 ?_ | refine Agree.sub rfl (by assumption) ?_), by omega, by rw [hs], by rw [hs]⟩
    · rintro fr H hA2 ⟨r27, rfl, r2, r3⟩
      have q4 := hA2 4 rfl
      have q7 := hA2 7 rfl
      have q26 := hA2 26 rfl
      try simp (disch := first | exact dschL21 | fail) only [go_sem, ↓reduceIte] at q4 q7 q26
      have hlt : ((L.C.length : Int) < (L.C.length : Int)) = False := eq_false (by omega)
      have hsp := @Nat.succ_ne_zero; repeat' (first | simp (disch := first | exact dschL21 | fail) only [go_sem, ↓reduceIte, hsp, r27, r2, r3, q4, q7, q26, hlt] | refine WP_drw ?_ | refine cnd_intro (fun hsp => ?_) fun hsp => ?_)
      exact fIII rfl rfl rfl (xh3.trans x4)
  · have t0 : ((fndE L).2 = 0) = False := eq_false c
    have r : askE L = (0, 0, (fndE L).2) := by unfold askE; rw [if_neg c]
    rw [r]
    have hsp := @Nat.succ_ne_zero; repeat' (first | simp (disch := first | exact dschL21 | fail) only [go_sem, ↓reduceIte, hsp, ← eG0, g0, e1, t0, ← eH2, ← eH3'] | refine WP_drw ?_ | refine cnd_intro (fun hsp => ?_) fun hsp => ?_)
    exact fIII rfl rfl rfl xh3
end Go.AM
/-
  Contracts: the chain of the examples, and what the chapter says of it (awake).
-/
namespace Go.AM
open Go.Proofs.Try
theorem dschL22 {p : Prop} (h : p := by first | exact Nat.ne_of_beq_eq_false rfl | assumption | (apply asOne; (first | exact One.int | exact One.bool | assumption | exact Ints.one (by assumption) | exact Rows.one (by assumption) | exact Own.one (by assumption) | exact One.lit ⟨rfl, rfl, rfl⟩)) | (apply asInts; (repeat first | assumption | exact ints_nil | apply Ints.app); done) | (apply asRows; (repeat first | assumption | exact Rows.nil | apply Rows.app); done) | (apply asScal; (first | apply allS1 | apply allS2 | apply allS3 | apply allS4) <;> (first | exact One.int | exact One.bool | assumption | exact Ints.one (by assumption) | exact Rows.one (by assumption) | exact Own.one (by assumption) | exact One.lit ⟨rfl, rfl, rfl⟩)) | exact litT rfl | exact litF rfl | omega | (simp only [List.length_append, List.length_cons, List.length_nil, List.length_set, List.length_reverse]; first | done | omega) | fail) : p := h
attribute [-go_sem] put_ne put_same
attribute [local go_sem ↓] put_if
def rws4 : List Rw3 := [(0, 1, 1), (5, 6, 0), (2, 4, 4), (3, 4, 4)]
def lac4 (r : Nat) : Lac := ⟨3, [1, 2, 3, 4], rws4.take r⟩
theorem bs4 {lit : Bool} {H : Heap} {a b c d : Int} : lit = false → bsA prog lit H 25 4 [(0, .int .i64 a), (1, .int .i64 b), (2, .int .i64 c), (3, .int .i64 d)] = some (.slice (some ⟨H.length, 0, 0⟩) 4 4, H ++ [rowB [a, b, c, d] 0]) := by
  intro hl; subst hl; simp [bsA, rowOf, Fc.el25, fillA, repCells, AVal.isN, AVal.cells, splice, rowB, ints]
theorem bs3 {lit : Bool} {H : Heap} {a b c : Int} : lit = false → bsA prog lit H 25 3 [(0, .int .i64 a), (1, .int .i64 b), (2, .int .i64 c)] = some (.slice (some ⟨H.length, 0, 0⟩) 3 3, H ++ [rowB [a, b, c] 0]) := by
  intro hl; subst hl; simp [bsA, rowOf, Fc.el25, fillA, repCells, AVal.isN, AVal.cells, splice, rowB, ints]
theorem bs5 {lit : Bool} {H : Heap} {a b c d e : Int} : lit = false → bsA prog lit H 25 5 [(0, .int .i64 a), (1, .int .i64 b), (2, .int .i64 c), (3, .int .i64 d), (4, .int .i64 e)] = some (.slice (some ⟨H.length, 0, 0⟩) 5 5, H ++ [rowB [a, b, c, d, e] 0]) := by
  intro hl; subst hl; simp [bsA, rowOf, Fc.el25, fillA, repCells, AVal.isN, AVal.cells, splice, rowB, ints]
theorem bsR4 {lit : Bool} {H : Heap} : bsA prog lit H 42 4 [(0, .agg [.int .i64 0, .int .i64 1, .int .i64 1]), (1, .agg [.int .i64 5, .int .i64 6, .int .i64 0]), (2, .agg [.int .i64 2, .int .i64 4, .int .i64 4]), (3, .agg [.int .i64 3, .int .i64 4, .int .i64 4])] = some (.slice (some ⟨H.length, 0, 0⟩) 4 4, H ++ [rowE encR 70 rws4 0]) := by
  simp [bsA, rowOf, Fc.el42, fillA, repCells, AVal.isN, AVal.cells, splice, rowE, flat, encR, rws4]
theorem bsM2 {lit : Bool} {H : Heap} : bsA prog lit H 33 2 [(0, .agg [.int .i64 1, .int .i64 0]), (1, .agg [.int .i64 3, .int .i64 1])] = some (.slice (some ⟨H.length, 0, 0⟩) 2 2, H ++ [rowE encM 36 [(1, 0), (3, 1)] 0]) := by
  simp [bsA, rowOf, Fc.el33, fillA, repCells, AVal.isN, AVal.cells, splice, rowE, flat, encM]
theorem run_Four {base r : Nat} {h : Heap} (hb : base ≤ h.length) (hr : r ≤ 4) : Ret prog raw base (.fn 95 [] []) [.int .i64 (r : Int)] h (fun w H => Ext h H ∧ LacAt H w (lac4 r)) := by
  obtain ⟨H1, e1⟩ : ∃ H1, H1 = h ++ [lacB 0 (.slice none 0 0) (.slice none 0 0)] := ⟨_, rfl⟩
  obtain ⟨H2, e2⟩ : ∃ H2, H2 = H1 ++ [rowE encR 70 rws4 0] := ⟨_, rfl⟩
  obtain ⟨H3, e3⟩ : ∃ H3, H3 = H2 ++ [rowB [1, 2, 3, 4] 0] := ⟨_, rfl⟩
  have l1 : H1.length = h.length + 1 := by rw [e1]; simp
  have l2 : H2.length = h.length + 2 := by rw [e2]; simp [l1]
  have l3 : H3.length = h.length + 3 := by rw [e3]; simp [l2]
  have x1 : Ext h H1 := by rw [e1]; exact .app .refl
  have x2 : Ext H1 H2 := by rw [e2]; exact .app .refl
  have x3 : Ext H2 H3 := by rw [e3]; exact .app .refl
  have g1 : H3[h.length]? = some (lacB 0 (.slice none 0 0) (.slice none 0 0)) := x3.get (x2.get (by rw [e1]; exact get_eq rfl))
  have g2 : H3[H1.length]? = some (rowE encR 70 rws4 0) := x3.get (by rw [e2]; exact get_eq rfl)
  have g3 : H3[H2.length]? = some (rowB [1, 2, 3, 4] 0) := by rw [e3]; exact get_eq rfl
  have ln : ∀ {H : Heap}, lenOpA prog H 42 (.slice (some ⟨H1.length, 0, 0⟩) 4 4) = some (.int .i64 4) := fun {H} => by simp [lenOpA, Fc.el42, lenA]
  have mn : min (r : Int) 4 = (r : Int) := by omega
  have mx : max 0 (r : Int) = (r : Int) := by omega
  have sl : sliceA prog 42 (.slice (some ⟨H1.length, 0, 0⟩) 4 4) none (some (.int .i64 (r : Int))) none = some (.slice (some ⟨H1.length, 0, 0⟩) r 4) := by
    simp only [sliceA, Fc.ar42, Fc.el42, optB, boundI (show (0 : Int) ≤ (r : Int) by omega) (show (r : Int) ≤ ((4 : Nat) : Int) by omega)]
    simp [ARef.add]
  have hfin : Ext h (H3.set h.length (lacB 3 (.slice (some ⟨H2.length, 0, 0⟩) 4 4) (.slice (some ⟨H1.length, 0, 0⟩) r 4))) ∧ LacAt (H3.set h.length (lacB 3 (.slice (some ⟨H2.length, 0, 0⟩) 4 4) (.slice (some ⟨H1.length, 0, 0⟩) r 4))) (.agg [.int .i64 3, .slice (some ⟨H2.length, 0, 0⟩) 4 4, .slice (some ⟨H1.length, 0, 0⟩) r 4]) (lac4 r) := by
    refine ⟨((x1.trans x2).trans x3).set (Nat.le_refl _), _, _, rfl, ?_, ?_⟩
    · refine ⟨⟨by show ([1, 2, 3, 4] : List Int).length < 2 ^ 60; decide, by show ∀ x ∈ ([1, 2, 3, 4] : List Int), _; decide⟩, .inr (.inr ⟨⟨H2.length, 0, 0⟩, 4, ints [1, 2, 3, 4], 3, true, false, rfl, ?_, rfl, by show 0 + ([1, 2, 3, 4] : List Int).length ≤ 4; decide, by show ([1, 2, 3, 4] : List Int).length ≤ 4; decide⟩)⟩
      rw [List.getElem?_set_ne (by show h.length ≠ H2.length; omega)]; exact g3
    · have hlen : (rws4.take r).length = r := by rw [List.length_take]; exact Nat.min_eq_left hr
      refine ⟨by show (rws4.take r).length < _; omega, .inr (.inr ⟨⟨H1.length, 0, 0⟩, 4, flat encR rws4, 70, true, false, by show _ = AVal.slice _ (rws4.take r).length _; rw [hlen], ?_, ?_, ?_, by show (rws4.take r).length ≤ 4; omega⟩)⟩
      · rw [List.getElem?_set_ne (by show h.length ≠ H1.length; omega)]; exact g2
      · show ((flat encR rws4).drop 0).take ((rws4.take r).length * 3) = flat encR (rws4.take r)
        rw [hlen]
        have : r = 0 ∨ r = 1 ∨ r = 2 ∨ r = 3 ∨ r = 4 := by omega
        rcases this with rfl | rfl | rfl | rfl | rfl <;> rfl
      · show 0 + (rws4.take r).length * 3 ≤ 12
        omega
  unfold lacB at e1 g1 hfin
  refine ret_raw func95 rfl (by kernel_rfl) ?_
  have hsp := @Nat.succ_ne_zero; repeat' (first | simp (disch := first | exact dschL22 | fail) only [go_sem, ↓reduceIte, hsp, ← e1, bsR4, ← e2, bs4, ← e3, ln, mn, mx, sl, g1] | refine WP_drw ?_ | refine cnd_intro (fun hsp => ?_) fun hsp => ?_)
  exact hfin
theorem kw4 : kwnE (lac4 2) = ([2, 0, -1, -1], 0) := by kernel_rfl
theorem cn4 : cntE (lac4 2) = (2, 0) := by kernel_rfl
theorem as4 : askE (lac4 2) = (2, 1, 0) := by kernel_rfl
theorem gp4 : gpsE (lac4 4) [2, 3] = (1, 0) := by kernel_rfl
theorem ri5 : risE [2, 0, 3, 1, 4] = ([0, 2, 4], 0) := by kernel_rfl
theorem mk5 : makE [2, 0, 3, 1, 4] [(1, 0), (3, 1)] = ([0, 1, 2, 3, 4], 0) := by kernel_rfl
end Go.AM
/-
  What the chapter says of its examples (awake).
-/
namespace Go.AM
open Go.Proofs.Try
theorem dschL23 {p : Prop} (h : p := by first | exact Nat.ne_of_beq_eq_false rfl | assumption | (apply asOne; (first | exact One.int | exact One.bool | assumption | exact Ints.one (by assumption) | exact Rows.one (by assumption) | exact Own.one (by assumption) | exact One.lit ⟨rfl, rfl, rfl⟩)) | (apply asInts; (repeat first | assumption | exact ints_nil | apply Ints.app); done) | (apply asRows; (repeat first | assumption | exact Rows.nil | apply Rows.app); done) | (apply asScal; (first | apply allS1 | apply allS2 | apply allS3 | apply allS4) <;> (first | exact One.int | exact One.bool | assumption | exact Ints.one (by assumption) | exact Rows.one (by assumption) | exact Own.one (by assumption) | exact One.lit ⟨rfl, rfl, rfl⟩)) | exact litT rfl | exact litF rfl | omega | (simp only [List.length_append, List.length_cons, List.length_nil, List.length_set, List.length_reverse]; first | done | omega) | fail) : p := h
attribute [-go_sem] put_ne put_same
attribute [local go_sem ↓] put_if
theorem small5 : Small [2, 0, 3, 1, 4] := ⟨by decide, by decide⟩
set_option maxRecDepth 100000 in
set_option maxHeartbeats 4000000 in
theorem run_awake {base : Nat} {h : Heap} : callL prog raw base (.fn 28 [] []) [] h = some (.bool true, h) := by
  obtain ⟨b, eb⟩ : ∃ b, b = h.length := ⟨_, rfl⟩
  obtain ⟨v1, H1, e1, x1, c1⟩ := run_Four (base := h.length) (r := 2) (h := h) (Nat.le_refl _) (by omega)
  have n1 := x1.len
  obtain ⟨_, H2, e2, x2, k1, rfl, o2⟩ := run_Known (base := h.length) (h := H1) (by omega) c1
  rw [kw4] at e2 o2
  have n2 := x2.len
  obtain ⟨v3, H3, e3, x3, c3⟩ := run_Four (base := h.length) (r := 2) (h := H2) (by omega) (by omega)
  have n3 := x3.len
  have e4 := run_Count (base := h.length) c3
  rw [cn4] at e4
  obtain ⟨v5, H5, e5, x5, c5⟩ := run_Four (base := h.length) (r := 2) (h := H3) (by omega) (by omega)
  have n5 := x5.len
  have e6 := run_Ask (base := h.length) c5
  rw [as4] at e6
  obtain ⟨v7, H7, e7, x7, c7⟩ := run_Four (base := h.length) (r := 4) (h := H5) (by omega) (by omega)
  have n7 := x7.len
  obtain ⟨H8, eH8⟩ : ∃ H8, H8 = H7 ++ [rowB [2, 3] 0] := ⟨_, rfl⟩
  have x8 : Ext H7 H8 := by rw [eH8]; exact .app .refl
  have n8 := x8.len
  have e8 := run_Gapes (base := h.length) (gap := [2, 3]) (gv := .slice (some ⟨H7.length, 0, 0⟩) 2 2) (c7.ext x8) (by rw [eH8]; exact slice_row rfl rfl ⟨by decide, by decide⟩)
  rw [gp4] at e8
  obtain ⟨H9, eH9⟩ : ∃ H9, H9 = H8 ++ [rowB [2, 0, 3, 1, 4] 0] := ⟨_, rfl⟩
  have x9 : Ext H8 H9 := by rw [eH9]; exact .app .refl
  have n9 := x9.len
  obtain ⟨_, H10, e10, x10, k2, rfl, o10⟩ := run_Rise (base := h.length) (h := H9) (v := .slice (some ⟨H8.length, 0, 0⟩) 5 5) (o := [2, 0, 3, 1, 4]) (by omega) (by rw [eH9]; exact slice_row rfl rfl small5)
  rw [ri5] at e10 o10
  have n10 := x10.len
  obtain ⟨H11, eH11⟩ : ∃ H11, H11 = H10 ++ [rowB [2, 0, 3, 1, 4] 0] := ⟨_, rfl⟩
  have x11 : Ext H10 H11 := by rw [eH11]; exact .app .refl
  have n11 := x11.len
  obtain ⟨H12, eH12⟩ : ∃ H12, H12 = H11 ++ [rowE encM 36 [(1, 0), (3, 1)] 0] := ⟨_, rfl⟩
  have x12 : Ext H11 H12 := by rw [eH12]; exact .app .refl
  have n12 := x12.len
  obtain ⟨_, H13, e13, x13, k3, rfl, o13⟩ := run_Make (base := h.length) (h := H12) (v := .slice (some ⟨H10.length, 0, 0⟩) 5 5) (mv := .slice (some ⟨H11.length, 0, 0⟩) 2 2) (o := [2, 0, 3, 1, 4]) (ms := [(1, 0), (3, 1)]) (by omega)
    (Ints.ext (by rw [eH11]; exact slice_row rfl rfl small5) x12) (Rows.own (by rw [eH12]; exact get_eq rfl) rfl (by decide)) (by decide)
  rw [mk5] at e13 o13
  have n13 := x13.len
  have ok1 := o2.one
  have ok2 := o10.one
  have ok3 := o13.one
  have i1 : Ints H2 k1 [2, 0, -1, -1] := ownE_ints o2 ⟨by decide, by decide⟩
  have i2 : Ints H10 k2 [0, 2, 4] := own_ints o10 ⟨by decide, by decide⟩
  have i3 : Ints H13 k3 [0, 1, 2, 3, 4] := ownE_ints o13 ⟨by decide, by decide⟩
  have y10 := (x11.trans x12).trans x13
  have y2 := (((((x3.trans x5).trans x7).trans x8).trans x9).trans x10).trans y10
  obtain ⟨K1, eK1⟩ : ∃ K1, K1 = H13 ++ [rowB [2, 0, -1, -1] 0] := ⟨_, rfl⟩
  have z1 : Ext H13 K1 := by rw [eK1]; exact .app .refl
  obtain ⟨K2, eK2⟩ : ∃ K2, K2 = K1 ++ [rowB [0, 2, 4] 0] := ⟨_, rfl⟩
  have z2 : Ext K1 K2 := by rw [eK2]; exact .app .refl
  obtain ⟨K3, eK3⟩ : ∃ K3, K3 = K2 ++ [rowB [0, 1, 2, 3, 4] 0] := ⟨_, rfl⟩
  have z3 : Ext K2 K3 := by rw [eK3]; exact .app .refl
  have q1 := run_eqI (base := h.length) (h := K1) (b := .slice (some ⟨H13.length, 0, 0⟩) 4 4) (m := [2, 0, -1, -1]) (i1.ext (y2.trans z1)) (by rw [eK1]; exact slice_row rfl rfl ⟨by decide, by decide⟩)
  have q2 := run_eqI (base := h.length) (h := K2) (b := .slice (some ⟨K1.length, 0, 0⟩) 3 3) (m := [0, 2, 4]) (i2.ext ((y10.trans z1).trans z2)) (by rw [eK2]; exact slice_row rfl rfl ⟨by decide, by decide⟩)
  have q3 := run_eqI (base := h.length) (h := K3) (b := .slice (some ⟨K2.length, 0, 0⟩) 5 5) (m := [0, 1, 2, 3, 4]) (i3.ext ((z1.trans z2).trans z3)) (by rw [eK3]; exact slice_row rfl rfl ⟨by decide, by decide⟩)
  rw [decide_eq_true rfl] at q1 q2 q3
  have xf : Ext h K3 := ((((x1.trans x2).trans y2).trans z1).trans z2).trans z3
  rw [show ((2 : Nat) : Int) = 2 from rfl] at e1 e3 e5
  rw [show ((4 : Nat) : Int) = 4 from rfl] at e7
  refine callL_run func28 rfl rfl ?_
  have hsp := @Nat.succ_ne_zero; repeat' (first | simp (disch := first | exact dschL23 | fail) only [go_sem, ↓reduceIte, hsp, e1, e2, e3, e4, e5, e6, e7, bs2, ← eH8, e8, bs5, ← eH9, e10, ← eH11, bsM2, ← eH12, e13, eq_self, decide_true, bs4, ← eK1, q1, bs3, ← eK2, q2, ← eK3, q3] | refine WP_drw ?_ | refine cnd_intro (fun hsp => ?_) fun hsp => ?_)
  exact fB rfl xf
end Go.AM
/-
  LaceRisen, walked: what comes ahead of its loops.
-/
namespace Go.AM
open Go.Proofs.Try
attribute [-go_sem] put_ne put_same
attribute [local go_sem ↓] put_if
theorem perm_ord {n : Nat} {o : List Int} (h : o.Perm (upto n)) : Ord n o := ⟨by rw [h.length_eq, upto_len], fun x hx => upto_mem.1 (h.mem_iff.1 hx), h.nodup_iff.2 (upto_nd n)⟩
/-- Two spools, a number from 1 to 7 and an order of so many cards; the other spool is as it was. -/
structure Risn (h H : Heap) (v0 v1 : AVal) (l0 l1 : List Int) (n : Nat) (w : AVal) (o : List Int) : Prop where
  bd : 1 ≤ n ∧ n ≤ 7
  ext : Ext h H
  own : OwnE encI 3 (h.length + 2) H w o
  ord : Ord n o
  len : h.length + 2 ≤ H.length
  q : SpAt H (h.length + 1) v1 l1 0
theorem run_risn {h : Heap} {v0 v1 : AVal} {l0 l1 : List Int} (hB0 : Bytes h v0 l0) (hB1 : Bytes h v1 l1) :
    ∃ (G2 : Heap) (n : Nat) (H : Heap) (w : AVal) (o : List Int), callL prog raw h.length (.fn 18 [] []) [v0] h = some (.ptr (some ⟨h.length, 0, 0⟩), h ++ [spB v0 l0 0]) ∧
      callL prog raw h.length (.fn 18 [] []) [v1] (h ++ [spB v0 l0 0]) = some (.ptr (some ⟨h.length + 1, 0, 0⟩), h ++ [spB v0 l0 0] ++ [spB v1 l1 0]) ∧
      callL prog raw h.length (.fn 20 [] []) [.ptr (some ⟨h.length, 0, 0⟩), .int .i64 1, .int .i64 7] (h ++ [spB v0 l0 0] ++ [spB v1 l1 0]) = some (.int .i64 (n : Int), G2) ∧
      callL prog raw h.length (.fn 19 [] []) [.ptr (some ⟨h.length, 0, 0⟩), .int .i64 (n : Int)] G2 = some (w, H) ∧ Risn h H v0 v1 l0 l1 n w o := by
  have hw0 := run_wound (base := h.length) hB0
  have hw1 := run_wound (base := h.length) (hB1.ext (.app (t := [spB v0 l0 0]) .refl))
  rw [show (h ++ [spB v0 l0 0]).length = h.length + 1 by simp] at hw1
  obtain ⟨G1, eG1⟩ : ∃ G1, G1 = h ++ [spB v0 l0 0] ++ [spB v1 l1 0] := ⟨_, rfl⟩
  have lG1 : G1.length = h.length + 2 := by rw [eG1]; simp
  have x1 : Ext h G1 := by rw [eG1]; exact .app (.app .refl)
  have hS0 : SpAt G1 h.length v0 l0 0 := by rw [eG1]; exact (SpAt.new hB0 rfl).app
  have hS1 : SpAt G1 (h.length + 1) v1 l1 0 := by rw [eG1]; exact SpAt.new (hB1.ext (.app (t := [spB v0 l0 0]) .refl)) (by simp)
  have hfr := run_from (base := h.length) (lo := 1) (hi := 7) hS0 (by omega) (by omega) (by omega)
  have hup := up_bd (silk := l0) (k := 0) (n := 7 - 1) (by omega)
  obtain ⟨n, en⟩ := Int.eq_ofNat_of_zero_le (show 0 ≤ 1 + up l0 0 (7 - 1) by omega)
  rw [en] at hfr
  obtain ⟨G2, eG2⟩ : ∃ G2, G2 = G1.set h.length (spB v0 l0 (0 + 1)) := ⟨_, rfl⟩
  rw [← eG2] at hfr
  have hS2 : SpAt G2 h.length v0 l0 (0 + 1) := by rw [eG2]; exact hS0.set
  have lG2 : G2.length = h.length + 2 := by rw [eG2, List.length_set, lG1]
  obtain ⟨w, H, eo, y, o, oo, hp⟩ := run_order (base := h.length) (n := n) (by omega) hS2 (by omega) (by omega)
  have ly := y.len
  refine ⟨G2, n, H, w, o, hw0, hw1, by rw [← eG1]; exact hfr, eo, by omega, ?_, oo.low (by omega), perm_ord hp, by omega, ?_⟩
  · have : Ext h G2 := by rw [eG2]; exact x1.set (Nat.le_refl _)
    exact y.on this (Nat.le_refl _)
  · have g2 : G2[h.length + 1]? = some (spB v1 l1 0) := by rw [eG2, List.getElem?_set_ne (by omega)]; exact hS1.1
    refine ⟨y.get (by omega) g2, ?_, hS1.2.2⟩
    have : Ext h H := y.on (show Ext h G2 by rw [eG2]; exact x1.set (Nat.le_refl _)) (Nat.le_refl _)
    exact hB1.ext this
end Go.AM
/-
  LaceRisen, walked.
-/
namespace Go.AM
open Go.Proofs.Try
theorem dschL34 {p : Prop} (h : p := by first | exact Nat.ne_of_beq_eq_false rfl | assumption | (apply asOne; (first | exact One.int | exact One.bool | assumption | exact Ints.one (by assumption) | exact Rows.one (by assumption) | exact Own.one (by assumption) | exact One.lit ⟨rfl, rfl, rfl⟩)) | (apply asSp; (repeat first | assumption | apply SpAt.set | (refine SpAt.new ?_ (by (first | rfl | (simp only [List.length_append, List.length_cons, List.length_nil, List.length_set]; done) | (simp only [List.length_append, List.length_cons, List.length_nil, List.length_set]; omega)))) | apply SpAt.app | apply Bytes.app); done) | (apply asBytes; (repeat first | assumption | apply Bytes.app); done) | (apply asInts; (repeat first | assumption | exact ints_nil | apply Ints.app); done) | (apply asRows; (repeat first | assumption | exact Rows.nil | apply Rows.app); done) | (apply asScal; (first | apply allS1 | apply allS2 | apply allS3 | apply allS4) <;> (first | exact One.int | exact One.bool | assumption | exact Ints.one (by assumption) | exact Rows.one (by assumption) | exact Own.one (by assumption) | exact One.lit ⟨rfl, rfl, rfl⟩)) | exact litT rfl | exact litF rfl | omega | (simp only [List.length_append, List.length_cons, List.length_nil, List.length_set, List.length_reverse]; first | done | omega) | fail) : p := h
attribute [-go_sem] put_ne put_same
attribute [local go_sem ↓] put_if
set_option maxRecDepth 100000 in
set_option maxHeartbeats 8000000 in
theorem run_LaceRisen {base : Nat} {h : Heap} {v0 v1 : AVal} {l0 l1 : List Int} (hB0 : Bytes h v0 l0) (hB1 : Bytes h v1 l1) :
    callL prog raw base (.fn 12 [] []) [v0, v1] h = some (.bool true, h) := by
  have o0 := hB0.one
  have o1 := hB1.one
  obtain ⟨G2, n, H, w, o, e1, e2, e3, e4, R⟩ := run_risn hB0 hB1
  obtain ⟨hbd, xH, hO, hord, hHl, hQ⟩ := R
  obtain ⟨a1, a2, a3, a4, a5, a6, a7, a8⟩ := ord_all5 hbd hord
  have ow := hO.one
  have hsm : Small o := ord_small hord (by omega)
  have iO := ownE_ints hO hsm
  obtain ⟨_, H3, e5, x3, r, rfl, oR⟩ := run_Rise (base := h.length) (h := H) (by omega) iO
  rw [a2] at e5 oR
  have l3 := x3.len
  have orr := oR.one
  obtain ⟨_, H4, e6, x4, p, vs, rfl, oP⟩ := run_Piles (base := h.length) (h := H3) (by omega) (iO.ext x3)
  rw [a3] at e6 oP
  have l4 := x4.len
  have opp := oP.own.one
  have hpl : (pilN o o.length).length ≤ 7 := by rw [a5]; omega
  have hdn := pilN_ok (ord_dist hord) (Nat.le_refl o.length)
  have hps : ∀ x ∈ pilN o o.length, x.length ≤ 1000 ∧ Small x := fun x hx => by
    have h1 : x.Sublist (pilN o o.length).flatten := List.sublist_flatten_of_mem hx
    have h2 := h1.length_le
    rw [hdn.all.length_eq, upto_len, hord.1] at h2
    refine ⟨by omega, by omega, fun y hy => ?_⟩
    have := upto_mem.1 (hdn.all.mem_iff.1 (h1.subset hy))
    have := hord.1
    omega
  have hPA : AllI H3.length H4 p (pilN o o.length) := oP.all
  have e7 := run_Shows (base := h.length) (iO.ext (x3.trans x4)) hPA (by omega) hps
  rw [a4] at e7
  obtain ⟨_, H5, e8, x5, m, rfl, oM⟩ := run_Mend (base := h.length) (h := H4) (by omega) (iO.ext (x3.trans x4))
  rw [a6] at e8 oM
  have l5 := x5.len
  have omm := oM.one
  have hml : (mndL o).length ≤ 7 := by omega
  have rM := oM.rows (show (mndL o).length < 2 ^ 60 by omega)
  obtain ⟨_, H6, e9, x6, k, rfl, oK⟩ := run_Make (base := h.length) (h := H5) (v := w) (mv := m) (o := o) (ms := mndL o) (by omega) (iO.ext ((x3.trans x4).trans x5)) rM (by omega)
  rw [a7] at e9 oK
  have l6 := x6.len
  have okk := oK.one
  have y3 := ((x4.trans x5).trans x6)
  have oR' : Own encI 3 H.length H3 r (riseL o) := oR
  have hrl : (riseL o).length ≤ 7 := by omega
  have hrb : ∀ x ∈ riseL o, 0 ≤ x ∧ x < (n : Int) := fun x hx => by
    have := (riseL_is o).1.2 x hx
    rw [hord.1] at this; exact this
  have iR : Ints H6 r (riseL o) := (own_ints oR' ⟨by omega, fun x hx => by have := hrb x hx; omega⟩).ext y3
  have lr := lenI iR
  have lp := (hPA.ext (x5.trans x6)).len (by omega)
  rw [a5] at lp
  have lm := (rM.ext x6).len (P := prog) Fc.el33
  have iW : Ints H6 w o := iO.ext (x3.trans y3)
  have lw := lenI iW
  rw [hord.1] at lw
  have oK' : OwnE encI 3 H5.length H6 k (upto n) := oK
  have iK : Ints H6 k (upto n) := ownE_ints oK' ⟨by rw [upto_len]; omega, fun x hx => by have := upto_mem.1 hx; omega⟩
  have hpm := fun base => run_permutes (base := base) (n := n) iK
  rw [prmB_upto] at hpm
  have hso := fun base => run_sorted (base := base) iK
  rw [sortB_upto] at hso
  have t1 : (((mndL o).length : Int) = (n : Int) - ((riseL o).length : Int)) = True := eq_true (by omega)
  refine callL_run func12 rfl rfl ?_
  have hsp := @Nat.succ_ne_zero; repeat' (first | simp (disch := first | exact dschL34 | fail) only [go_sem, ↓reduceIte, hsp, e1, e2, e3, e4, e5, e6, e7, e8, e9, eq_self, lr, lp, lm, lw, t1, hpm, hso] | refine WP_drw ?_ | refine cnd_intro (fun hsp => ?_) fun hsp => ?_)
  refine WP_count [(4, 4), (18, 19), (113, 154)] 0 (riseL o).length (Nat.zero_le _) (fun _ i fr K => fr 113 = .int .i64 (i : Int) ∧ K = H6) ?_ ?_ ?_
  · exact ⟨by (simp (disch := first | exact dschL34 | fail) only [go_sem, ↓reduceIte, Int.natCast_zero]; first | done | rfl), rfl⟩
  · rintro i fr K hi0 hi hA ⟨r113, rfl⟩
    have q6 := hA 6 rfl
    have q7 := hA 7 rfl
    have q8 := hA 8 rfl
    have q12 := hA 12 rfl
    have q14 := hA 14 rfl
    have q111 := hA 111 rfl
    have q112 := hA 112 rfl
    try simp (disch := first | exact dschL34 | fail) only [go_sem, ↓reduceIte] at q6 q7 q8 q12 q14 q111 q112
    have hlt : ((i : Int) < ((riseL o).length : Int)) = True := eq_true (by omega)
    have ai := adrI (i := (i : Int)) (by omega) iR (by omega)
    rw [Int.toNat_natCast] at ai
    have li := loadI iR hi
    obtain ⟨z1, z2⟩ := rise_at hi
    obtain ⟨pp, epp⟩ : ∃ pp, pp = (riseL o).getD i 0 := ⟨_, rfl⟩
    rw [← epp] at li z1 z2
    rw [hord.1] at z1
    have s1 : (pp < 0) = False := eq_false (by omega)
    have s2 : (pp ≥ (n : Int)) = False := eq_false (by omega)
    by_cases q1 : 0 < i
    · have s3 : ((i : Int) > 0) = True := eq_true (by omega)
      have s4 : ((i : Int) - 1) = ((i - 1 : Nat) : Int) := by omega
      have ai1 := adrI (i := ((i - 1 : Nat) : Int)) (by omega) iR (by omega)
      rw [Int.toNat_natCast] at ai1
      have li1 := loadI iR (i := i - 1) (by omega)
      have hp1 := hrb _ (getD_mem (l := riseL o) (i := i - 1) (by omega))
      obtain ⟨p1, ep1⟩ : ∃ p1, p1 = (riseL o).getD (i - 1) 0 := ⟨_, rfl⟩
      rw [← ep1] at li1 hp1 z2
      have z3 := z2 q1
      have ol := hord.1
      have s5 : (pp ≤ p1) = False := eq_false (by omega)
      have b1 := adrI (i := pp) (by omega) iW (by omega)
      have b2 := loadI iW (i := pp.toNat) (by omega)
      have b3 := adrI (i := p1) (by omega) iW (by omega)
      have b4 := loadI iW (i := p1.toNat) (by omega)
      have s6 : (o.getD pp.toNat 0 ≤ o.getD p1.toNat 0) = False := eq_false (by omega)
      have hsp := @Nat.succ_ne_zero; repeat' (first | simp (disch := first | exact dschL34 | fail) only [go_sem, ↓reduceIte, hsp, r113, q6, q7, q8, q12, q14, q111, q112, hlt, ai, li, lw, s1, s2, s3, s4, ai1, li1, s5, b1, b2, b3, b4, s6] | refine WP_drw ?_ | refine cnd_intro (fun hsp => ?_) fun hsp => ?_)
      exact ⟨by (repeat first | exact Agree.refl | assumption | refine Agree.put rfl ?_ | refine Agree.put0 ?_ | refine Agree.sub rfl (by assumption) ?_), by omega⟩
    · have s3 : ((i : Int) > 0) = False := eq_false (by omega)
      have hsp := @Nat.succ_ne_zero; repeat' (first | simp (disch := first | exact dschL34 | fail) only [go_sem, ↓reduceIte, hsp, r113, q6, q7, q8, q12, q14, q111, q112, hlt, ai, li, lw, s1, s2, s3] | refine WP_drw ?_ | refine cnd_intro (fun hsp => ?_) fun hsp => ?_)
      exact ⟨by (repeat first | exact Agree.refl | assumption | refine Agree.put rfl ?_ | refine Agree.put0 ?_ | refine Agree.sub rfl (by assumption) ?_), by omega⟩
  · rintro fr K hA ⟨r113, rfl⟩
    have q6 := hA 6 rfl
    have q7 := hA 7 rfl
    have q8 := hA 8 rfl
    have q12 := hA 12 rfl
    have q14 := hA 14 rfl
    have q111 := hA 111 rfl
    have q112 := hA 112 rfl
    try simp (disch := first | exact dschL34 | fail) only [go_sem, ↓reduceIte] at q6 q7 q8 q12 q14 q111 q112
    have hlt : (((riseL o).length : Int) < ((riseL o).length : Int)) = False := eq_false (by omega)
    have hsp := @Nat.succ_ne_zero; repeat' (first | simp (disch := first | exact dschL34 | fail) only [go_sem, ↓reduceIte, hsp, r113, q6, q7, q8, q12, q14, q111, q112, hlt] | refine WP_drw ?_ | refine cnd_intro (fun hsp => ?_) fun hsp => ?_)
    have hS6 : SpAt K (h.length + 1) v1 l1 0 := ⟨(x3.trans y3).get hQ.1, hQ.2.1.ext (x3.trans y3), hQ.2.2⟩
    have lid := lt_of_get hS6.1
    have hx36 := x3.trans y3
    refine WP_count [(4, 4), (20, 217)] 0 6 (Nat.zero_le _) (fun _ j fr K' => fr 155 = .int .i64 (j : Int) ∧ ∃ q, q ≤ j * 20 ∧ SpE K (h.length + 1) v1 l1 q K') ?_ ?_ ?_
    · exact ⟨by (simp (disch := first | exact dschL34 | fail) only [go_sem, ↓reduceIte, Int.natCast_zero]; first | done | rfl), 0, by omega, SpE.refl hS6⟩
    · rintro j fr2 K' hj0 hj hA2 ⟨r155, sq, hsq, xK⟩
      have d6 := hA2 6 rfl
      have d7 := hA2 7 rfl
      have d12 := hA2 12 rfl
      have d14 := hA2 14 rfl
      try simp (disch := first | exact dschL34 | fail) only [go_sem, ↓reduceIte, q6, q7, q12, q14] at d6 d7 d12 d14
      have hlt2 : ((j : Int) < 6) = True := eq_true (by omega)
      obtain ⟨N, eN⟩ : ∃ N, N = (mndL o).length - 1 := ⟨_, rfl⟩
      have lKK := xK.len
      have hS' := xK.at hS6
      have hid' := lt_of_get hS'.1
      have oW' : OwnE encI 3 (h.length + 2) K' w o := ((hO.ext hx36).setBox hS6.1).ext xK
      have iW' : Ints K' w o := ownE_ints oW' hsm
      have lw' := lenI iW'
      rw [hord.1] at lw'
      have rM' : Rows encM K' m (mndL o) := ((oM.ext x6).setBox hS6.1).ext xK |>.rows (show (mndL o).length < 2 ^ 60 by omega)
      have lm' := rM'.len (P := prog) Fc.el33
      have hsp := @Nat.succ_ne_zero; repeat' (first | simp (disch := first | exact dschL34 | fail) only [go_sem, ↓reduceIte, hsp, r155, d6, d7, d12, d14, q6, q7, q8, q12, q14, q111, q112, hlt2, lm'] | refine WP_drw ?_ | refine cnd_intro (fun hsp => ?_) fun hsp => ?_)
      refine WP_count [(20, 20), (160, 176)] 0 N (Nat.zero_le _) (fun _ i fr K2 => fr 160 = .int .i64 (i : Int) ∧ ∃ q2 fs u, fr 20 = u ∧ q2 ≤ sq + 2 * i ∧ SpE K (h.length + 1) v1 l1 q2 K2 ∧ Own encM 36 K'.length K2 u fs ∧ fs.length = i ∧ (∀ m ∈ fs, (0 ≤ m.1 ∧ m.1 < (n : Int)) ∧ (0 ≤ m.2 ∧ m.2 < (n : Int))) ∧ K'.length ≤ K2.length) ?_ ?_ ?_
      · exact ⟨by (simp (disch := first | exact dschL34 | fail) only [go_sem, ↓reduceIte, Int.natCast_zero]; first | done | rfl), sq, [], _, by simp (disch := first | exact dschL34 | fail) only [go_sem, ↓reduceIte], by omega, xK, Own.nil, rfl, by simp, Nat.le_refl _⟩
      · rintro i fr3 K2 hi0 hi hA3 ⟨r160, q2, fs, u, r20, hq2, x2, oF, lF, bF, l2⟩
        have c4 := hA3 4 rfl
        have c6 := hA3 6 rfl
        have c7 := hA3 7 rfl
        have c12 := hA3 12 rfl
        have c14 := hA3 14 rfl
        have c155 := hA3 155 rfl
        have c159 := hA3 159 rfl
        try simp (disch := first | exact dschL34 | fail) only [go_sem, ↓reduceIte, d6, d7, d12, d14] at c4 c6 c7 c12 c14 c155 c159
        have hlt3 : ((i : Int) < ((mndL o).length : Int) - 1) = True := eq_true (by omega)
        have ou := oF.one
        have hS2 := x2.at hS6
        have oW2 : OwnE encI 3 (h.length + 2) K2 w o := ((hO.ext hx36).setBox hS6.1).ext x2
        have iW2 : Ints K2 w o := ownE_ints oW2 hsm
        have lw2 := lenI iW2
        rw [hord.1] at lw2
        have u1 := up_bd (silk := l1) (k := q2) (n := (n : Int) - 1) (by omega)
        have u2 := up_bd (silk := l1) (k := q2 + 1) (n := (n : Int) - 1) (by omega)
        have f1 := fun base => run_upto (base := base) (n := (n : Int) - 1) hS2 (by omega) (by omega)
        obtain ⟨K3, eK3⟩ : ∃ K3, K3 = K2.set (h.length + 1) (spB v1 l1 (q2 + 1)) := ⟨_, rfl⟩
        have x3 := x2.step (k' := q2 + 1) lid
        rw [← eK3] at x3
        have hS3 := x3.at hS6
        have f2 := fun base => run_upto (base := base) (n := (n : Int) - 1) hS3 (by omega) (by omega)
        have x4 := x3.step (k' := q2 + 1 + 1) lid
        obtain ⟨K4, eK4⟩ : ∃ K4, K4 = K3.set (h.length + 1) (spB v1 l1 (q2 + 1 + 1)) := ⟨_, rfl⟩
        rw [← eK4] at x4 f2
        rw [← eK3] at f1
        have oW3 : OwnE encI 3 (h.length + 2) K3 w o := ((hO.ext hx36).setBox hS6.1).ext x3
        have iW3 : Ints K3 w o := ownE_ints oW3 hsm
        have lw3 := lenI iW3
        rw [hord.1] at lw3
        generalize up l1 q2 ((n : Int) - 1) = a at u1 f1
        generalize up l1 (q2 + 1) ((n : Int) - 1) = b at u2 f2
        have l3' : K3.length = K2.length := by rw [eK3, List.length_set]
        have l4' : K4.length = K2.length := by rw [eK4, List.length_set, l3']
        have oF4 : Own encM 36 K'.length K4 u fs := by rw [eK4, eK3]; exact (oF.set (by omega)).set (by omega)
        obtain ⟨K5, eK5⟩ : ∃ K5, K5 = K4 ++ [rowE encM 36 [(a, b)] 0] := ⟨_, rfl⟩
        have x5 : Ext K4 K5 := by rw [eK5]; exact .app .refl
        have l5' := x5.len
        obtain ⟨u', K6, ea, oU, lU, eU, oneU⟩ := (oF4.ext x5).appendR (P := prog) (base := h.length) (x := .slice (some ⟨K4.length, 0, 0⟩) 1 1) (m := [(a, b)]) (t := 33) (Rows.own (by rw [eK5]; exact get_eq rfl) rfl (by simp)) Fc.el33 encM_sc (by omega) (by omega) (by simp) (by simp; omega)
        have hsp := @Nat.succ_ne_zero; repeat' (first | simp (disch := first | exact dschL34 | fail) only [go_sem, ↓reduceIte, hsp, r160, r20, c4, c6, c7, c12, c14, c155, c159, d6, d7, d12, d14, q6, q7, q8, q12, q14, q111, q112, hlt3, lw2, lw3, f1, f2, bsM1, ← eK5, ea] | refine WP_drw ?_ | refine cnd_intro (fun hsp => ?_) fun hsp => ?_)
        refine ⟨by (repeat first | exact Agree.refl | assumption | refine Agree.put rfl ?_ | refine Agree.put0 ?_ | refine Agree.sub rfl (by assumption) ?_), by omega, q2 + 1 + 1, fs ++ [(a, b)], u', rfl, by omega, eU _ (by rw [List.length_set]; omega) (x4.ext x5), oU, by simp [lF], fun m hm => ?_, by omega⟩
        rcases List.mem_append.1 hm with hm | hm
        · exact bF m hm
        · rw [List.mem_singleton] at hm
          subst hm
          exact ⟨by simp only; omega, by simp only; omega⟩
      · rintro fr3 K2 hA3 ⟨r160, q2, fs, u, r20, hq2, x2, oF, lF, bF, l2⟩
        have c4 := hA3 4 rfl
        have c6 := hA3 6 rfl
        have c7 := hA3 7 rfl
        have c12 := hA3 12 rfl
        have c14 := hA3 14 rfl
        have c155 := hA3 155 rfl
        have c159 := hA3 159 rfl
        try simp (disch := first | exact dschL34 | fail) only [go_sem, ↓reduceIte, d6, d7, d12, d14] at c4 c6 c7 c12 c14 c155 c159
        have hlt3 : ((N : Int) < ((mndL o).length : Int) - 1) = False := eq_false (by omega)
        have ou := oF.one
        have oW2 : OwnE encI 3 (h.length + 2) K2 w o := ((hO.ext hx36).setBox hS6.1).ext x2
        have iW2 : Ints K2 w o := ownE_ints oW2 hsm
        have rM2 : Rows encM K2 m (mndL o) := ((oM.ext x6).setBox hS6.1).ext x2 |>.rows (show (mndL o).length < 2 ^ 60 by omega)
        obtain ⟨g1, g2, g3⟩ := few_lis hord bF
        obtain ⟨mo, emo⟩ : ∃ mo, mo = (makF n fs o).1 := ⟨_, rfl⟩
        have hmk : makE o fs = (mo, 0) := by
          unfold makE
          rw [if_pos a1, hord.1, emo]
          exact Prod.ext rfl g2
        obtain ⟨_, K7, e10, x10, v10, rfl, oV⟩ := run_Make (base := h.length) (h := K2) (v := w) (mv := u) (o := o) (ms := fs) (by omega) iW2 (oF.rows (show fs.length < 2 ^ 60 by omega)) (by omega)
        rw [hmk] at e10 oV
        rw [← emo] at g1 g3
        have l10 := x10.len
        have ov := oV.one
        have smo : Small mo := ord_small g1 (by omega)
        have iV : Ints K7 v10 mo := ownE_ints oV smo
        have lw7 := lenI (iW2.ext x10)
        rw [hord.1] at lw7
        have lm7 := (rM2.ext x10).len (P := prog) Fc.el33
        have p1 := fun base => run_permutes (base := base) (n := n) iV
        rw [prmB_ord g1] at p1
        have s1 := fun base => run_sorted (base := base) iV
        obtain ⟨_, a2', _⟩ := ord_all5 hbd g1
        obtain ⟨_, K8, e11, x11, v11, rfl, oR8⟩ := run_Rise (base := h.length) (h := K7) (v := v10) (o := mo) (by omega) iV
        rw [a2'] at e11 oR8
        have or8 := oR8.one
        have lr8 : lenOpA prog K8 25 v11 = some (.int .i64 ((riseL mo).length : Int)) := own_len oR8 Fc.el25 (by have := g3; omega)
        have lf8 : lenOpA prog K8 33 u = some (.int .i64 (fs.length : Int)) := own_len (oF.ext (x10.trans x11)) Fc.el33 (by omega)
        have t9 : (((riseL mo).length : Int) > ((riseL o).length : Int) + (fs.length : Int)) = False := eq_false (by omega)
        have fin : SpE K (h.length + 1) v1 l1 q2 K8 := x2.ext (x10.trans x11)
        by_cases c0 : 0 < (mndL o).length
        · have t8 : (((mndL o).length : Int) > 0) = True := eq_true (by omega)
          have fnn := few_not hord bF (by omega)
          rw [← emo] at fnn
          rw [fnn] at s1
          have hsp := @Nat.succ_ne_zero; repeat' (first | simp (disch := first | exact dschL34 | fail) only [go_sem, ↓reduceIte, hsp, r160, r20, c4, c6, c7, c12, c14, c155, c159, d6, d7, d12, d14, q6, q7, q8, q12, q14, q111, q112, r155, hlt3, e10, eq_self, not_true, lw7, p1, lm7, t8, s1, e11, lr8, lf8, t9] | refine WP_drw ?_ | refine cnd_intro (fun hsp => ?_) fun hsp => ?_)
          exact ⟨by (repeat first | exact Agree.refl | assumption | refine Agree.put rfl ?_ | refine Agree.put0 ?_ | refine Agree.sub rfl (by assumption) ?_), by omega, q2, by omega, fin⟩
        · have t8 : (((mndL o).length : Int) > 0) = False := eq_false (by omega)
          have hsp := @Nat.succ_ne_zero; repeat' (first | simp (disch := first | exact dschL34 | fail) only [go_sem, ↓reduceIte, hsp, r160, r20, c4, c6, c7, c12, c14, c155, c159, d6, d7, d12, d14, q6, q7, q8, q12, q14, q111, q112, r155, hlt3, e10, eq_self, not_true, lw7, p1, lm7, t8, e11, lr8, lf8, t9] | refine WP_drw ?_ | refine cnd_intro (fun hsp => ?_) fun hsp => ?_)
          exact ⟨by (repeat first | exact Agree.refl | assumption | refine Agree.put rfl ?_ | refine Agree.put0 ?_ | refine Agree.sub rfl (by assumption) ?_), by omega, q2, by omega, fin⟩
    · rintro fr2 K' hA2 ⟨r155, sq, hsq, xK⟩
      have d6 := hA2 6 rfl
      have d7 := hA2 7 rfl
      have d12 := hA2 12 rfl
      have d14 := hA2 14 rfl
      try simp (disch := first | exact dschL34 | fail) only [go_sem, ↓reduceIte, q6, q7, q12, q14] at d6 d7 d12 d14
      have hlt2 : (((6 : Nat) : Int) < 6) = False := eq_false (by omega)
      have hlt3 : ((6 : Int) < 6) = False := eq_false (by omega)
      have haw := fun base => run_awake (base := base) (h := K')
      have hsp := @Nat.succ_ne_zero; repeat' (first | simp (disch := first | exact dschL34 | fail) only [go_sem, ↓reduceIte, hsp, r155, d6, d7, d12, d14, q6, q7, q8, q12, q14, q111, q112, hlt2, hlt3, haw] | refine WP_drw ?_ | refine cnd_intro (fun hsp => ?_) fun hsp => ?_)
      exact fB rfl (xK.on (xH.trans (x3.trans y3)) (by omega))
end Go.AM
