/-
  Contracts: what moves make of an order.
-/
import Derived.Test.YteanoaejoddnbaaU13
import Derived.Test.YteanoaejoddnbaaU12
import Derived.Test.YteanoaejoddnbaaU10
import Derived.Test.YteanoaejoddnbaaU11
set_option linter.unusedSimpArgs false
set_option linter.unusedVariables false
namespace Go.AM
open Go.Proofs.Try
theorem dschL6 {p : Prop} (h : p := by first | exact Nat.ne_of_beq_eq_false rfl | assumption | (apply asOne; (first | exact One.int | exact One.bool | assumption | exact Ints.one (by assumption) | exact Rows.one (by assumption) | exact Own.one (by assumption) | exact One.lit ⟨rfl, rfl, rfl⟩)) | (apply asInts; (repeat first | assumption | exact ints_nil | apply Ints.app); done) | (apply asRows; (repeat first | assumption | exact Rows.nil | apply Rows.app); done) | (apply asScal; (first | apply allS1 | apply allS2 | apply allS3 | apply allS4) <;> (first | exact One.int | exact One.bool | assumption | exact Ints.one (by assumption) | exact Rows.one (by assumption) | exact Own.one (by assumption) | exact One.lit ⟨rfl, rfl, rfl⟩)) | exact litT rfl | exact litF rfl | omega | (simp only [List.length_append, List.length_cons, List.length_nil, List.length_set, List.length_reverse]; first | done | omega) | fail) : p := h
attribute [-go_sem] put_ne put_same
attribute [local go_sem ↓] put_if
theorem OwnE.pos {α : Type} {E : Enc α} {e b : Nat} {H : Heap} {v : AVal} {l : List α} (x : OwnE E e b H v l) (h : 0 < l.length) : ∃ id ver, v = .slice (some ⟨id, ver, 0⟩) l.length l.length ∧ H[id]? = some (rowE E e l ver) ∧ b ≤ id := by
  rcases x with (⟨_, rfl⟩ | ⟨id, ver, h1, h2, h3, _⟩) | ⟨_, rfl⟩
  · simp at h
  · exact ⟨id, ver, h1, h2, h3⟩
  · simp at h
theorem rowE_iB {l : List Int} {ver : Nat} : rowE encI 3 l ver = iB l ver := by rw [rowE, flat_encI]
abbrev mvB (f t : Int) : ABlk := ⟨.cells [.int .i64 f, .int .i64 t] 36 false false, 0⟩
theorem stL6 {base : Nat} {l : List Oper} {s : St} {Q : AExit → St → Prop} : WP prog raw base (.region 2 l.toArray true) s Q = WPS prog raw base (.region 2 l.toArray true) s Q := WP_stop
attribute [local go_sem ↓ 3000] stL6
set_option maxHeartbeats 2000000 in
theorem run_made {base : Nat} {h : Heap} {v : AVal} {o : List Int} {f t : Nat} (hb : base ≤ h.length) (hI : Ints h v o) (hl : o.length ≤ 1000) (hf : f < o.length) (ht : t < o.length) :
    Ret prog raw base (.fn 94 [] []) [v, .agg [.int .i64 (f : Int), .int .i64 (t : Int)]] h (fun w H => Ext h H ∧ Own encI 3 h.length H w (mvL o f t)) := by
  have hv1 := hI.one
  obtain ⟨G, eG⟩ : ∃ G, G = h ++ [mvB f t] := ⟨_, rfl⟩
  have xG : Ext h G := by rw [eG]; exact .app .refl
  have gm : G[h.length]? = some (mvB f t) := by rw [eG]; exact get_eq rfl
  have hGl : G.length = h.length + 1 := by rw [eG]; simp
  have hIG := hI.ext xG
  have lf := loadI hIG hf
  have af := adrI (i := (f : Int)) (by omega) hIG (by omega)
  rw [Int.toNat_natCast] at af
  obtain ⟨v1, H1, e1, x1, o1⟩ := run_cloneE (base := base) hIG (small_ints hI (by omega))
  obtain ⟨id, ver, rfl, g1, hid⟩ := o1.pos (by omega)
  rw [rowE_iB] at g1
  have hl1 := x1.len
  have hidl := lt_of_get g1
  obtain ⟨w2, H2, e2, rfl, eH2⟩ := run_delete (base := base) (i := f) g1 (by omega) hf hl
  have hH2l : H2.length = H1.length := by rw [eH2, List.length_set]
  have g2 : H2[id]? = some (iB (o.eraseIdx f ++ [0]) ver) := by rw [eH2, List.getElem?_set_self hidl]
  obtain ⟨k, ek⟩ : ∃ k, k = o.getD f 0 := ⟨_, rfl⟩
  rw [← ek] at lf
  obtain ⟨H3, eH3⟩ : ∃ H3, H3 = H2 ++ [rowB [k] 0] := ⟨_, rfl⟩
  have x3 : Ext H2 H3 := by rw [eH3]; exact .app .refl
  have g3 : H3[H2.length]? = some (rowB [k] 0) := by rw [eH3]; exact get_eq rfl
  have hel : (o.eraseIdx f).length = o.length - 1 := by rw [List.length_eraseIdx, if_pos hf]
  obtain ⟨w4, H4, e4, rfl, eH4⟩ := run_insert (base := base) (t := t) (x := k) (x3.get g2) g3 (by omega) (by omega) (by omega) (by omega)
  rw [hel, show o.length - 1 + 1 = o.length by omega] at e4
  have hsm : 0 ≤ k ∨ k < 0 := by omega
  have gm1 := x1.get gm
  have gm2 : H2[h.length]? = some (mvB f t) := by rw [eH2, List.getElem?_set_ne (by omega)]; exact gm1
  have gm3 := x3.get gm2
  have gm4 : H4[h.length]? = some (mvB f t) := by rw [eH4, List.getElem?_set_ne (by omega)]; exact gm3
  unfold mvB at eG gm gm1 gm2 gm3 gm4
  refine ret_raw func94 rfl (by kernel_rfl) ?_
  have hsp := @Nat.succ_ne_zero; repeat' (first | simp (disch := first | exact dschL6 | fail) only [go_sem, ↓reduceIte, hsp, ← eG, gm, af, lf] | refine WP_drw ?_ | refine cnd_intro (fun hsp => ?_) fun hsp => ?_)
  refine WPS_go ?_
  refine WP_wild [⟨3, 3, 13, ⟨h.length, 0, 0⟩, .int .i64 (f : Int), 7⟩, ⟨5, 3, 15, ⟨h.length, 0, 0⟩, .int .i64 (f : Int), 7⟩, ⟨9, 3, 19, ⟨h.length, 0, 1⟩, .int .i64 (t : Int), 12⟩] (by kernel_rfl) (by kernel_rfl) (by kernel_rfl) ⟨refsLow_int, refsLow_int, refsLow_int, trivial⟩ fun K hK => ?_
  iterate 14
    rw [TRS_cons]
    refine ⟨by first | (simp (disch := first | exact dschL6 | fail) only [go_sem, ↓reduceIte, gm, gm1, gm2, gm3, gm4, e1, e2, ← eH3, e4, ldsQ_cons, ldsQ_nil, grdQ_cons, grdQ_nil, if_true, Nat.reduceLeDiff]; done) | exact trivial, ?_⟩
    simp (disch := first | exact dschL6 | fail) only [go_sem, ↓reduceIte, gm, gm1, gm2, gm3, gm4, e1, e2, ← eH3, e4]
  rw [TRS_nil]
  refine ⟨by first | (simp (disch := first | exact dschL6 | fail) only [go_sem, ↓reduceIte, gm, gm1, gm2, gm3, gm4, e1, e2, ← eH3, e4, ldsQ_cons, ldsQ_nil, grdQ_cons, grdQ_nil, if_true, Nat.reduceLeDiff]; done) | exact trivial, ?_⟩
  subst hK
  have hsp := @Nat.succ_ne_zero; repeat' (first | simp (disch := first | exact dschL6 | fail) only [go_sem, ↓reduceIte, hsp] | refine WP_drw ?_ | refine cnd_intro (fun hsp => ?_) fun hsp => ?_)
  have xh : Ext h H4 := by
    rw [eH4]
    refine Ext.set (Ext.trans ?_ x3) (by omega)
    rw [eH2]
    exact (xG.trans x1).set (by omega)
  refine ⟨xh, .inr ⟨id, ver, ?_, ?_, by omega, by rw [mvL_len hf ht]; omega⟩⟩
  · rw [mvL_len hf ht]
  · rw [eH4, List.getElem?_set_self (by have := x3.len; omega), rowE_iB, mvL, ← ek]
end Go.AM
/-
  Contracts: the cards that are sure.
-/
namespace Go.AM
open Go.Proofs.Try
theorem dschL18 {p : Prop} (h : p := by first | exact Nat.ne_of_beq_eq_false rfl | assumption | (apply asOne; (first | exact One.int | exact One.bool | assumption | exact Ints.one (by assumption) | exact Rows.one (by assumption) | exact Own.one (by assumption) | exact One.lit ⟨rfl, rfl, rfl⟩)) | (apply asInts; (repeat first | assumption | exact ints_nil | apply Ints.app); done) | (apply asRows; (repeat first | assumption | exact Rows.nil | apply Rows.app); done) | (apply asScal; (first | apply allS1 | apply allS2 | apply allS3 | apply allS4) <;> (first | exact One.int | exact One.bool | assumption | exact Ints.one (by assumption) | exact Rows.one (by assumption) | exact Own.one (by assumption) | exact One.lit ⟨rfl, rfl, rfl⟩)) | exact litT rfl | exact litF rfl | omega | (simp only [List.length_append, List.length_cons, List.length_nil, List.length_set, List.length_reverse]; first | done | omega) | fail) : p := h
attribute [-go_sem] put_ne put_same
attribute [local go_sem ↓] put_if
def knwM (o : List Int) (ok : Nat → Bool) : Nat → List Int
  | 0 => o
  | i + 1 => if ok i = true then knwM o ok i else (knwM o ok i).set i (-1)
theorem knwM_len {o : List Int} {ok : Nat → Bool} : ∀ i, (knwM o ok i).length = o.length
  | 0 => rfl
  | i + 1 => by rw [knwM]; split <;> simp [knwM_len i]
theorem knwM_at {o : List Int} {ok : Nat → Bool} {p : Nat} : ∀ {i}, i ≤ o.length → (knwM o ok i).getD p 0 = if p < i ∧ ok p = false then -1 else o.getD p 0
  | 0, _ => by rw [knwM, if_neg (by omega)]
  | i + 1, hi => by
    have ih := knwM_at (o := o) (ok := ok) (p := p) (i := i) (by omega)
    rw [knwM]
    cases c : ok i with
    | true =>
      rw [if_pos rfl, ih]
      by_cases e : p = i
      · rw [if_neg (by omega), if_neg (by rw [e, c]; simp)]
      · by_cases q : p < i ∧ ok p = false
        · rw [if_pos q, if_pos ⟨by omega, q.2⟩]
        · rw [if_neg q, if_neg (fun z => q ⟨by omega, z.2⟩)]
    | false =>
      rw [if_neg (by simp), getD_setI (by rw [knwM_len]; omega), ih]
      by_cases e : i = p
      · rw [if_pos e, if_pos ⟨by omega, by rw [← e]; exact c⟩]
      · rw [if_neg e]
        by_cases q : p < i ∧ ok p = false
        · rw [if_pos q, if_pos ⟨by omega, q.2⟩]
        · rw [if_neg q, if_neg (fun z => q ⟨by omega, z.2⟩)]
def allK (os : List (List Int)) (k : Int) (p : Nat) : Bool := os.all fun x => decide (x.getD p 0 = k)
theorem getD_ext {l m : List Int} (h : l.length = m.length) (q : ∀ i, i < l.length → l.getD i 0 = m.getD i 0) : l = m := by
  refine List.ext_getElem h fun i h1 h2 => ?_
  have := q i h1
  rwa [getD_at h1, getD_at h2] at this
theorem lst_getD {f : Nat → Int} {n i : Nat} (h : i < n) : (lst f n).getD i 0 = f i := by
  exact lst_get h
theorem knwM_all {n : Nat} {os : List (List Int)} (h : (os.headD []).length = n) : knwM (os.headD []) (fun p => allK os ((os.headD []).getD p 0) p) n = knwL n os := by
  refine getD_ext (by rw [knwM_len, h, knwL, lst_len]) fun i hi => ?_
  rw [knwM_len, h] at hi
  rw [knwM_at (by omega), knwL, lst_getD hi]
  show _ = if allK os ((os.headD []).getD i 0) i = true then _ else _
  cases c : allK os ((os.headD []).getD i 0) i with
  | true => rw [if_neg (by simp), if_pos rfl]
  | false => rw [if_pos ⟨hi, rfl⟩, if_neg (by simp)]
theorem run_kn1 {base a b : Nat} {h : Heap} {y : AVal} {t : List Int} {p : Nat} {k : Int} (ga : h[a]? = some (nB (p : Int))) (gb : h[b]? = some (nB k)) (hO : Ints h y t) (hp : p < t.length) :
    callL prog raw base (.fn 107 [] [.ptr (some ⟨a, 0, 0⟩), .ptr (some ⟨b, 0, 0⟩)]) [y] h = some (.bool (decide (t.getD p 0 = k)), h) := by
  have la := lt_of_get ga
  have lb := lt_of_get gb
  have oy := hO.one
  have hb := hO.1.1
  have ad := adrI (i := (p : Int)) (by omega) hO (by omega)
  rw [Int.toNat_natCast] at ad
  have ld := loadI hO hp
  unfold nB at ga gb
  refine callL_run func107 rfl rfl ?_
  have hsp := @Nat.succ_ne_zero; repeat' (first | simp (disch := first | exact dschL18 | fail) only [go_sem, ↓reduceIte, hsp, ga, gb, ad, ld] | refine WP_drw ?_ | refine cnd_intro (fun hsp => ?_) fun hsp => ?_)
  exact fB rfl
set_option maxRecDepth 100000 in
set_option maxHeartbeats 4000000 in
theorem run_Known {base : Nat} {h : Heap} {v : AVal} {L : Lac} (hb : base ≤ h.length) (hL : LacAt h v L) :
    Ret prog raw base (.fn 41 [] []) [v] h (fun w H => Ext h H ∧ ∃ x, w = .tuple [x, .int .i64 (kwnE L).2] ∧ OwnE encI 3 h.length H x (kwnE L).1) := by
  have hL0 := hL
  obtain ⟨cv, rv, rfl, hC, hR⟩ := hL
  have o1 := hC.one
  have o2 := hR.one
  obtain ⟨G0, eG0⟩ : ∃ G0, G0 = h ++ [lacB L.T cv rv] := ⟨_, rfl⟩
  have x0 : Ext h G0 := by rw [eG0]; exact .app .refl
  have g0 : G0[h.length]? = some (lacB L.T cv rv) := by rw [eG0]; exact get_eq rfl
  have l0 : G0.length = h.length + 1 := by rw [eG0]; simp
  obtain ⟨w1, H1, e1, x1, a, x, rfl, oa, hA, hD⟩ := run_found (base := base) (h := G0) (by omega) (hL0.ext x0)
  have ox := hA.one
  have l1 := x1.len
  unfold lacB at eG0 g0
  by_cases c : (fndE L).2 = 0
  · obtain ⟨c1, c2, c3⟩ := fndE_ok c
    obtain ⟨n, en⟩ : ∃ n, L.C.length = n := ⟨_, rfl⟩
    have hn7 : 1 ≤ n ∧ n ≤ 7 := by rw [← en]; exact (chkL_iff.1 c1).n
    have hord : ∀ o ∈ fnd L, Ord n o := fun o ho => by rw [← en]; exact fnd_ord ho
    have r : kwnE L = (knwL n (fnd L), 0) := by unfold kwnE; rw [if_pos c, en]
    rw [r]
    rw [c3] at hA e1
    have hAI : AllI G0.length H1 x (fnd L) := hA.all
    obtain ⟨vs, q1, q2', q3⟩ := hA
    have q2 : vs.length = (fnd L).length := q2'
    have hpos : 0 < (fnd L).length := by cases q : fnd L with | nil => exact absurd q c2 | cons a b => simp
    have hv0 : vs[0]? = some vs[0] := List.getElem?_eq_getElem (by omega)
    have ho := q3 0 _ _ hv0 (head_at c2)
    obtain ⟨y, ey⟩ : ∃ y, y = vs[0]'(by rw [q2]; exact hpos) := ⟨_, rfl⟩
    rw [← ey] at hv0 ho
    have hfew := fnd_few (L := L) (by omega)
    have hRw := q1.rows (show vs.length < 2 ^ 60 by omega)
    have ad := hRw.addr (P := prog) (i := ((0 : Nat) : Int)) Fc.el54 Fc.ar54 (by omega) (by omega)
    have ld : loadP prog H1 25 (elAdr x 1 0 0) = some y := hRw.cell (P := prog) Fc.ty25 hv0 (o := 0) (a := y) (by simp only [encZ, norm_one ho.one]; rfl)
    rw [Int.toNat_natCast, Int.natCast_zero] at ad
    have oy := ho.one
    have hz : encZ.z = 1 := rfl
    rw [hz] at ad
    obtain ⟨o, eo⟩ : ∃ o, o = (fnd L).headD [] := ⟨_, rfl⟩
    rw [← eo] at ho
    have hom : o ∈ fnd L := by rw [eo]; exact List.mem_of_getElem? (head_at c2)
    have hoo := hord o hom
    have hol := hoo.1
    have hIo := ownE_ints ho (ord_small hoo (by omega))
    obtain ⟨v2, H2, e2, x2, o2⟩ := run_cloneE (base := base) hIo (ord_small hoo (by omega))
    obtain ⟨id, ver, rfl, gid, hid⟩ := o2.pos (by omega)
    rw [rowE_iB] at gid
    have lid := lt_of_get gid
    have l2 := x2.len
    obtain ⟨ok, eok⟩ : ∃ ok : Nat → Bool, ok = fun p => allK (fnd L) (o.getD p 0) p := ⟨_, rfl⟩
    obtain ⟨D, eD⟩ : ∃ D : Nat → Heap, D = fun i => H2.set id (iB (knwM o ok i) ver) := ⟨_, rfl⟩
    have lD : ∀ i, (D i).length = H2.length := fun i => by rw [eD]; exact List.length_set
    have gD : ∀ i, (D i)[id]? = some (iB (knwM o ok i) ver) := fun i => by rw [eD]; exact List.getElem?_set_self lid
    have xD : ∀ i, Ext H1 (D i) := fun i => by rw [eD]; exact x2.set (by omega)
    have hD0 : D 0 = H2 := by rw [eD]; exact set_id gid
    have hDs : ∀ i j, (D i).set id (iB (knwM o ok j) ver) = D j := fun i j => by rw [eD]; exact List.set_set ..
    have ln2 : ∀ {H : Heap}, lenOpA prog H 25 (.slice (some ⟨id, ver, 0⟩) o.length o.length) = some (.int .i64 (o.length : Int)) := fun {H} => by simp [lenOpA, Fc.el25, lenA]
    refine ret_raw func41 rfl (by kernel_rfl) ?_
    have hsp := @Nat.succ_ne_zero; repeat' (first | simp (disch := first | exact dschL18 | fail) only [go_sem, ↓reduceIte, hsp, ← eG0, g0, e1, eq_self, ad, ld, e2, ln2] | refine WP_drw ?_ | refine cnd_intro (fun hsp => ?_) fun hsp => ?_)
    refine WP_count [(8, 9), (25, 37)] 0 o.length (Nat.zero_le _) (fun _ i fr K => fr 25 = .int .i64 (i : Int) ∧ Ext (D i) K) ?_ ?_ ?_
    · exact ⟨by (simp (disch := first | exact dschL18 | fail) only [go_sem, ↓reduceIte, Int.natCast_zero]; first | done | rfl), by rw [hD0]; exact .refl⟩
    · rintro i fr K hi0 hi hA2 ⟨r25, xK⟩
      have p2 := hA2 2 rfl
      have p3 := hA2 3 rfl
      have p5 := hA2 5 rfl
      have p7 := hA2 7 rfl
      have p23 := hA2 23 rfl
      have p24 := hA2 24 rfl
      try simp (disch := first | exact dschL18 | fail) only [go_sem, ↓reduceIte] at p2 p3 p5 p7 p23 p24
      have hlt : ((i : Int) < (o.length : Int)) = True := eq_true (by omega)
      have lK := xK.len
      have lDi := lD i
      have gK := xK.get (gD i)
      have hkl := knwM_len (o := o) (ok := ok) i
      have adr : indexAddrA prog 25 (.slice (some ⟨id, ver, 0⟩) o.length o.length) (.int .i64 (i : Int)) = some (.ptr (some ⟨id, ver, i⟩)) := by
        rw [adr_sl Fc.el25 Fc.ar25 (by omega) (by omega), Int.toNat_natCast, Nat.mul_one, Nat.zero_add]
      obtain ⟨k, ek⟩ : ∃ k, k = o.getD i 0 := ⟨_, rfl⟩
      have d1 : loadP prog K 3 (.ptr (some ⟨id, ver, i⟩)) = some (.int .i64 k) := by
        rw [load_eq, Fc.ty3, gK, ldB_ints (by omega), knwM_at (by omega), if_neg (by omega), ek]
      obtain ⟨K1, eK1⟩ : ∃ K1, K1 = K ++ [nB (i : Int)] := ⟨_, rfl⟩
      obtain ⟨K2, eK2⟩ : ∃ K2, K2 = K1 ++ [nB k] := ⟨_, rfl⟩
      have y1 : Ext K K1 := by rw [eK1]; exact .app .refl
      have y2 : Ext K1 K2 := by rw [eK2]; exact .app .refl
      have lK1 : K1.length = K.length + 1 := by rw [eK1]; simp
      have lK2 : K2.length = K.length + 2 := by rw [eK2]; simp [lK1]
      have ga : K2[K.length]? = some (nB (i : Int)) := by rw [eK2]; exact get_app (by rw [eK1]; exact get_eq rfl)
      have gb : K2[K.length + 1]? = some (nB k) := by rw [eK2]; exact get_eq lK1.symm
      have xDK := (xK.trans y1).trans y2
      have hev := every_Z (base := base) (b := G0.length) (h := K2) (v := x) (g := .fn 107 [] [.ptr (some ⟨K.length, 0, 0⟩), .ptr (some ⟨K.length + 1, 0, 0⟩)]) (ts := fnd L) (fun t => decide (t.getD i 0 = k)) (by omega) ⟨rfl, rfl, rfl⟩ (hAI.ext ((xD i).trans xDK)) (by omega)
        (fun z t ht hz => run_kn1 (get_app ga) (get_app gb) ((ownE_ints hz (ord_small (hord t ht) (by omega))).ext (.app .refl)) (by have := (hord t ht).1; omega))
      rw [show (fnd L).all (fun t => decide (t.getD i 0 = k)) = ok i by rw [eok, ek]; rfl] at hev
      obtain ⟨K3, eK3⟩ : ∃ K3, K3 = K2 ++ [evZ (.fn 107 [] [.ptr (some ⟨K.length, 0, 0⟩), .ptr (some ⟨K.length + 1, 0, 0⟩)])] := ⟨_, rfl⟩
      rw [← eK3] at hev
      have y3 : Ext K2 K3 := by rw [eK3]; exact .app .refl
      have ga3 := y3.get ga
      have xD3 := xDK.trans y3
      have gK3 := xD3.get (gD i)
      have l3 := xD3.len
      unfold nB at eK1 eK2 ga3
      cases c5 : ok i with
      | true =>
        rw [c5] at hev
        have hDi : D (i + 1) = D i := by rw [eD]; simp only [knwM, if_pos c5]
        have hsp := @Nat.succ_ne_zero; repeat' (first | simp (disch := first | exact dschL18 | fail) only [go_sem, ↓reduceIte, hsp, r25, p2, p3, p5, p7, p23, p24, hlt, adr, d1, ← eK1, ← eK2, hev] | refine WP_drw ?_ | refine cnd_intro (fun hsp => ?_) fun hsp => ?_)
        exact ⟨by (repeat first | exact Agree.refl | assumption | refine Agree.put rfl ?_ | refine Agree.put0 ?_ | refine Agree.sub rfl (by assumption) ?_), by omega, by rw [hDi]; exact xD3⟩
      | false =>
        rw [c5] at hev
        have hst : ∀ {F : ABlk → Heap}, stQ base id (some (iB (knwM o ok i) ver)) ver i [.int .i64 (-1)] F = some (F (iB ((knwM o ok i).set i (-1)) ver)) := fun {F} => stQ_ints (by omega)
        have hkm : (knwM o ok i).set i (-1) = knwM o ok (i + 1) := by rw [knwM, if_neg (by rw [c5]; simp)]
        rw [hkm] at hst
        have hfin : Ext (D (i + 1)) (K3.set id (iB (knwM o ok (i + 1)) ver)) := by
          have := xD3.set2 (i := id) (k := iB (knwM o ok (i + 1)) ver) (by omega)
          rwa [hDs] at this
        have hsp := @Nat.succ_ne_zero; repeat' (first | simp (disch := first | exact dschL18 | fail) only [go_sem, ↓reduceIte, hsp, r25, p2, p3, p5, p7, p23, p24, hlt, adr, d1, ← eK1, ← eK2, hev, ga3, gK3, hst] | refine WP_drw ?_ | refine cnd_intro (fun hsp => ?_) fun hsp => ?_)
        exact ⟨by (repeat first | exact Agree.refl | assumption | refine Agree.put rfl ?_ | refine Agree.put0 ?_ | refine Agree.sub rfl (by assumption) ?_), by omega, hfin⟩
    · rintro fr K hA2 ⟨r25, xK⟩
      have p2 := hA2 2 rfl
      have p3 := hA2 3 rfl
      have p5 := hA2 5 rfl
      have p7 := hA2 7 rfl
      have p23 := hA2 23 rfl
      have p24 := hA2 24 rfl
      try simp (disch := first | exact dschL18 | fail) only [go_sem, ↓reduceIte] at p2 p3 p5 p7 p23 p24
      have hlt : ((o.length : Int) < (o.length : Int)) = False := eq_false (by omega)
      have gK := xK.get (gD o.length)
      have hfe : knwM o ok o.length = knwL n (fnd L) := by
        rw [eok, eo, ← knwM_all (n := n) (by rw [← eo]; exact hol)]
        rw [← eo, hol]
      have hsp := @Nat.succ_ne_zero; repeat' (first | simp (disch := first | exact dschL18 | fail) only [go_sem, ↓reduceIte, hsp, r25, p2, p3, p5, p7, p23, p24, hlt] | refine WP_drw ?_ | refine cnd_intro (fun hsp => ?_) fun hsp => ?_)
      refine ⟨((x0.trans x1).trans (xD _)).trans xK, _, rfl, .inl (.inr ⟨id, ver, ?_, ?_, by omega, ?_⟩)⟩
      · rw [← hfe, knwM_len]
      · rw [gK, rowE_iB, hfe]
      · rw [← hfe, knwM_len]; omega
  · have t0 : ((fndE L).2 = 0) = False := eq_false c
    have r : kwnE L = ([], (fndE L).2) := by unfold kwnE; rw [if_neg c]
    rw [r]
    refine ret_raw func41 rfl (by kernel_rfl) ?_
    have hsp := @Nat.succ_ne_zero; repeat' (first | simp (disch := first | exact dschL18 | fail) only [go_sem, ↓reduceIte, hsp, ← eG0, g0, e1, t0] | refine WP_drw ?_ | refine cnd_intro (fun hsp => ?_) fun hsp => ?_)
    exact ⟨x0.trans x1, _, rfl, .inl Own.nil⟩
end Go.AM
/-
  Contracts: as few positions as can be that decide (Decide).
-/
namespace Go.AM
open Go.Proofs.Try
attribute [-go_sem] put_ne put_same
attribute [local go_sem ↓] put_if
/-- The key of an order, as far as it is made. -/
def kyN (l o : List Int) (i : Nat) : List Int := ((l.take i).map fun p => o.getD p.toNat 0) ++ List.replicate (7 - i) 0
def kyA (l o : List Int) : List Int := keyL l o ++ List.replicate (7 - l.length) 0
abbrev mbB (m : Nat) : ABlk := ⟨.cells [.map (some m)] 156 false false, 0⟩
abbrev kyB (k : List Int) : ABlk := ⟨.cells (ints k) 157 false false, 0⟩
end Go.AM
/-
  Contracts: Decide.
-/
namespace Go.AM
open Go.Proofs.Try
attribute [-go_sem] put_ne put_same
attribute [local go_sem ↓] put_if
/-- No map. -/
def prC (b : ABlk) : Prop := ∀ es, b ≠ ⟨.map es, 0⟩
def dcdE (L : Lac) : List Int × Int := if (fndE L).2 = 0 then (dcdL L.C.length (fnd L), 0) else ([], (fndE L).2)
end Go.AM
/-
  Contracts: the cards that fit a position, whether an order explains the rows, or the errors; whether a list has each number once.
-/
namespace Go.AM
open Go.Proofs.Try
theorem dschL24 {p : Prop} (h : p := by first | exact Nat.ne_of_beq_eq_false rfl | assumption | (apply asOne; (first | exact One.int | exact One.bool | assumption | exact Ints.one (by assumption) | exact Rows.one (by assumption) | exact Own.one (by assumption) | exact One.lit ⟨rfl, rfl, rfl⟩)) | (apply asInts; (repeat first | assumption | exact ints_nil | apply Ints.app); done) | (apply asRows; (repeat first | assumption | exact Rows.nil | apply Rows.app); done) | (apply asScal; (first | apply allS1 | apply allS2 | apply allS3 | apply allS4) <;> (first | exact One.int | exact One.bool | assumption | exact Ints.one (by assumption) | exact Rows.one (by assumption) | exact Own.one (by assumption) | exact One.lit ⟨rfl, rfl, rfl⟩)) | exact litT rfl | exact litF rfl | omega | (simp only [List.length_append, List.length_cons, List.length_nil, List.length_set, List.length_reverse]; first | done | omega) | fail) : p := h
attribute [-go_sem] put_ne put_same
attribute [local go_sem ↓] put_if
theorem run_pos2 {base : Nat} {h : Heap} {T x : Int} {cv rv : AVal} {l : List Int} (hC : Ints h cv l) (o2 : One rv) : callL prog raw base (.fn 113 [] []) [.agg [.int .i64 T, cv, rv], .int .i64 x] h = some (.bool (decide (0 ≤ x ∧ x ≤ (l.length : Int) - 1)), h) := by
  have o1 := hC.one
  have hb := hC.1.1
  obtain ⟨G, eG⟩ : ∃ G, G = h ++ [lacB T cv rv] := ⟨_, rfl⟩
  have xG : Ext h G := by rw [eG]; exact .app .refl
  have g0 : G[h.length]? = some (lacB T cv rv) := by rw [eG]; exact get_eq rfl
  have hl := lenI (hC.ext xG)
  unfold lacB at eG g0
  refine callL_run func113 rfl rfl ?_
  have hsp := @Nat.succ_ne_zero; repeat' (first | simp (disch := first | exact dschL24 | fail) only [go_sem, ↓reduceIte, hsp, ← eG, g0, hl] | refine WP_drw ?_ | refine cnd_intro (fun hsp => ?_) fun hsp => ?_)
  exact fB rfl xG
def fitE (L : Lac) (p : Int) : List Int × Int := if chkL L ≠ 0 then ([], chkL L) else if ¬ (0 ≤ p ∧ p ≤ (L.C.length : Int) - 1) then ([], 1) else (fitL L p.toNat, 0)
set_option maxHeartbeats 1000000 in
theorem run_Fit {base : Nat} {h : Heap} {v : AVal} {L : Lac} {p : Int} (hb : base ≤ h.length) (hL : LacAt h v L) :
    Ret prog raw base (.fn 49 [] []) [v, .int .i64 p] h (fun w H => Ext h H ∧ ∃ x, w = .tuple [x, .int .i64 (fitE L p).2] ∧ Own encI 3 h.length H x (fitE L p).1) := by
  have hL0 := hL
  obtain ⟨cv, rv, rfl, hC, hR⟩ := hL
  have o1 := hC.one
  have o2 := hR.one
  obtain ⟨G0, eG0⟩ : ∃ G0, G0 = h ++ [lacB L.T cv rv] := ⟨_, rfl⟩
  have x0 : Ext h G0 := by rw [eG0]; exact .app .refl
  have g0 : G0[h.length]? = some (lacB L.T cv rv) := by rw [eG0]; exact get_eq rfl
  have l0 : G0.length = h.length + 1 := by rw [eG0]; simp
  obtain ⟨w1, H1, e1, x1, r1, r2⟩ := run_opened (base := base) (h := G0) (by omega) (hL0.ext x0)
  have l1 := x1.len
  have g1 := x1.get g0
  have hps2 := run_pos2 (base := base) (T := L.T) (x := p) (rv := rv) (hC.ext (x0.trans x1)) o2
  unfold lacB at eG0 g0 g1
  refine ret_raw func49 rfl (by kernel_rfl) ?_
  by_cases c0 : chkL L = 0
  · obtain ⟨id, rfl, hid, hD⟩ := r2 c0
    have kn := (chkL_iff.1 c0).n
    by_cases c1 : 0 ≤ p ∧ p ≤ (L.C.length : Int) - 1
    · rw [decide_eq_true c1] at hps2
      obtain ⟨q, rfl⟩ := Int.eq_ofNat_of_zero_le c1.1
      obtain ⟨w2, H2, e2, x2, oF⟩ := run_fit (base := base) (p := q) (by omega) hD kn.2 (by omega)
      have ow := oF.one
      have hl2 := x2.len
      have r : fitE L (q : Int) = (fitL L q, 0) := by unfold fitE; rw [if_neg (by simp [c0]), if_neg (fun z => z c1), Int.toNat_natCast]
      rw [r]
      have hsp := @Nat.succ_ne_zero; repeat' (first | simp (disch := first | exact dschL24 | fail) only [go_sem, ↓reduceIte, hsp, ← eG0, g0, e1, eq_self, g1, hps2, e2] | refine WP_drw ?_ | refine cnd_intro (fun hsp => ?_) fun hsp => ?_)
      exact ⟨(x0.trans x1).trans x2, _, rfl, oF.low (by omega)⟩
    · rw [decide_eq_false c1] at hps2
      have r : fitE L p = ([], 1) := by unfold fitE; rw [if_neg (by simp [c0]), if_pos c1]
      rw [r]
      have hsp := @Nat.succ_ne_zero; repeat' (first | simp (disch := first | exact dschL24 | fail) only [go_sem, ↓reduceIte, hsp, ← eG0, g0, e1, eq_self, g1, hps2] | refine WP_drw ?_ | refine cnd_intro (fun hsp => ?_) fun hsp => ?_)
      exact ⟨x0.trans x1, _, rfl, Own.nil⟩
  · have t0 : (chkL L = 0) = False := eq_false c0
    have q := r1 c0
    subst q
    have r : fitE L p = ([], chkL L) := by unfold fitE; rw [if_pos c0]
    rw [r]
    have hsp := @Nat.succ_ne_zero; repeat' (first | simp (disch := first | exact dschL24 | fail) only [go_sem, ↓reduceIte, hsp, ← eG0, g0, e1, t0, g1] | refine WP_drw ?_ | refine cnd_intro (fun hsp => ?_) fun hsp => ?_)
    exact ⟨x0.trans x1, _, rfl, Own.nil⟩
def xplD (L : Lac) (o : List Int) (i : Nat) : Bool := (List.range i).all fun i => fitB L i (o.getD i 0).toNat
/-- The error of a chain, or of an order of its cards. -/
def lcdE (L : Lac) (o : List Int) : Int := if chkL L = 0 then ordL o L.C.length else chkL L
set_option maxHeartbeats 1000000 in
theorem run_laced {base : Nat} {h : Heap} {v ov : AVal} {L : Lac} {o : List Int} (hb : base ≤ h.length) (hL : LacAt h v L) (hO : Ints h ov o) :
    Ret prog raw base (.fn 103 [] []) [v, ov] h (fun w H => Ext h H ∧ ∃ a, w = .tuple [a, .int .i64 (lcdE L o)] ∧ One a ∧ (lcdE L o = 0 → ∃ id, a = .ptr (some ⟨id, 0, 0⟩) ∧ DskAt H id L)) := by
  have hL0 := hL
  obtain ⟨cv, rv, rfl, hC, hR⟩ := hL
  have o1 := hC.one
  have o2 := hR.one
  have o3 := hO.one
  obtain ⟨G0, eG0⟩ : ∃ G0, G0 = h ++ [lacB L.T cv rv] := ⟨_, rfl⟩
  have x0 : Ext h G0 := by rw [eG0]; exact .app .refl
  have g0 : G0[h.length]? = some (lacB L.T cv rv) := by rw [eG0]; exact get_eq rfl
  have l0 : G0.length = h.length + 1 := by rw [eG0]; simp
  obtain ⟨w1, H1, e1, x1, r1, r2⟩ := run_opened (base := base) (h := G0) (by omega) (hL0.ext x0)
  have l1 := x1.len
  have g1 := x1.get g0
  have xh := x0.trans x1
  have hlc := lenI (hC.ext xh)
  unfold lacB at eG0 g0 g1
  refine ret_raw func103 rfl (by kernel_rfl) ?_
  by_cases c0 : chkL L = 0
  · obtain ⟨id, rfl, hid, hD⟩ := r2 c0
    have kn := (chkL_iff.1 c0).n
    have ho := run_ordered (base := base) (n := (L.C.length : Int)) (hO.ext xh) (by omega)
    have r : lcdE L o = ordL o L.C.length := by unfold lcdE; rw [if_pos c0]
    rw [r]
    have hsp := @Nat.succ_ne_zero; repeat' (first | simp (disch := first | exact dschL24 | fail) only [go_sem, ↓reduceIte, hsp, ← eG0, g0, e1, eq_self, g1, hlc, ho] | refine WP_drw ?_ | refine cnd_intro (fun hsp => ?_) fun hsp => ?_)
    exact ⟨xh, _, rfl, ⟨rfl, rfl, rfl⟩, fun _ => ⟨id, rfl, hD⟩⟩
  · have t0 : (chkL L = 0) = False := eq_false c0
    have q := r1 c0
    subst q
    have r : lcdE L o = chkL L := by unfold lcdE; rw [if_neg c0]
    rw [r]
    have hsp := @Nat.succ_ne_zero; repeat' (first | simp (disch := first | exact dschL24 | fail) only [go_sem, ↓reduceIte, hsp, ← eG0, g0, e1, t0, g1] | refine WP_drw ?_ | refine cnd_intro (fun hsp => ?_) fun hsp => ?_)
    exact ⟨xh, _, rfl, ⟨rfl, rfl, rfl⟩, fun q => absurd q (by simp)⟩
def xpsE (L : Lac) (o : List Int) : Bool × Int := if lcdE L o = 0 then (xplD L o o.length, 0) else (false, lcdE L o)
theorem lcdE_ok {L : Lac} {o : List Int} (h : lcdE L o = 0) : chkL L = 0 ∧ Ord L.C.length o := by
  unfold lcdE at h
  split at h
  · rename_i c; exact ⟨c, ordL_iff.1 h⟩
  · rename_i c; exact absurd h c
/-- Each number below n is there once. -/
def prmB (l : List Int) (n : Nat) : Bool := decide (l.length = n) && (upto n).all fun k => decide (k ∈ l)
end Go.AM
/-
  Contracts: what moves make of an order, or the errors.
-/
namespace Go.AM
open Go.Proofs.Try
theorem dschL7 {p : Prop} (h : p := by first | exact Nat.ne_of_beq_eq_false rfl | assumption | (apply asOne; (first | exact One.int | exact One.bool | assumption | exact Ints.one (by assumption) | exact Rows.one (by assumption) | exact Own.one (by assumption) | exact One.lit ⟨rfl, rfl, rfl⟩)) | (apply asInts; (repeat first | assumption | exact ints_nil | apply Ints.app); done) | (apply asRows; (repeat first | assumption | exact Rows.nil | apply Rows.app); done) | (apply asScal; (first | apply allS1 | apply allS2 | apply allS3 | apply allS4) <;> (first | exact One.int | exact One.bool | assumption | exact Ints.one (by assumption) | exact Rows.one (by assumption) | exact Own.one (by assumption) | exact One.lit ⟨rfl, rfl, rfl⟩)) | exact litT rfl | exact litF rfl | omega | (simp only [List.length_append, List.length_cons, List.length_nil, List.length_set, List.length_reverse]; first | done | omega) | fail) : p := h
attribute [-go_sem] put_ne put_same
attribute [local go_sem ↓] put_if
def makE (o : List Int) (ms : List (Int × Int)) : List Int × Int := if aloL o = 0 then makF o.length ms o else ([], aloL o)
theorem perm_small' {l m : List Int} (h : l.Perm m) (hs : Small m) : Small l := ⟨by rw [h.length_eq]; exact hs.1, fun x hx => hs.2 x (h.mem_iff.1 hx)⟩
set_option maxHeartbeats 2000000 in
theorem run_Make {base : Nat} {h : Heap} {v mv : AVal} {o : List Int} {ms : List (Int × Int)} (hb : base ≤ h.length) (hI : Ints h v o) (hM : Rows encM h mv ms) (hml : ms.length ≤ 100000) :
    Ret prog raw base (.fn 26 [] []) [v, mv] h (fun w H => Ext h H ∧ ∃ x, w = .tuple [x, .int .i64 (makE o ms).2] ∧ OwnE encI 3 h.length H x (makE o ms).1) := by
  have ha := fun base => run_alone (base := base) hI
  have hv1 := hI.one
  have hm1 := hM.one
  by_cases c : aloL o = 0
  · obtain ⟨c1, c2, c3⟩ := aloL_iff.1 c
    rw [c] at ha
    have hsm := small_ints hI (by omega)
    obtain ⟨n, en⟩ : ∃ n, n = o.length := ⟨_, rfl⟩
    have r : makE o ms = makF n ms o := by unfold makE; rw [if_pos c, en]
    rw [r]
    obtain ⟨v1, H1, e1, x1, o1⟩ := run_cloneE (base := base) hI hsm
    have hl1 := x1.len
    have ov1 := o1.one
    have hlm := (hM.ext x1).len (P := prog) Fc.el33
    refine ret_raw func26 rfl (by kernel_rfl) ?_
    have hsp := @Nat.succ_ne_zero; repeat' (first | simp (disch := first | exact dschL7 | fail) only [go_sem, ↓reduceIte, hsp, ha, eq_self, e1, hlm] | refine WP_drw ?_ | refine cnd_intro (fun hsp => ?_) fun hsp => ?_)
    refine WP_count [(4, 9), (19, 42)] 0 ms.length (Nat.zero_le _) (fun _ i fr K => fr 19 = .int .i64 (i : Int) ∧ Ext h K ∧ ∃ o' w, fr 7 = w ∧ OwnE encI 3 h.length K w o' ∧ o'.Perm o ∧ makF n ms o = makF n (ms.drop i) o') ?_ ?_ ?_
    · exact ⟨by (simp (disch := first | exact dschL7 | fail) only [go_sem, ↓reduceIte, Int.natCast_zero]; first | done | rfl), x1, o, v1, by simp (disch := first | exact dschL7 | fail) only [go_sem, ↓reduceIte], o1, .refl _, rfl⟩
    · rintro i fr K hi0 hi hA ⟨r19, xK, o', w, r7, hO, hp, hF⟩
      have p17 := hA 17 rfl
      have p18 := hA 18 rfl
      try simp (disch := first | exact dschL7 | fail) only [go_sem, ↓reduceIte] at p17 p18
      have hlt : ((i : Int) < (ms.length : Int)) = True := eq_true (by omega)
      obtain ⟨⟨a, b⟩, em⟩ : ∃ m, ms[i] = m := ⟨_, rfl⟩
      have hx : ms[i]? = some (a, b) := by rw [List.getElem?_eq_getElem hi, em]
      have hMK := hM.ext xK
      have ad := hMK.addr (P := prog) (i := (i : Int)) Fc.el33 Fc.ar33 (by omega) (by omega)
      rw [Int.toNat_natCast] at ad
      have ld := hMK.load (P := prog) Fc.ty36 hx
      simp only [encM] at ad ld
      have hw1 := hO.one
      have hKl := xK.len
      have hol : o'.length = n := by rw [hp.length_eq, en]
      obtain ⟨G, eG⟩ : ∃ G, G = K ++ [mvB a b] := ⟨_, rfl⟩
      have xG : Ext K G := by rw [eG]; exact .app .refl
      have gG : G[K.length]? = some (mvB a b) := by rw [eG]; exact get_eq rfl
      have hGl := xG.len
      have iG := (ownE_ints hO (perm_small' hp hsm)).ext xG
      have lG := lenI iG
      have hst : makF n (ms.drop i) o' = if (0 ≤ a ∧ a < (n : Int)) ∧ (0 ≤ b ∧ b < (n : Int)) then makF n (ms.drop (i + 1)) (mvL o' a.toNat b.toNat) else ([], 1) := by
        rw [List.drop_eq_getElem_cons hi, em, makF]
      unfold mvB at eG gG
      by_cases q1 : 0 ≤ a ∧ a < (n : Int)
      · have t1 : decide (0 ≤ a ∧ a ≤ (o'.length : Int) - 1) = true := decide_eq_true (by omega)
        by_cases q2 : 0 ≤ b ∧ b < (n : Int)
        · have t2 : decide (0 ≤ b ∧ b ≤ (o'.length : Int) - 1) = true := decide_eq_true (by omega)
          rw [if_pos ⟨q1, q2⟩] at hst
          obtain ⟨a', rfl⟩ := Int.eq_ofNat_of_zero_le q1.1
          obtain ⟨b', rfl⟩ := Int.eq_ofNat_of_zero_le q2.1
          rw [Int.toNat_natCast, Int.toNat_natCast] at hst
          obtain ⟨w2, H2, e2, x2, o2⟩ := run_made (base := base) (f := a') (t := b') (by omega) iG (by omega) (by omega) (by omega)
          have ow2 := o2.one
          have hsp := @Nat.succ_ne_zero; repeat' (first | simp (disch := first | exact dschL7 | fail) only [go_sem, ↓reduceIte, hsp, r19, r7, p17, p18, hlt, ad, ld, ← eG, gG, lG, t1, t2, e2] | refine WP_drw ?_ | refine cnd_intro (fun hsp => ?_) fun hsp => ?_)
          refine ⟨by (repeat first | exact Agree.refl | assumption | refine Agree.put rfl ?_ | refine Agree.put0 ?_ | refine Agree.sub rfl (by assumption) ?_), by omega, xK.trans (xG.trans x2), _, w2, rfl, OwnE.low (b' := h.length) (.inl o2) (by omega), (mvL_perm (by omega) (by omega)).trans hp, by rw [hF, hst]⟩
        · have t2 : decide (0 ≤ b ∧ b ≤ (o'.length : Int) - 1) = false := decide_eq_false (by omega)
          rw [if_neg (fun q => q2 q.2)] at hst
          have hsp := @Nat.succ_ne_zero; repeat' (first | simp (disch := first | exact dschL7 | fail) only [go_sem, ↓reduceIte, hsp, r19, r7, p17, p18, hlt, ad, ld, ← eG, gG, lG, t1, t2] | refine WP_drw ?_ | refine cnd_intro (fun hsp => ?_) fun hsp => ?_)
          exact ⟨xK.trans xG, _, by rw [hF, hst], by rw [hF, hst]; exact .inl Own.nil⟩
      · have t1 : decide (0 ≤ a ∧ a ≤ (o'.length : Int) - 1) = false := decide_eq_false (by omega)
        rw [if_neg (fun q => q1 q.1)] at hst
        have hsp := @Nat.succ_ne_zero; repeat' (first | simp (disch := first | exact dschL7 | fail) only [go_sem, ↓reduceIte, hsp, r19, r7, p17, p18, hlt, ad, ld, ← eG, gG, lG, t1] | refine WP_drw ?_ | refine cnd_intro (fun hsp => ?_) fun hsp => ?_)
        exact ⟨xK.trans xG, _, by rw [hF, hst], by rw [hF, hst]; exact .inl Own.nil⟩
    · rintro fr K hA ⟨r19, xK, o', w, r7, hO, hp, hF⟩
      have p17 := hA 17 rfl
      have p18 := hA 18 rfl
      try simp (disch := first | exact dschL7 | fail) only [go_sem, ↓reduceIte] at p17 p18
      have hlt : ((ms.length : Int) < (ms.length : Int)) = False := eq_false (by omega)
      have hw1 := hO.one
      rw [List.drop_length, makF] at hF
      have hsp := @Nat.succ_ne_zero; repeat' (first | simp (disch := first | exact dschL7 | fail) only [go_sem, ↓reduceIte, hsp, r19, r7, p17, p18, hlt] | refine WP_drw ?_ | refine cnd_intro (fun hsp => ?_) fun hsp => ?_)
      exact ⟨xK, _, by rw [hF], by rw [hF]; exact hO⟩
  · have t1 : (aloL o = 0) = False := eq_false c
    have r : makE o ms = ([], aloL o) := by unfold makE; rw [if_neg c]
    rw [r]
    refine ret_raw func26 rfl (by kernel_rfl) ?_
    have hsp := @Nat.succ_ne_zero; repeat' (first | simp (disch := first | exact dschL7 | fail) only [go_sem, ↓reduceIte, hsp, ha, t1] | refine WP_drw ?_ | refine cnd_intro (fun hsp => ?_) fun hsp => ?_)
    exact ⟨.refl, _, rfl, .inl Own.nil⟩
end Go.AM
/-
  Contracts: an order whose cards are moved along a ring (turned), the cards that weave the first throws (Weave).
-/
namespace Go.AM
open Go.Proofs.Try
attribute [-go_sem] put_ne put_same
attribute [local go_sem ↓] put_if
end Go.AM
/-
  Plain: an order whose cards are moved along any ring is an order; the least number of some kind.
-/
namespace Go.AM
end Go.AM
/-
  Contracts: the cards that weave the first throws (Weave), an order along a ring (Turned).
-/
namespace Go.AM
open Go.Proofs.Try
theorem dschL36 {p : Prop} (h : p := by first | exact Nat.ne_of_beq_eq_false rfl | assumption | (apply asOne; (first | exact One.int | exact One.bool | assumption | exact Ints.one (by assumption) | exact Rows.one (by assumption) | exact Own.one (by assumption) | exact One.lit ⟨rfl, rfl, rfl⟩)) | (apply asInts; (repeat first | assumption | exact ints_nil | apply Ints.app); done) | (apply asRows; (repeat first | assumption | exact Rows.nil | apply Rows.app); done) | (apply asScal; (first | apply allS1 | apply allS2 | apply allS3 | apply allS4) <;> (first | exact One.int | exact One.bool | assumption | exact Ints.one (by assumption) | exact Rows.one (by assumption) | exact Own.one (by assumption) | exact One.lit ⟨rfl, rfl, rfl⟩)) | exact litT rfl | exact litF rfl | omega | (simp only [List.length_append, List.length_cons, List.length_nil, List.length_set, List.length_reverse]; first | done | omega) | fail) : p := h
attribute [-go_sem] put_ne put_same
attribute [local go_sem ↓] put_if
def wvL (L : Lac) (o : List Int) (n : Nat) : List Int := lst (fun t => L.C.getD (o.getD (t % o.length) 0).toNat 0) n
theorem wvL_succ {L : Lac} {o : List Int} {n : Nat} : wvL L o (n + 1) = wvL L o n ++ [L.C.getD (o.getD (n % o.length) 0).toNat 0] := lst_succ
theorem wvL_len {L : Lac} {o : List Int} {n : Nat} : (wvL L o n).length = n := lst_len
def wvE (L : Lac) (o : List Int) (n : Int) : List Int × Int := if lcdE L o = 0 then (if 0 ≤ n ∧ n ≤ 999 then (wvL L o n.toNat, 0) else ([], 3)) else ([], lcdE L o)
set_option maxHeartbeats 2000000 in
theorem run_Weave {base : Nat} {h : Heap} {v ov : AVal} {L : Lac} {o : List Int} {n : Int} (hb : base ≤ h.length) (hL : LacAt h v L) (hO : Ints h ov o) :
    Ret prog raw base (.fn 57 [] []) [v, ov, .int .i64 n] h (fun w H => Ext h H ∧ ∃ x, w = .tuple [x, .int .i64 (wvE L o n).2] ∧ Own encI 3 h.length H x (wvE L o n).1) := by
  have hL0 := hL
  obtain ⟨cv, rv, rfl, hC, hR⟩ := hL
  have o1 := hC.one
  have o2 := hR.one
  have o3 := hO.one
  obtain ⟨G0, eG0⟩ : ∃ G0, G0 = h ++ [lacB L.T cv rv] := ⟨_, rfl⟩
  have x0 : Ext h G0 := by rw [eG0]; exact .app .refl
  have g0 : G0[h.length]? = some (lacB L.T cv rv) := by rw [eG0]; exact get_eq rfl
  have l0 : G0.length = h.length + 1 := by rw [eG0]; simp
  obtain ⟨w1, H1, e1, x1, a, rfl, oa, ha⟩ := run_laced (base := base) (h := G0) (by omega) (hL0.ext x0) (hO.ext x0)
  have l1 := x1.len
  have g1 := x1.get g0
  have xh := x0.trans x1
  have hin := fun base H => run_in (base := base) (h := H) (n := n) (lo := 0) (hi := 999)
  unfold lacB at eG0 g0 g1
  refine ret_raw func57 rfl (by kernel_rfl) ?_
  by_cases c : lcdE L o = 0
  · obtain ⟨c1, c2⟩ := lcdE_ok c
    have kn := (chkL_iff.1 c1).n
    rw [c] at e1
    by_cases c3 : 0 ≤ n ∧ n ≤ 999
    · have r : wvE L o n = (wvL L o n.toNat, 0) := by unfold wvE; rw [if_pos c, if_pos c3]
      rw [r]
      obtain ⟨m, rfl⟩ := Int.eq_ofNat_of_zero_le c3.1
      rw [Int.toNat_natCast]
      rw [decide_eq_true c3] at hin
      have hsp := @Nat.succ_ne_zero; repeat' (first | simp (disch := first | exact dschL36 | fail) only [go_sem, ↓reduceIte, hsp, ← eG0, g0, e1, eq_self, hin] | refine WP_drw ?_ | refine cnd_intro (fun hsp => ?_) fun hsp => ?_)
      refine WP_count [(10, 11), (25, 42)] 0 m (Nat.zero_le _) (fun _ i fr H => fr 25 = .int .i64 (i : Int) ∧ Ext H1 H ∧ ∃ w, fr 10 = w ∧ Own encI 3 H1.length H w (wvL L o i)) ?_ ?_ ?_
      · exact ⟨by (simp (disch := first | exact dschL36 | fail) only [go_sem, ↓reduceIte, Int.natCast_zero]; first | done | rfl), .refl, .slice none 0 0, by simp (disch := first | exact dschL36 | fail) only [go_sem, ↓reduceIte], Own.nil⟩
      · rintro i fr H hi0 hi hA ⟨r25, xH, w, r10, hW⟩
        have q1 := hA 1 rfl
        have q3 := hA 3 rfl
        have q6 := hA 6 rfl
        have q7 := hA 7 rfl
        have q24 := hA 24 rfl
        try simp (disch := first | exact dschL36 | fail) only [go_sem, ↓reduceIte] at q1 q3 q6 q7 q24
        have hlt : ((i : Int) < (m : Int)) = True := eq_true (by omega)
        have ow := hW.one
        have lH := xH.len
        have gH := xH.get g1
        have iO := hO.ext (xh.trans xH)
        have iC := hC.ext (xh.trans xH)
        have hol := lenI iO
        have hm := c2.1
        have hrem := remN (x := (i : Int)) (n := o.length) (by omega) (by omega)
        rw [Int.toNat_natCast] at hrem
        obtain ⟨j, ej⟩ : ∃ j, j = i % o.length := ⟨_, rfl⟩
        rw [← ej] at hrem
        have hj : j < o.length := by rw [ej]; exact Nat.mod_lt _ (by omega)
        have aj := adrI (i := (j : Int)) (by omega) iO (by omega)
        rw [Int.toNat_natCast] at aj
        have lj := loadI iO hj
        have hk := c2.2.1 _ (getD_mem hj)
        obtain ⟨k, ek⟩ := Int.eq_ofNat_of_zero_le hk.1
        rw [ek] at lj hk
        have ak := adrI (i := (k : Int)) (by omega) iC (by omega)
        rw [Int.toNat_natCast] at ak
        have lk := loadI iC (i := k) (by omega)
        obtain ⟨w', K2, ea, oW, lW, eW, oneW, kW⟩ := OwnE.snocI (base := base) (x := L.C.getD k 0) (.inl hW) (by omega) lH (by rw [wvL_len]; omega)
        have hs : wvL L o (i + 1) = wvL L o i ++ [L.C.getD k 0] := by rw [wvL_succ, ← ej, ek, Int.toNat_natCast]
        have hsp := @Nat.succ_ne_zero; repeat' (first | simp (disch := first | exact dschL36 | fail) only [go_sem, ↓reduceIte, hsp, r25, r10, q1, q3, q6, q7, q24, hlt, gH, hol, hrem, aj, lj, ak, lk, ea] | refine WP_drw ?_ | refine cnd_intro (fun hsp => ?_) fun hsp => ?_)
        exact ⟨by (repeat first | exact Agree.refl | assumption | refine Agree.put rfl ?_ | refine Agree.put0 ?_ | refine Agree.sub rfl (by assumption) ?_), by omega, eW _ (Nat.le_refl _) xH, w', rfl, by rw [hs]; exact oW⟩
      · rintro fr H hA ⟨r25, xH, w, r10, hW⟩
        have q1 := hA 1 rfl
        have q3 := hA 3 rfl
        have q6 := hA 6 rfl
        have q7 := hA 7 rfl
        have q24 := hA 24 rfl
        try simp (disch := first | exact dschL36 | fail) only [go_sem, ↓reduceIte] at q1 q3 q6 q7 q24
        have hlt : ((m : Int) < (m : Int)) = False := eq_false (by omega)
        have ow := hW.one
        have hsp := @Nat.succ_ne_zero; repeat' (first | simp (disch := first | exact dschL36 | fail) only [go_sem, ↓reduceIte, hsp, r25, r10, q1, q3, q6, q7, q24, hlt] | refine WP_drw ?_ | refine cnd_intro (fun hsp => ?_) fun hsp => ?_)
        exact ⟨xh.trans xH, _, rfl, hW.low (by omega)⟩
    · have r : wvE L o n = ([], 3) := by unfold wvE; rw [if_pos c, if_neg c3]
      rw [r]
      rw [decide_eq_false c3] at hin
      have hsp := @Nat.succ_ne_zero; repeat' (first | simp (disch := first | exact dschL36 | fail) only [go_sem, ↓reduceIte, hsp, ← eG0, g0, e1, eq_self, hin] | refine WP_drw ?_ | refine cnd_intro (fun hsp => ?_) fun hsp => ?_)
      exact ⟨xh, _, rfl, Own.nil⟩
  · have t0 : (lcdE L o = 0) = False := eq_false c
    have r : wvE L o n = ([], lcdE L o) := by unfold wvE; rw [if_neg c]
    rw [r]
    have hsp := @Nat.succ_ne_zero; repeat' (first | simp (disch := first | exact dschL36 | fail) only [go_sem, ↓reduceIte, hsp, ← eG0, g0, e1, t0] | refine WP_drw ?_ | refine cnd_intro (fun hsp => ?_) fun hsp => ?_)
    exact ⟨xh, _, rfl, Own.nil⟩
def trdE (L : Lac) (o ring : List Int) : List Int × Int :=
  if lcdE L o ≠ 0 then ([], lcdE L o) else if ring.length < 2 then ([], 2) else if ¬ (ring.all fun x => decide (0 ≤ x ∧ x ≤ (L.C.length : Int) - 1)) = true then ([], 1) else if twB ring = true then ([], 5) else
  if (xplD L o o.length && xplD L (trnL o ring) o.length) = true then (trnL o ring, 0) else ([], 8)
end Go.AM
/-
  Contracts: a ring of the first order that explains the rows (Ring).
-/
namespace Go.AM
open Go.Proofs.Try
attribute [-go_sem] put_ne put_same
attribute [local go_sem ↓] put_if
/-- A ring along which the second order differs from the first one. -/
def IsRing (L : Lac) (l : List Int) : Prop := ∃ o1 o2 a r, (fnd L)[0]? = some o1 ∧ (fnd L)[1]? = some o2 ∧ a < L.C.length ∧ o1.getD a 0 ≠ o2.getD a 0 ∧ 0 < r ∧ itr o1 o2 a r = a ∧ (∀ i, 0 < i → i < r → itr o1 o2 a i ≠ a) ∧ l = rngL o1 o2 a r
def rngE (L : Lac) : Int := if (fndE L).2 = 0 then (if (fnd L).length = 1 then 6 else 0) else (fndE L).2
end Go.AM
/-
  Copies of slices of structs.
-/
namespace Go.AM
open Go.Proofs.Try
section
variable {α : Type} {E : Enc α} {P : Program} {base : Nat} {h : Heap} {v : AVal} {l : List α} {t e : TypeId} {zs : List AVal}
/-- A slice that is read is nil, or empty, or not nil. -/
theorem Rows.nilEq2 (hR : Rows E h v l) (ht : P.underlying t = some (.slice e)) : (v = .slice none 0 0 ∧ l = [] ∧ binA P .eql t v (.slice .none 0 0) = some (.bool true)) ∨ binA P .eql t v (.slice .none 0 0) = some (.bool false) := by
  rcases hR.2 with ⟨rfl, rfl⟩ | ⟨rfl, rfl⟩ | ⟨r, k, c, e, row, ro, rfl, _⟩
  · exact .inl ⟨rfl, rfl, by simp [binA, eqT, eqDepth, ht, nilS]⟩
  · exact .inr (by simp [binA, eqT, eqDepth, ht, nilS])
  · exact .inr (by simp [binA, eqT, eqDepth, ht, nilS])
theorem app_empE (hR : Rows E h v l) (hl : l ≠ []) (hs : ∀ y, (E.cells y).all AVal.scalar = true) (hsz : l.length < 2147483648) (ht : elS P t = some (e, E.z, zs)) :
    appendA P base h t .emp v = some (.slice (some ⟨h.length, 0, 0⟩) l.length l.length, h ++ [rowE E e l 0]) := by
  have hn : l.length ≠ 0 := fun q => hl (List.eq_nil_of_length_eq_zero q)
  simp only [appendA, ht, hR.lenA, hR.firstN, flat_scalar hs, if_true]
  rw [if_neg hn, if_pos (show l.length < 2 ^ 31 by omega)]
  first | done | rfl
end
end Go.AM
/-
  Contracts: copies of rows and chains, comparison of chains, a chain with one row more (See).
-/
namespace Go.AM
open Go.Proofs.Try
theorem dschL44 {p : Prop} (h : p := by first | exact Nat.ne_of_beq_eq_false rfl | assumption | (apply asOne; (first | exact One.int | exact One.bool | assumption | exact Ints.one (by assumption) | exact Rows.one (by assumption) | exact Own.one (by assumption) | exact One.lit ⟨rfl, rfl, rfl⟩)) | (apply asInts; (repeat first | assumption | exact ints_nil | apply Ints.app); done) | (apply asRows; (repeat first | assumption | exact Rows.nil | apply Rows.app); done) | (apply asScal; (first | apply allS1 | apply allS2 | apply allS3 | apply allS4) <;> (first | exact One.int | exact One.bool | assumption | exact Ints.one (by assumption) | exact Rows.one (by assumption) | exact Own.one (by assumption) | exact One.lit ⟨rfl, rfl, rfl⟩)) | exact litT rfl | exact litF rfl | omega | (simp only [List.length_append, List.length_cons, List.length_nil, List.length_set, List.length_reverse]; first | done | omega) | fail) : p := h
attribute [-go_sem] put_ne put_same
attribute [local go_sem ↓] put_if
theorem run_cloneR {base : Nat} {h : Heap} {v : AVal} {l : List Rw3} (hR : Rows encR h v l) (hl : l.length ≤ 1000) :
    Ret prog raw base (.fn 109 [] []) [v] h (fun w H => Ext h H ∧ OwnE encR 70 h.length H w l) := by
  have ho := hR.one
  have hsz : l.length < 2147483648 := by omega
  refine ret_raw func109 rfl (by kernel_rfl) ?_
  rcases hR.nilEq2 Fc.un42 with ⟨rfl, rfl, e⟩ | e
  · have hsp := @Nat.succ_ne_zero; repeat' (first | simp (disch := first | exact dschL44 | fail) only [go_sem, ↓reduceIte, hsp, e] | refine WP_drw ?_ | refine cnd_intro (fun hsp => ?_) fun hsp => ?_)
    exact ⟨.refl, .inl Own.nil⟩
  · by_cases hl0 : l = []
    · subst hl0
      have ha := fun base => app_none (base := base) hR Fc.el42
      have hsp := @Nat.succ_ne_zero; repeat' (first | simp (disch := first | exact dschL44 | fail) only [go_sem, ↓reduceIte, hsp, e, bs_emp Fc.el42, ha] | refine WP_drw ?_ | refine cnd_intro (fun hsp => ?_) fun hsp => ?_)
      exact ⟨.refl, .inr ⟨rfl, rfl⟩⟩
    · have ha := fun base => app_empE (base := base) hR hl0 encR_sc hsz Fc.el42
      have hsp := @Nat.succ_ne_zero; repeat' (first | simp (disch := first | exact dschL44 | fail) only [go_sem, ↓reduceIte, hsp, e, bs_emp Fc.el42, ha] | refine WP_drw ?_ | refine cnd_intro (fun hsp => ?_) fun hsp => ?_)
      exact ⟨.app .refl, .inl (.inr ⟨h.length, 0, rfl, get_eq rfl, Nat.le_refl _, List.length_pos_iff.2 hl0⟩)⟩
theorem run_dupR {base : Nat} {h : Heap} {v : AVal} {l : List Rw3} (hb : base ≤ h.length) (hR : Rows encR h v l) (hl : l.length ≤ 1000) :
    Ret prog raw base (.fn 96 [] []) [v] h (fun w H => Ext h H ∧ OwnE encR 70 h.length H w l) := by
  have ho := hR.one
  have hn := hR.len Fc.el42
  refine ret_raw func96 rfl (by kernel_rfl) ?_
  by_cases hl0 : l = []
  · subst hl0
    have ha := fun base => app_none (base := base) hR Fc.el42
    have hsp := @Nat.succ_ne_zero; repeat' (first | simp (disch := first | exact dschL44 | fail) only [go_sem, ↓reduceIte, hsp, hn, mk_none Fc.el42, ha, List.length_nil, Int.natCast_zero] | refine WP_drw ?_ | refine cnd_intro (fun hsp => ?_) fun hsp => ?_)
    exact ⟨.refl, .inr ⟨rfl, rfl⟩⟩
  · have hl1 : 0 < l.length := List.length_pos_iff.2 hl0
    have hm := mk_room (h := h) (n := l.length) Fc.el42 hl1 (by omega)
    have ha := app_fill (base := base) hR Fc.el42 rfl encR_sc rfl hb
    have hsp := @Nat.succ_ne_zero; repeat' (first | simp (disch := first | exact dschL44 | fail) only [go_sem, ↓reduceIte, hsp, hn, hm, ha] | refine WP_drw ?_ | refine cnd_intro (fun hsp => ?_) fun hsp => ?_)
    exact ⟨.app .refl, .inl (.inr ⟨h.length, 0, rfl, get_eq rfl, Nat.le_refl _, hl1⟩)⟩
theorem run_eqR0 {base : Nat} {h : Heap} {a b : AVal} {l : List Rw3} (ha : Rows encR h a l) (hb : Rows encR h b l) (hl : l.length ≤ 1000) : callL prog raw base (.fn 157 [] []) [a, b] h = some (.bool true, h) := by
  have h1 := ha.len Fc.el42
  have h2 := hb.len Fc.el42
  have oa := ha.one
  have ob := hb.one
  refine callL_run func157 rfl rfl ?_
  have hsp := @Nat.succ_ne_zero; repeat' (first | simp (disch := first | exact dschL44 | fail) only [go_sem, ↓reduceIte, hsp, h1, h2] | refine WP_drw ?_ | refine cnd_intro (fun hsp => ?_) fun hsp => ?_)
  refine WP_count [(4, 5), (13, 25)] 0 l.length (Nat.zero_le _) (fun H0 n fr h' => fr 13 = .int .i64 (n : Int) ∧ h' = H0) ?_ ?_ ?_
  · exact ⟨by (simp (disch := first | exact dschL44 | fail) only [go_sem, ↓reduceIte, Int.natCast_zero]; first | done | rfl), rfl⟩
  · rintro n fr H hn0 hn hA ⟨r13, eH⟩
    subst eH
    have p0 := hA 0 rfl
    have p1 := hA 1 rfl
    have p12 := hA 12 rfl
    try simp (disch := first | exact dschL44 | fail) only [go_sem, ↓reduceIte] at p0 p1 p12
    have hlt : ((n : Int) < (l.length : Int)) = True := eq_true (by omega)
    have hx := getD_some (d := ((0 : Int), (0 : Int), (0 : Int))) hn
    obtain ⟨x, ex⟩ : ∃ x, x = l.getD n ((0 : Int), (0 : Int), (0 : Int)) := ⟨_, rfl⟩
    rw [← ex] at hx
    have a1 := ha.addr (P := prog) (i := (n : Int)) Fc.el42 Fc.ar42 (by omega) (by omega)
    have a2 := hb.addr (P := prog) (i := (n : Int)) Fc.el42 Fc.ar42 (by omega) (by omega)
    rw [Int.toNat_natCast] at a1 a2
    have d1 : loadP prog H 70 (elAdr a encR.z n 0) = some (.agg [.int .i64 x.1, .int .i64 x.2.1, .int .i64 x.2.2]) := ha.load (P := prog) Fc.ty70 hx
    have d2 : loadP prog H 70 (elAdr b encR.z n 0) = some (.agg [.int .i64 x.1, .int .i64 x.2.1, .int .i64 x.2.2]) := hb.load (P := prog) Fc.ty70 hx
    have hsp := @Nat.succ_ne_zero; repeat' (first | simp (disch := first | exact dschL44 | fail) only [go_sem, ↓reduceIte, hsp, r13, p0, p1, p12, hlt, a1, a2, d1, d2, Fc.ne70, eq_self, and_self, not_true, decide_false] | refine WP_drw ?_ | refine cnd_intro (fun hsp => ?_) fun hsp => ?_)
    exact ⟨by (repeat first | exact Agree.refl | assumption | refine Agree.put rfl ?_ | refine Agree.put0 ?_ | refine Agree.sub rfl (by assumption) ?_), by omega⟩
  · rintro fr H hA ⟨r13, eH⟩
    subst eH
    have p0 := hA 0 rfl
    have p1 := hA 1 rfl
    have p12 := hA 12 rfl
    try simp (disch := first | exact dschL44 | fail) only [go_sem, ↓reduceIte] at p0 p1 p12
    have hlt : ((l.length : Int) < (l.length : Int)) = False := eq_false (by omega)
    have hsp := @Nat.succ_ne_zero; repeat' (first | simp (disch := first | exact dschL44 | fail) only [go_sem, ↓reduceIte, hsp, r13, p0, p1, p12, hlt] | refine WP_drw ?_ | refine cnd_intro (fun hsp => ?_) fun hsp => ?_)
    exact fB rfl
theorem run_eqR {base : Nat} {h : Heap} {a b : AVal} {l : List Rw3} (ha : Rows encR h a l) (hb : Rows encR h b l) (hl : l.length ≤ 1000) : callL prog raw base (.fn 108 [] []) [a, b] h = some (.bool true, h) := by
  have e := fun base => run_eqR0 (base := base) ha hb hl
  refine callL_run func108 rfl rfl ?_
  have hsp := @Nat.succ_ne_zero; repeat' (first | simp (disch := first | exact dschL44 | fail) only [go_sem, ↓reduceIte, hsp, e] | refine WP_drw ?_ | refine cnd_intro (fun hsp => ?_) fun hsp => ?_)
  exact fB rfl
/-- The same chain twice. -/
theorem run_same {base : Nat} {h : Heap} {v w : AVal} {L : Lac} (hv : LacAt h v L) (hw : LacAt h w L) (hl : L.R.length ≤ 1000) : callL prog raw base (.fn 43 [] []) [v, w] h = some (.bool true, h) := by
  obtain ⟨cv, rv, rfl, hC, hR⟩ := hv
  obtain ⟨cw, rw', rfl, hC2, hR2⟩ := hw
  have o1 := hC.one
  have o2 := hR.one
  have o3 := hC2.one
  have o4 := hR2.one
  obtain ⟨G, eG⟩ : ∃ G, G = h ++ [lacB L.T cv rv] ++ [lacB L.T cw rw'] := ⟨_, rfl⟩
  have xG : Ext h G := by rw [eG]; exact .app (.app .refl)
  have g0 : G[h.length]? = some (lacB L.T cv rv) := by rw [eG]; exact get_app (get_eq rfl)
  have g1 : G[h.length + 1]? = some (lacB L.T cw rw') := by rw [eG]; exact get_eq (by simp)
  have e1 := fun base => run_eqI (base := base) (hC.ext xG) (hC2.ext xG)
  rw [decide_eq_true rfl] at e1
  have e2 := fun base => run_eqR (base := base) (hR.ext xG) (hR2.ext xG) hl
  unfold lacB at eG g0 g1
  refine callL_run func43 rfl rfl ?_
  have hsp := @Nat.succ_ne_zero; repeat' (first | simp (disch := first | exact dschL44 | fail) only [go_sem, ↓reduceIte, hsp, ← eG, g0, g1, eq_self, decide_true, e1, e2] | refine WP_drw ?_ | refine cnd_intro (fun hsp => ?_) fun hsp => ?_)
  exact fB rfl xG
theorem run_own {base : Nat} {h : Heap} {v : AVal} {L : Lac} (hb : base ≤ h.length) (hL : LacAt h v L) (hc : L.C.length ≤ 1000) (hl : L.R.length ≤ 1000) :
    Ret prog raw base (.fn 30 [] []) [v] h (fun w H => Ext h H ∧ ∃ cw rw', w = .agg [.int .i64 L.T, cw, rw'] ∧ OwnE encI 3 h.length H cw L.C ∧ OwnE encR 70 h.length H rw' L.R) := by
  obtain ⟨cv, rv, rfl, hC, hR⟩ := hL
  have o1 := hC.one
  have o2 := hR.one
  obtain ⟨G, eG⟩ : ∃ G, G = h ++ [lacB L.T cv rv] ++ [lacB 0 (.slice none 0 0) (.slice none 0 0)] := ⟨_, rfl⟩
  have xG : Ext h G := by rw [eG]; exact .app (.app .refl)
  have lG : G.length = h.length + 2 := by rw [eG]; simp
  have g0 : G[h.length]? = some (lacB L.T cv rv) := by rw [eG]; exact get_app (get_eq rfl)
  have g00 : G[h.length + 1]? = some (lacB 0 (.slice none 0 0) (.slice none 0 0)) := by rw [eG]; exact get_eq (by simp)
  obtain ⟨cw, H1, e1, x1, oC⟩ := run_dupI (base := base) (by omega) (hC.ext xG) hc
  have l1 := x1.len
  obtain ⟨rw', H2, e2, x2, oR⟩ := run_dupR (base := base) (by omega) (hR.ext (xG.trans x1)) hl
  have l2 := x2.len
  have g1 := x1.get g0
  have g2 := x2.get g1
  have g12 := (x1.trans x2).get g00
  have ow1 := oC.one
  have ow2 := oR.one
  have xf : Ext h H2 := (xG.trans x1).trans x2
  unfold lacB at eG g0 g00 g1 g2 g12
  refine ret_raw func30 rfl (by kernel_rfl) ?_
  have hsp := @Nat.succ_ne_zero; repeat' (first | simp (disch := first | exact dschL44 | fail) only [go_sem, ↓reduceIte, hsp, ← eG, g0, e1, g1, e2, g2, g12] | refine WP_drw ?_ | refine cnd_intro (fun hsp => ?_) fun hsp => ?_)
  exact ⟨xf.set (by omega), cw, rw', rfl, ((oC.ext x2).setBox g12).low (by omega), (oR.setBox g12).low (by omega)⟩
end Go.AM
/-
  Contracts: a chain with one row more (See); whether an order explains the rows, as the statements ask it.
-/
namespace Go.AM
open Go.Proofs.Try
theorem dschL45 {p : Prop} (h : p := by first | exact Nat.ne_of_beq_eq_false rfl | assumption | (apply asOne; (first | exact One.int | exact One.bool | assumption | exact Ints.one (by assumption) | exact Rows.one (by assumption) | exact Own.one (by assumption) | exact One.lit ⟨rfl, rfl, rfl⟩)) | (apply asInts; (repeat first | assumption | exact ints_nil | apply Ints.app); done) | (apply asRows; (repeat first | assumption | exact Rows.nil | apply Rows.app); done) | (apply asScal; (first | apply allS1 | apply allS2 | apply allS3 | apply allS4) <;> (first | exact One.int | exact One.bool | assumption | exact Ints.one (by assumption) | exact Rows.one (by assumption) | exact Own.one (by assumption) | exact One.lit ⟨rfl, rfl, rfl⟩)) | exact litT rfl | exact litF rfl | omega | (simp only [List.length_append, List.length_cons, List.length_nil, List.length_set, List.length_reverse]; first | done | omega) | fail) : p := h
attribute [-go_sem] put_ne put_same
attribute [local go_sem ↓] put_if
def moreR (L : Lac) (r : Rw3) : Lac := ⟨L.T, L.C, L.R ++ [r]⟩
def lac0 : Lac := ⟨0, [], []⟩
def seeE (L : Lac) (r : Rw3) : Lac × Int := if chkL L = 0 then (if L.R.length = 12 then (lac0, 9) else if chkL (moreR L r) = 0 then (moreR L r, 0) else (lac0, chkL (moreR L r))) else (lac0, chkL L)
/-- A chain of one's own. -/
def OwnC (b : Nat) (H : Heap) (v : AVal) (L : Lac) : Prop := ∃ cv rv, v = .agg [.int .i64 L.T, cv, rv] ∧ OwnE encI 3 b H cv L.C ∧ OwnE encR 70 b H rv L.R
theorem OwnC.at {b : Nat} {H : Heap} {v : AVal} {L : Lac} (x : OwnC b H v L) (hs : Small L.C) (hl : L.R.length ≤ 1000000) : LacAt H v L := by
  obtain ⟨cv, rv, h1, h2, h3⟩ := x
  exact ⟨cv, rv, h1, ownE_ints h2 hs, h3.rows (by omega)⟩
theorem lac_small {L : Lac} (h : chkL L = 0) : Small L.C := by
  obtain ⟨kT, kn, km, kc, kr, kd⟩ := chkL_iff.1 h
  refine ⟨by omega, fun x hx => ?_⟩
  have h1 := kc x hx
  have h2 : (2 : Int) ^ L.T.toNat ≤ 2 ^ 8 := by exact_mod_cast Nat.pow_le_pow_right (by decide) (show L.T.toNat ≤ 8 by omega)
  omega
set_option maxRecDepth 100000 in
set_option maxHeartbeats 4000000 in
theorem run_See {base : Nat} {h : Heap} {v : AVal} {L : Lac} {r : Rw3} (hb : base ≤ h.length) (hL : LacAt h v L) :
    Ret prog raw base (.fn 46 [] []) [v, .agg [.int .i64 r.1, .int .i64 r.2.1, .int .i64 r.2.2]] h (fun w H => Ext h H ∧ ∃ x, w = .tuple [x, .int .i64 (seeE L r).2] ∧ OwnC h.length H x (seeE L r).1) := by
  have hL0 := hL
  obtain ⟨cv, rv, rfl, hC, hR⟩ := hL
  have o1 := hC.one
  have o2 := hR.one
  obtain ⟨G, eG⟩ : ∃ G, G = h ++ [lacB L.T cv rv] ++ [rwB r] ++ [lacB 0 (.slice none 0 0) (.slice none 0 0)] := ⟨_, rfl⟩
  have xG : Ext h G := by rw [eG]; exact .app (.app (.app .refl))
  have lG : G.length = h.length + 3 := by rw [eG]; simp
  have g0 : G[h.length]? = some (lacB L.T cv rv) := by rw [eG]; exact get_app (get_app (get_eq rfl))
  have g1 : G[h.length + 1]? = some (rwB r) := by rw [eG]; exact get_app (get_eq (by simp))
  have g2 : G[h.length + 1 + 1]? = some (lacB 0 (.slice none 0 0) (.slice none 0 0)) := by rw [eG]; exact get_eq (by simp)
  have c0 := fun base => run_Check (base := base) (hL0.ext xG)
  have hlr := (hR.ext xG).len (P := prog) Fc.el42
  unfold lacB rwB at eG
  have g0' := g0
  have g1' := g1
  have g2' := g2
  unfold lacB at g0' g2'
  unfold rwB at g1'
  refine ret_raw func46 rfl (by kernel_rfl) ?_
  by_cases c : chkL L = 0
  · by_cases c2 : L.R.length = 12
    · have t2 : ((L.R.length : Int) = 12) = True := eq_true (by omega)
      have re : seeE L r = (lac0, 9) := by unfold seeE; rw [if_pos c, if_pos c2]
      rw [re]
      rw [c] at c0
      have hsp := @Nat.succ_ne_zero; repeat' (first | simp (disch := first | exact dschL45 | fail) only [go_sem, ↓reduceIte, hsp, ← eG, g0', c0, eq_self, hlr, t2, g2'] | refine WP_drw ?_ | refine cnd_intro (fun hsp => ?_) fun hsp => ?_)
      exact ⟨xG.set (by omega), _, rfl, _, _, rfl, .inl Own.nil, .inl Own.nil⟩
    · have t2 : ((L.R.length : Int) = 12) = False := eq_false (by omega)
      obtain ⟨kT, kn, km, kc, kr, kd⟩ := chkL_iff.1 c
      obtain ⟨cw, H1, e1, x1, oC⟩ := run_cloneE (base := base) (hC.ext xG) (lac_small c)
      have l1 := x1.len
      have oc1 := oC.one
      have g01 := x1.get g0'
      obtain ⟨H2, eH2⟩ : ∃ H2, H2 = H1.set h.length (lacB L.T cw rv) := ⟨_, rfl⟩
      have x2 : Ext h H2 := by rw [eH2]; exact (xG.trans x1).set (Nat.le_refl _)
      have l2 : H2.length = H1.length := by rw [eH2, List.length_set]
      have g02 : H2[h.length]? = some (lacB L.T cw rv) := by rw [eH2, List.getElem?_set_self (by omega)]
      have g12 : H2[h.length + 1]? = some (rwB r) := by rw [eH2, List.getElem?_set_ne (by omega)]; exact x1.get g1
      have g22 : H2[h.length + 1 + 1]? = some (lacB 0 (.slice none 0 0) (.slice none 0 0)) := by rw [eH2, List.getElem?_set_ne (by omega)]; exact x1.get g2
      have oC2 : OwnE encI 3 (h.length + 3) H2 cw L.C := by rw [eH2]; exact (oC.setBox g01).low (by omega)
      obtain ⟨rw1, H3, e3, x3, oR⟩ := run_cloneR (base := base) (hR.ext x2) (by omega)
      have l3 := x3.len
      have or1 := oR.one
      have g13 := x3.get g12
      obtain ⟨H4, eH4⟩ : ∃ H4, H4 = H3 ++ [rowE encR 70 [r] 0] := ⟨_, rfl⟩
      have x4 : Ext H3 H4 := by rw [eH4]; exact .app .refl
      have l4 : H4.length = H3.length + 1 := by rw [eH4]; simp
      have hx : Rows encR H4 (.slice (some ⟨H3.length, 0, 0⟩) 1 1) [r] := Rows.own (by rw [eH4]; exact get_eq rfl) rfl (by simp)
      obtain ⟨rw2, H5, e5, oR5, l5, kE5, or2, k5⟩ : ∃ w' h', appendA prog base H4 42 rw1 (.slice (some ⟨H3.length, 0, 0⟩) 1 1) = some (w', h') ∧ Own encR 70 H2.length h' w' (L.R ++ [r]) ∧ H4.length ≤ h'.length ∧ (∀ G, G.length ≤ H2.length → Ext G H4 → Ext G h') ∧ One w' ∧ KeepO encR 70 H4 h' := by
        rcases oR with oR | ⟨e, e'⟩
        · exact (oR.ext x4).appendRX (P := prog) (base := base) (t := 42) hx Fc.el42 encR_sc (by omega) (by omega) (by simp) (by simp; omega)
        · rw [e, e']
          have := app_empE (base := base) hx (by simp) encR_sc (by simp) Fc.el42
          exact ⟨_, _, this, .inr ⟨H4.length, 0, rfl, get_eq rfl, by omega, by simp⟩, by simp, fun G _ q => q.trans (.app .refl), ⟨rfl, rfl, rfl⟩, fun i y hi _ => get_app hi⟩
      have x25 : Ext H2 H5 := kE5 _ (Nat.le_refl _) (x3.trans x4)
      have g05 := x25.get g02
      have g25 := x25.get g22
      obtain ⟨H6, eH6⟩ : ∃ H6, H6 = H5.set h.length (lacB L.T cw rw2) := ⟨_, rfl⟩
      have x6 : Ext h H6 := by rw [eH6]; exact (x2.trans x25).set (Nat.le_refl _)
      have g06 : H6[h.length]? = some (lacB L.T cw rw2) := by rw [eH6, List.getElem?_set_self (lt_of_get g05)]
      have g26 : H6[h.length + 1 + 1]? = some (lacB 0 (.slice none 0 0) (.slice none 0 0)) := by rw [eH6, List.getElem?_set_ne (by omega)]; exact g25
      have oC6 : OwnE encI 3 (h.length + 3) H6 cw L.C := by rw [eH6]; exact (oC2.ext x25).setBox g05
      have oR6 : OwnE encR 70 (h.length + 3) H6 rw2 (L.R ++ [r]) := by rw [eH6]; exact (OwnE.setBox (.inl oR5) g05).low (by omega)
      have hO6 : OwnC (h.length + 3) H6 (.agg [.int .i64 L.T, cw, rw2]) (moreR L r) := ⟨cw, rw2, rfl, oC6, oR6⟩
      have c6 := fun base => run_Check (base := base) (hO6.at (show Small (moreR L r).C from (lac_small c : Small L.C)) (by simp [moreR]; omega))
      have hO7 : ∀ b, OwnC h.length (H6.set (h.length + 1 + 1) b) (.agg [.int .i64 L.T, cw, rw2]) (moreR L r) := fun b => ⟨cw, rw2, rfl, (oC6.setBox g26).low (by omega), (oR6.setBox g26).low (by omega)⟩
      have l56 : H6.length = H5.length := by rw [eH6, List.length_set]
      unfold lacB at eH2 g02 g22 g05 eH6 g06 g26
      unfold rwB at g12 g13
      rw [c] at c0
      by_cases c3 : chkL (moreR L r) = 0
      · have re : seeE L r = (moreR L r, 0) := by unfold seeE; rw [if_pos c, if_neg c2, if_pos c3]
        rw [re]
        rw [c3] at c6
        have hsp := @Nat.succ_ne_zero; repeat' (first | simp (disch := first | exact dschL45 | fail) only [go_sem, ↓reduceIte, hsp, ← eG, g0', c0, eq_self, hlr, t2, e1, g01, ← eH2, g02, e3, g13, bsR1, ← eH4, e5, g05, ← eH6, g06, c6, g26] | refine WP_drw ?_ | refine cnd_intro (fun hsp => ?_) fun hsp => ?_)
        exact ⟨x6.set (by omega), _, rfl, hO7 _⟩
      · have t3 : (chkL (moreR L r) = 0) = False := eq_false c3
        have re : seeE L r = (lac0, chkL (moreR L r)) := by unfold seeE; rw [if_pos c, if_neg c2, if_neg c3]
        rw [re]
        have hsp := @Nat.succ_ne_zero; repeat' (first | simp (disch := first | exact dschL45 | fail) only [go_sem, ↓reduceIte, hsp, ← eG, g0', c0, eq_self, hlr, t2, e1, g01, ← eH2, g02, e3, g13, bsR1, ← eH4, e5, g05, ← eH6, g06, c6, t3, g26] | refine WP_drw ?_ | refine cnd_intro (fun hsp => ?_) fun hsp => ?_)
        exact ⟨x6.set (by omega), _, rfl, _, _, rfl, .inl Own.nil, .inl Own.nil⟩
  · have t0 : (chkL L = 0) = False := eq_false c
    have re : seeE L r = (lac0, chkL L) := by unfold seeE; rw [if_neg c]
    rw [re]
    have hsp := @Nat.succ_ne_zero; repeat' (first | simp (disch := first | exact dschL45 | fail) only [go_sem, ↓reduceIte, hsp, ← eG, g0', c0, t0, g2'] | refine WP_drw ?_ | refine cnd_intro (fun hsp => ?_) fun hsp => ?_)
    exact ⟨xG.set (by omega), _, rfl, _, _, rfl, .inl Own.nil, .inl Own.nil⟩
end Go.AM
/-
  Contracts: where the first list lies of which something holds; the pile that a card goes on.
-/
namespace Go.AM
open Go.Proofs.Try
attribute [-go_sem] put_ne put_same
attribute [local go_sem ↓] put_if
end Go.AM
/-
  Contracts: as few moves as can be (Mend).
-/
namespace Go.AM
open Go.Proofs.Try
attribute [-go_sem] put_ne put_same
attribute [local go_sem ↓] put_if
def mndE (o : List Int) : List (Int × Int) × Int := if aloL o = 0 then (mndL o, 0) else ([], aloL o)
theorem mndN_succ {s : MndS} {k : Nat} : mndN s (k + 1) = mndS (mndN s k) (k : Int) := rfl
end Go.AM
/-
  Contracts: as few piles as can be (Piles).
-/
namespace Go.AM
open Go.Proofs.Try
attribute [-go_sem] put_ne put_same
attribute [local go_sem ↓] put_if
/-- Piles in memory, each in a block of its own. -/
structure PilAt (b : Nat) (H : Heap) (u : AVal) (vs : List AVal) (ps : List (List Int)) : Prop where
  own : Own encZ 25 b H u vs
  len : vs.length = ps.length
  el : ∀ (i : Nat) x t, vs[i]? = some x → ps[i]? = some t → Own encI 3 b H x t
  apart : ∀ (i j : Nat) x y, i ≠ j → vs[i]? = some x → vs[j]? = some y → Asun x y
end Go.AM
/-
  Contracts: Piles.
-/
namespace Go.AM
open Go.Proofs.Try
attribute [-go_sem] put_ne put_same
attribute [local go_sem ↓] put_if
def pilE (o : List Int) : List (List Int) × Int := if aloL o = 0 then (pilN o o.length, 0) else ([], aloL o)
end Go.AM
