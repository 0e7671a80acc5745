/-
  Contracts: the position at which one look leaves the fewest orders (Ask).
-/
import Derived.Test.YteanoaejoddnbaaU15
import Derived.Test.YteanoaejoddnbaaU14
import Derived.Test.YteanoaejoddnbaaU16
import Derived.Test.YteanoaejoddnbaaU10
import Derived.Test.YteanoaejoddnbaaU9
set_option linter.unusedSimpArgs false
set_option linter.unusedVariables false
namespace Go.AM
open Go.Proofs.Try
theorem dschL20 {p : Prop} (h : p := by first | exact Nat.ne_of_beq_eq_false rfl | assumption | (apply asOne; (first | exact One.int | exact One.bool | assumption | exact Ints.one (by assumption) | exact Rows.one (by assumption) | exact Own.one (by assumption) | exact One.lit ⟨rfl, rfl, rfl⟩)) | (apply asInts; (repeat first | assumption | exact ints_nil | apply Ints.app); done) | (apply asRows; (repeat first | assumption | exact Rows.nil | apply Rows.app); done) | (apply asScal; (first | apply allS1 | apply allS2 | apply allS3 | apply allS4) <;> (first | exact One.int | exact One.bool | assumption | exact Ints.one (by assumption) | exact Rows.one (by assumption) | exact Own.one (by assumption) | exact One.lit ⟨rfl, rfl, rfl⟩)) | exact litT rfl | exact litF rfl | omega | (simp only [List.length_append, List.length_cons, List.length_nil, List.length_set, List.length_reverse]; first | done | omega) | fail) : p := h
attribute [-go_sem] put_ne put_same
attribute [local go_sem ↓] put_if
def cntK (os : List (List Int)) (p n i : Nat) : List Int := lst (fun k => (((os.take i).countP fun o => decide (o.getD p 0 = (k : Int)) : Nat) : Int)) n
theorem cntK_len {os : List (List Int)} {p n i : Nat} : (cntK os p n i).length = n := lst_len
theorem cntK_step {os : List (List Int)} {p n i c : Nat} {o : List Int} (ho : os[i]? = some o) (hc : o.getD p 0 = (c : Int)) (hn : c < n) : (cntK os p n i).set c ((cntK os p n i).getD c 0 + 1) = cntK os p n (i + 1) := by
  unfold cntK
  rw [lst_get hn, lst_set hn]
  refine lst_congr fun k hk => ?_
  rw [List.take_add_one, ho, List.countP_append]
  by_cases e : k = c
  · subst e
    rw [if_pos rfl, show List.countP (fun o => decide (o.getD p 0 = (k : Int))) (some o).toList = 1 from List.countP_cons_of_pos (decide_eq_true hc)]
    omega
  · rw [if_neg e, show List.countP (fun o => decide (o.getD p 0 = (k : Int))) (some o).toList = 0 from List.countP_cons_of_neg (by rw [decide_eq_true_eq, hc]; omega)]
    omega
theorem cntK_bd {os : List (List Int)} {p n i k : Nat} (hk : k < n) : 0 ≤ (cntK os p n i).getD k 0 ∧ (cntK os p n i).getD k 0 ≤ (os.length : Int) := by
  unfold cntK
  rw [lst_get hk]
  have h1 : (os.take i).countP (fun o => decide (o.getD p 0 = (k : Int))) ≤ (os.take i).length := List.countP_le_length
  have h2 : (os.take i).length ≤ os.length := List.length_take_le' ..
  omega
theorem cntK_zero {os : List (List Int)} {p n : Nat} : cntK os p n 0 = List.replicate n 0 := by
  refine lst_ext (by rw [cntK_len, List.length_replicate]) fun i hi => ?_
  rw [cntK_len] at hi
  unfold cntK
  rw [lst_get hi, List.take_zero, List.getD_eq_getElem?_getD, List.getElem?_replicate, if_pos hi]
  rfl
theorem cntK_all {os : List (List Int)} {p n : Nat} : grt (cntK os p n os.length) = lvsN n os p := by
  unfold cntK lvsN
  rw [List.take_length]
set_option maxHeartbeats 1000000 in
theorem run_lvs {base a b id p bb : Nat} {h : Heap} {x : AVal} {L : Lac} {os : List (List Int)} (ga : h[a]? = some (pB id)) (gb : h[b]? = some (lsB x)) (hD : DskAt h id L) (hn : 1 ≤ L.C.length ∧ L.C.length ≤ 7) (hA : AllI bb h x os) (hl : os.length ≤ 823543) (ho : ∀ o ∈ os, Ord L.C.length o) (hp : p < L.C.length) :
    callL prog raw base (.fn 129 [] [.ptr (some ⟨a, 0, 0⟩), .ptr (some ⟨b, 0, 0⟩)]) [.int .i64 (p : Int)] h = some (.int .i64 (lvsN L.C.length os p), h) := by
  obtain ⟨cv, rv, hg, hC, -⟩ := hD
  have la := lt_of_get ga
  have lb := lt_of_get gb
  have lid := lt_of_get hg
  have ox := hA.one
  have lc := ld_cards hg
  have hlc := lenI hC
  obtain ⟨G, eG⟩ : ∃ G, G = h ++ [srB (cntK os p L.C.length 0) 3 0] := ⟨_, rfl⟩
  have mk : makeSliceA prog h 25 (.int .i64 (L.C.length : Int)) (.int .i64 (L.C.length : Int)) = some (.slice (some ⟨h.length, 0, 0⟩) L.C.length L.C.length, G) := by
    rw [make_full Fc.el25 (by omega) (by omega), rep_zero, eG, cntK_zero]
  have xG : Ext h G := by rw [eG]; exact .app .refl
  have gbG := xG.get gb
  have hlx := (hA.ext xG).len (by omega)
  unfold pB at ga
  unfold lsB at gb gbG
  refine callL_run func129 rfl rfl ?_
  have hsp := @Nat.succ_ne_zero; repeat' (first | simp (disch := first | exact dschL20 | fail) only [go_sem, ↓reduceIte, hsp, ga, lc, hlc, mk, gbG, hlx] | refine WP_drw ?_ | refine cnd_intro (fun hsp => ?_) fun hsp => ?_)
  refine WP_count [(7, 7), (17, 30)] 0 os.length (Nat.zero_le _) (fun _ i fr H => fr 17 = .int .i64 (i : Int) ∧ H = h ++ [srB (cntK os p L.C.length i) 3 0]) ?_ ?_ ?_
  · exact ⟨by (simp (disch := first | exact dschL20 | fail) only [go_sem, ↓reduceIte, Int.natCast_zero]; first | done | rfl), eG⟩
  · rintro i fr H hi0 hi hA2 ⟨r17, eH⟩
    have q0 := hA2 0 rfl
    have q4 := hA2 4 rfl
    have q5 := hA2 5 rfl
    have q15 := hA2 15 rfl
    have q16 := hA2 16 rfl
    try simp (disch := first | exact dschL20 | fail) only [go_sem, ↓reduceIte] at q0 q4 q5 q15 q16
    have hlt : ((i : Int) < (os.length : Int)) = True := eq_true (by omega)
    obtain ⟨o, eo⟩ : ∃ o, o = os[i] := ⟨_, rfl⟩
    have hoi : os[i]? = some o := by rw [eo]; exact List.getElem?_eq_getElem hi
    have hoo := ho o (List.mem_of_getElem? hoi)
    have xH : Ext h H := by rw [eH]; exact .app .refl
    have gH : H[h.length]? = some (srB (cntK os p L.C.length i) 3 0) := by rw [eH]; exact get_eq rfl
    obtain ⟨ea, w, ad, ld, ow⟩ := hA.at (by omega) hoi
    have ld0 := ld H xH
    have oww := ow.one
    have iw := ownE_ints (ow.ext xH) (ord_small hoo (by omega))
    have hpo : p < o.length := by rw [hoo.1]; exact hp
    have ap := adrI (i := (p : Int)) (by omega) iw (by omega)
    rw [Int.toNat_natCast] at ap
    have lp := loadI iw hpo
    have hr := hoo.2.1 _ (getD_mem hpo)
    obtain ⟨c, ec⟩ := Int.eq_ofNat_of_zero_le hr.1
    rw [ec] at lp
    have hcn : c < L.C.length := by omega
    have hcl := cntK_len (os := os) (p := p) (n := L.C.length) (i := i)
    have hbd := cntK_bd (os := os) (p := p) (i := i) hcn
    have ac : indexAddrA prog 25 (.slice (some ⟨h.length, 0, 0⟩) L.C.length L.C.length) (.int .i64 (c : Int)) = some (.ptr (some ⟨h.length, 0, c⟩)) := by
      rw [adr_sl Fc.el25 Fc.ar25 (by omega) (by omega), Int.toNat_natCast, Nat.mul_one, Nat.zero_add]
    obtain ⟨m, em⟩ : ∃ m, m = (cntK os p L.C.length i).getD c 0 := ⟨_, rfl⟩
    have d1 : loadP prog H 3 (.ptr (some ⟨h.length, 0, c⟩)) = some (.int .i64 m) := by
      rw [load_eq, Fc.ty3, gH, em]; exact ldB_ints (by omega)
    have hst : ∀ {F : ABlk → Heap}, stQ base h.length (some (srB (cntK os p L.C.length i) 3 0)) 0 c [.int .i64 (m + 1)] F = some (F (srB (cntK os p L.C.length (i + 1)) 3 0)) := fun {F} => by
      rw [stQ_ints (by omega), em, cntK_step hoi ec hcn]
    have hst2 : ∀ {F : ABlk → Heap}, stQ h.length h.length (some (srB (cntK os p L.C.length i) 3 0)) 0 c [.int .i64 (m + 1)] F = some (F (srB (cntK os p L.C.length (i + 1)) 3 0)) := fun {F} => by
      rw [stQ_ints (by omega), em, cntK_step hoi ec hcn]
    have hset : H.set h.length (srB (cntK os p L.C.length (i + 1)) 3 0) = h ++ [srB (cntK os p L.C.length (i + 1)) 3 0] := by
      rw [eH, List.set_append_right _ _ (Nat.le_refl _), Nat.sub_self]; rfl
    have hmb : 0 ≤ m ∧ m ≤ 823543 := by omega
    have hsp := @Nat.succ_ne_zero; repeat' (first | simp (disch := first | exact dschL20 | fail) only [go_sem, ↓reduceIte, hsp, r17, q0, q4, q5, q15, q16, hlt, ad, ld0, ap, lp, ac, d1, gH, hst2] | refine WP_drw ?_ | refine cnd_intro (fun hsp => ?_) fun hsp => ?_)
    exact ⟨by (repeat first | exact Agree.refl | assumption | refine Agree.put rfl ?_ | refine Agree.put0 ?_ | refine Agree.sub rfl (by assumption) ?_), by omega, hset⟩
  · rintro fr H hA2 ⟨r17, eH⟩
    have q0 := hA2 0 rfl
    have q4 := hA2 4 rfl
    have q5 := hA2 5 rfl
    have q15 := hA2 15 rfl
    have q16 := hA2 16 rfl
    try simp (disch := first | exact dschL20 | fail) only [go_sem, ↓reduceIte] at q0 q4 q5 q15 q16
    have hlt : ((os.length : Int) < (os.length : Int)) = False := eq_false (by omega)
    have gH : H[h.length]? = some (srB (cntK os p L.C.length os.length) 3 0) := by rw [eH]; exact get_eq rfl
    have hs : Small (cntK os p L.C.length os.length) := ⟨by rw [cntK_len]; omega, fun y hy => by
      obtain ⟨k, hk, e⟩ := List.mem_iff_getElem.1 hy
      rw [cntK_len] at hk
      have := cntK_bd (os := os) (p := p) (i := os.length) hk
      rw [getD_at (by rw [cntK_len]; exact hk), e] at this
      omega⟩
    have hI : Ints H (.slice (some ⟨h.length, 0, 0⟩) L.C.length L.C.length) (cntK os p L.C.length os.length) := by
      rw [eH]; exact slice_row rfl (by rw [cntK_len]) hs
    have hgr := fun base => run_greatest (base := base) hI
    rw [cntK_all] at hgr
    have hsp := @Nat.succ_ne_zero; repeat' (first | simp (disch := first | exact dschL20 | fail) only [go_sem, ↓reduceIte, hsp, r17, q0, q4, q5, q15, q16, hlt, hgr] | refine WP_drw ?_ | refine cnd_intro (fun hsp => ?_) fun hsp => ?_)
    exact fI rfl (by rw [eH]; exact .app .refl)
def askE (L : Lac) : Int × Int × Int := if (fndE L).2 = 0 then ((askN L.C.length (fnd L) L.C.length).1, (askN L.C.length (fnd L) L.C.length).2, 0) else (0, 0, (fndE L).2)
end Go.AM
/-
  Contracts: Ask.
-/
namespace Go.AM
open Go.Proofs.Try
theorem dschL21 {p : Prop} (h : p := by first | exact Nat.ne_of_beq_eq_false rfl | assumption | (apply asOne; (first | exact One.int | exact One.bool | assumption | exact Ints.one (by assumption) | exact Rows.one (by assumption) | exact Own.one (by assumption) | exact One.lit ⟨rfl, rfl, rfl⟩)) | (apply asInts; (repeat first | assumption | exact ints_nil | apply Ints.app); done) | (apply asRows; (repeat first | assumption | exact Rows.nil | apply Rows.app); done) | (apply asScal; (first | apply allS1 | apply allS2 | apply allS3 | apply allS4) <;> (first | exact One.int | exact One.bool | assumption | exact Ints.one (by assumption) | exact Rows.one (by assumption) | exact Own.one (by assumption) | exact One.lit ⟨rfl, rfl, rfl⟩)) | exact litT rfl | exact litF rfl | omega | (simp only [List.length_append, List.length_cons, List.length_nil, List.length_set, List.length_reverse]; first | done | omega) | fail) : p := h
attribute [-go_sem] put_ne put_same
attribute [local go_sem ↓] put_if
theorem grt_le {l : List Int} {B : Int} (hB : 0 ≤ B) (h : ∀ x ∈ l, x ≤ B) : 0 ≤ grt l ∧ grt l ≤ B := by
  refine ⟨grt_ge.1, ?_⟩
  unfold grt
  rcases grt_is (l := l) (a := 0) with q | q
  · omega
  · exact h _ q
theorem lvsN_bd {n : Nat} {os : List (List Int)} {p : Nat} (hl : os.length ≤ 823543) : 0 ≤ lvsN n os p ∧ lvsN n os p ≤ 1000000 := by
  unfold lvsN
  refine grt_le (by omega) fun x hx => ?_
  obtain ⟨k, hk, e⟩ := List.mem_iff_getElem.1 hx
  rw [lst_len] at hk
  have : (lst (fun k => ((os.countP fun o => decide (o.getD p 0 = (k : Int)) : Nat) : Int)) n).getD k 0 = x := by rw [getD_at (by rw [lst_len]; exact hk), e]
  rw [lst_get hk] at this
  have h2 : os.countP (fun o => decide (o.getD p 0 = (k : Int))) ≤ os.length := List.countP_le_length
  omega
abbrev lkB (g : AVal) : ABlk := ⟨.cells [g] 155 false false, 0⟩
set_option maxRecDepth 100000 in
set_option maxHeartbeats 2000000 in
theorem run_Ask {base : Nat} {h : Heap} {v : AVal} {L : Lac} (hL : LacAt h v L) :
    callL prog raw base (.fn 61 [] []) [v] h = some (.tuple [.int .i64 (askE L).1, .int .i64 (askE L).2.1, .int .i64 (askE L).2.2], h) := by
  have hL0 := hL
  obtain ⟨cv, rv, rfl, hC, hR⟩ := hL
  have o1 := hC.one
  have o2 := hR.one
  obtain ⟨G0, eG0⟩ : ∃ G0, G0 = h ++ [lacB L.T cv rv] := ⟨_, rfl⟩
  have x0 : Ext h G0 := by rw [eG0]; exact .app .refl
  have g0 : G0[h.length]? = some (lacB L.T cv rv) := by rw [eG0]; exact get_eq rfl
  have l0 : G0.length = h.length + 1 := by rw [eG0]; simp
  obtain ⟨w1, H1, e1, x1, a, x, rfl, oa, hA, hD⟩ := run_found (base := h.length) (h := G0) (by omega) (hL0.ext x0)
  have ox := hA.one
  have l1 := x1.len
  obtain ⟨H2, eH2⟩ : ∃ H2, H2 = H1 ++ [(⟨.cells [a] 132 false false, 0⟩ : ABlk)] := ⟨_, rfl⟩
  obtain ⟨H3, eH3⟩ : ∃ H3, H3 = H2 ++ [lsB x] := ⟨_, rfl⟩
  have x2 : Ext H1 H2 := by rw [eH2]; exact .app .refl
  have x3 : Ext H2 H3 := by rw [eH3]; exact .app .refl
  have l2 : H2.length = H1.length + 1 := by rw [eH2]; simp
  have l3 : H3.length = H1.length + 2 := by rw [eH3]; simp [l2]
  have ga : H3[H1.length]? = some ⟨.cells [a] 132 false false, 0⟩ := x3.get (by rw [eH2]; exact get_eq rfl)
  have gb : H3[H1.length + 1]? = some (lsB x) := by rw [eH3]; exact get_eq l2.symm
  have xh3 := ((x0.trans x1).trans x2).trans x3
  unfold lacB at eG0 g0
  have eH3' := eH3
  unfold lsB at eH3'
  refine callL_run func61 rfl rfl ?_
  by_cases c : (fndE L).2 = 0
  · obtain ⟨c1, c2, c3⟩ := fndE_ok c
    have kn := (chkL_iff.1 c1).n
    have r : askE L = ((askN L.C.length (fnd L) L.C.length).1, (askN L.C.length (fnd L) L.C.length).2, 0) := by unfold askE; rw [if_pos c]
    obtain ⟨id, rfl, hDk⟩ := hD c
    rw [r]
    rw [c3] at hA e1
    have hAI : AllI G0.length H1 x (fnd L) := hA.all
    have hfew := fnd_few (L := L) kn.2
    obtain ⟨H4, eH4⟩ : ∃ H4, H4 = H3 ++ [lkB (.fn 129 [] [.ptr (some ⟨H1.length, 0, 0⟩), .ptr (some ⟨H1.length + 1, 0, 0⟩)])] := ⟨_, rfl⟩
    have x4 : Ext H3 H4 := by rw [eH4]; exact .app .refl
    have l4 : H4.length = H1.length + 3 := by rw [eH4]; simp [l3]
    have g4 : H4[H3.length]? = some (lkB (.fn 129 [] [.ptr (some ⟨H1.length, 0, 0⟩), .ptr (some ⟨H1.length + 1, 0, 0⟩)])) := by rw [eH4]; exact get_eq rfl
    have ga4 := x4.get ga
    have gb4 := x4.get gb
    have x14 := (x2.trans x3).trans x4
    have hD4 := hDk.ext x14
    have hlv := fun base p (hp : p < L.C.length) => run_lvs (base := base) (p := p) ga4 gb4 hD4 kn (hAI.ext x14) hfew (fun o ho => fnd_ord ho) hp
    obtain ⟨cv', rv', hg, hC', -⟩ := hD4
    have lc := ld_cards hg
    have hlc := lenI hC'
    have hlb := fun p => lvsN_bd (n := L.C.length) (p := p) hfew
    unfold lkB at eH4 g4
    have hsp := @Nat.succ_ne_zero; repeat' (first | simp (disch := first | exact dschL21 | fail) only [go_sem, ↓reduceIte, hsp, ← eG0, g0, e1, eq_self, ← eH2, ← eH3', ga, gb, ← eH4, ga4, lc, hlc] | refine WP_drw ?_ | refine cnd_intro (fun hsp => ?_) fun hsp => ?_)
    obtain ⟨A, eA⟩ : ∃ A, A = askN L.C.length (fnd L) := ⟨_, rfl⟩
    rw [← eA]
    refine WP_count [(2, 3), (8, 9), (27, 43)] 0 L.C.length (Nat.zero_le _) (fun _ i fr H => fr 27 = .int .i64 (i : Int) ∧ H = H4 ∧ fr 2 = .int .i64 (A i).1 ∧ fr 3 = .int .i64 (A i).2) ?_ ?_ ?_
    · exact ⟨by (simp (disch := first | exact dschL21 | fail) only [go_sem, ↓reduceIte, Int.natCast_zero]; first | done | rfl), rfl, by rw [eA]; simp (disch := first | exact dschL21 | fail) only [go_sem, ↓reduceIte]; rfl, by rw [eA]; simp (disch := first | exact dschL21 | fail) only [go_sem, ↓reduceIte]; rfl⟩
    · rintro i fr H hi0 hi hA2 ⟨r27, rfl, r2, r3⟩
      have q4 := hA2 4 rfl
      have q7 := hA2 7 rfl
      have q26 := hA2 26 rfl
      try simp (disch := first | exact dschL21 | fail) only [go_sem, ↓reduceIte] at q4 q7 q26
      have hlt : ((i : Int) < (L.C.length : Int)) = True := eq_true (by omega)
      have hlv0 := fun base => hlv base i hi
      obtain ⟨m, em⟩ : ∃ m, m = lvsN L.C.length (fnd L) i := ⟨_, rfl⟩
      rw [← em] at hlv0
      have hs : A (i + 1) = if i = 0 ∨ m < (A i).2 then ((i : Int), m) else A i := by rw [eA, askN, em]
      by_cases q1 : i = 0
      · have t1 : ((i : Int) = 0) = True := eq_true (by omega)
        rw [if_pos (.inl q1)] at hs
        have hsp := @Nat.succ_ne_zero; repeat' (first | simp (disch := first | exact dschL21 | fail) only [go_sem, ↓reduceIte, hsp, r27, r2, r3, q4, q7, q26, hlt, g4, hlv0, t1] | refine WP_drw ?_ | refine cnd_intro (fun hsp => ?_) fun hsp => ?_)
        exact ⟨by (repeat first | exact Agree.refl | assumption | refine Agree.put rfl ?_ | refine Agree.put0 ?_ | refine Agree.sub rfl (by assumption) ?_), by omega, by rw [hs], by rw [hs]⟩
      · have t1 : ((i : Int) = 0) = False := eq_false (by omega)
        by_cases q2 : m < (A i).2
        · have t2 : (m < (A i).2) = True := eq_true q2
          rw [if_pos (.inr q2)] at hs
          have hsp := @Nat.succ_ne_zero; repeat' (first | simp (disch := first | exact dschL21 | fail) only [go_sem, ↓reduceIte, hsp, r27, r2, r3, q4, q7, q26, hlt, g4, hlv0, t1, t2] | refine WP_drw ?_ | refine cnd_intro (fun hsp => ?_) fun hsp => ?_)
          exact ⟨by (repeat first | exact Agree.refl | assumption | refine Agree.put rfl ?_ | refine Agree.put0 ?_ | refine Agree.sub rfl (by assumption) ?_), by omega, by rw [hs], by rw [hs]⟩
        · have t2 : (m < (A i).2) = False := eq_false q2
          rw [if_neg (fun z => z.elim q1 q2)] at hs
          have hsp := @Nat.succ_ne_zero; repeat' (first | simp (disch := first | exact dschL21 | fail) only [go_sem, ↓reduceIte, hsp, r27, r2, r3, q4, q7, q26, hlt, g4, hlv0, t1, t2] | refine WP_drw ?_ | refine cnd_intro (fun hsp => ?_) fun hsp => ?_)
          exact ⟨by (repeat first | exact Agree.refl | assumption | refine Agree.put rfl ?_ | refine Agree.put0 ?_ | refine Agree.sub rfl (by assumption) ?_), by omega, by rw [hs], by rw [hs]⟩
    · rintro fr H hA2 ⟨r27, rfl, r2, r3⟩
      have q4 := hA2 4 rfl
      have q7 := hA2 7 rfl
      have q26 := hA2 26 rfl
      try simp (disch := first | exact dschL21 | fail) only [go_sem, ↓reduceIte] at q4 q7 q26
      have hlt : ((L.C.length : Int) < (L.C.length : Int)) = False := eq_false (by omega)
      have hsp := @Nat.succ_ne_zero; repeat' (first | simp (disch := first | exact dschL21 | fail) only [go_sem, ↓reduceIte, hsp, r27, r2, r3, q4, q7, q26, hlt] | refine WP_drw ?_ | refine cnd_intro (fun hsp => ?_) fun hsp => ?_)
      exact fIII rfl rfl rfl (xh3.trans x4)
  · have t0 : ((fndE L).2 = 0) = False := eq_false c
    have r : askE L = (0, 0, (fndE L).2) := by unfold askE; rw [if_neg c]
    rw [r]
    have hsp := @Nat.succ_ne_zero; repeat' (first | simp (disch := first | exact dschL21 | fail) only [go_sem, ↓reduceIte, hsp, ← eG0, g0, e1, t0, ← eH2, ← eH3'] | refine WP_drw ?_ | refine cnd_intro (fun hsp => ?_) fun hsp => ?_)
    exact fIII rfl rfl rfl xh3
end Go.AM
/-
  Contracts: the chain of the examples, and what the chapter says of it (awake).
-/
namespace Go.AM
open Go.Proofs.Try
theorem dschL22 {p : Prop} (h : p := by first | exact Nat.ne_of_beq_eq_false rfl | assumption | (apply asOne; (first | exact One.int | exact One.bool | assumption | exact Ints.one (by assumption) | exact Rows.one (by assumption) | exact Own.one (by assumption) | exact One.lit ⟨rfl, rfl, rfl⟩)) | (apply asInts; (repeat first | assumption | exact ints_nil | apply Ints.app); done) | (apply asRows; (repeat first | assumption | exact Rows.nil | apply Rows.app); done) | (apply asScal; (first | apply allS1 | apply allS2 | apply allS3 | apply allS4) <;> (first | exact One.int | exact One.bool | assumption | exact Ints.one (by assumption) | exact Rows.one (by assumption) | exact Own.one (by assumption) | exact One.lit ⟨rfl, rfl, rfl⟩)) | exact litT rfl | exact litF rfl | omega | (simp only [List.length_append, List.length_cons, List.length_nil, List.length_set, List.length_reverse]; first | done | omega) | fail) : p := h
attribute [-go_sem] put_ne put_same
attribute [local go_sem ↓] put_if
def rws4 : List Rw3 := [(0, 1, 1), (5, 6, 0), (2, 4, 4), (3, 4, 4)]
def lac4 (r : Nat) : Lac := ⟨3, [1, 2, 3, 4], rws4.take r⟩
theorem bs4 {lit : Bool} {H : Heap} {a b c d : Int} : lit = false → bsA prog lit H 25 4 [(0, .int .i64 a), (1, .int .i64 b), (2, .int .i64 c), (3, .int .i64 d)] = some (.slice (some ⟨H.length, 0, 0⟩) 4 4, H ++ [rowB [a, b, c, d] 0]) := by
  intro hl; subst hl; simp [bsA, rowOf, Fc.el25, fillA, repCells, AVal.isN, AVal.cells, splice, rowB, ints]
theorem bs3 {lit : Bool} {H : Heap} {a b c : Int} : lit = false → bsA prog lit H 25 3 [(0, .int .i64 a), (1, .int .i64 b), (2, .int .i64 c)] = some (.slice (some ⟨H.length, 0, 0⟩) 3 3, H ++ [rowB [a, b, c] 0]) := by
  intro hl; subst hl; simp [bsA, rowOf, Fc.el25, fillA, repCells, AVal.isN, AVal.cells, splice, rowB, ints]
theorem bs5 {lit : Bool} {H : Heap} {a b c d e : Int} : lit = false → bsA prog lit H 25 5 [(0, .int .i64 a), (1, .int .i64 b), (2, .int .i64 c), (3, .int .i64 d), (4, .int .i64 e)] = some (.slice (some ⟨H.length, 0, 0⟩) 5 5, H ++ [rowB [a, b, c, d, e] 0]) := by
  intro hl; subst hl; simp [bsA, rowOf, Fc.el25, fillA, repCells, AVal.isN, AVal.cells, splice, rowB, ints]
theorem bsR4 {lit : Bool} {H : Heap} : bsA prog lit H 42 4 [(0, .agg [.int .i64 0, .int .i64 1, .int .i64 1]), (1, .agg [.int .i64 5, .int .i64 6, .int .i64 0]), (2, .agg [.int .i64 2, .int .i64 4, .int .i64 4]), (3, .agg [.int .i64 3, .int .i64 4, .int .i64 4])] = some (.slice (some ⟨H.length, 0, 0⟩) 4 4, H ++ [rowE encR 70 rws4 0]) := by
  simp [bsA, rowOf, Fc.el42, fillA, repCells, AVal.isN, AVal.cells, splice, rowE, flat, encR, rws4]
theorem bsM2 {lit : Bool} {H : Heap} : bsA prog lit H 33 2 [(0, .agg [.int .i64 1, .int .i64 0]), (1, .agg [.int .i64 3, .int .i64 1])] = some (.slice (some ⟨H.length, 0, 0⟩) 2 2, H ++ [rowE encM 36 [(1, 0), (3, 1)] 0]) := by
  simp [bsA, rowOf, Fc.el33, fillA, repCells, AVal.isN, AVal.cells, splice, rowE, flat, encM]
theorem run_Four {base r : Nat} {h : Heap} (hb : base ≤ h.length) (hr : r ≤ 4) : Ret prog raw base (.fn 95 [] []) [.int .i64 (r : Int)] h (fun w H => Ext h H ∧ LacAt H w (lac4 r)) := by
  obtain ⟨H1, e1⟩ : ∃ H1, H1 = h ++ [lacB 0 (.slice none 0 0) (.slice none 0 0)] := ⟨_, rfl⟩
  obtain ⟨H2, e2⟩ : ∃ H2, H2 = H1 ++ [rowE encR 70 rws4 0] := ⟨_, rfl⟩
  obtain ⟨H3, e3⟩ : ∃ H3, H3 = H2 ++ [rowB [1, 2, 3, 4] 0] := ⟨_, rfl⟩
  have l1 : H1.length = h.length + 1 := by rw [e1]; simp
  have l2 : H2.length = h.length + 2 := by rw [e2]; simp [l1]
  have l3 : H3.length = h.length + 3 := by rw [e3]; simp [l2]
  have x1 : Ext h H1 := by rw [e1]; exact .app .refl
  have x2 : Ext H1 H2 := by rw [e2]; exact .app .refl
  have x3 : Ext H2 H3 := by rw [e3]; exact .app .refl
  have g1 : H3[h.length]? = some (lacB 0 (.slice none 0 0) (.slice none 0 0)) := x3.get (x2.get (by rw [e1]; exact get_eq rfl))
  have g2 : H3[H1.length]? = some (rowE encR 70 rws4 0) := x3.get (by rw [e2]; exact get_eq rfl)
  have g3 : H3[H2.length]? = some (rowB [1, 2, 3, 4] 0) := by rw [e3]; exact get_eq rfl
  have ln : ∀ {H : Heap}, lenOpA prog H 42 (.slice (some ⟨H1.length, 0, 0⟩) 4 4) = some (.int .i64 4) := fun {H} => by simp [lenOpA, Fc.el42, lenA]
  have mn : min (r : Int) 4 = (r : Int) := by omega
  have mx : max 0 (r : Int) = (r : Int) := by omega
  have sl : sliceA prog 42 (.slice (some ⟨H1.length, 0, 0⟩) 4 4) none (some (.int .i64 (r : Int))) none = some (.slice (some ⟨H1.length, 0, 0⟩) r 4) := by
    simp only [sliceA, Fc.ar42, Fc.el42, optB, boundI (show (0 : Int) ≤ (r : Int) by omega) (show (r : Int) ≤ ((4 : Nat) : Int) by omega)]
    simp [ARef.add]
  have hfin : Ext h (H3.set h.length (lacB 3 (.slice (some ⟨H2.length, 0, 0⟩) 4 4) (.slice (some ⟨H1.length, 0, 0⟩) r 4))) ∧ LacAt (H3.set h.length (lacB 3 (.slice (some ⟨H2.length, 0, 0⟩) 4 4) (.slice (some ⟨H1.length, 0, 0⟩) r 4))) (.agg [.int .i64 3, .slice (some ⟨H2.length, 0, 0⟩) 4 4, .slice (some ⟨H1.length, 0, 0⟩) r 4]) (lac4 r) := by
    refine ⟨((x1.trans x2).trans x3).set (Nat.le_refl _), _, _, rfl, ?_, ?_⟩
    · refine ⟨⟨by show ([1, 2, 3, 4] : List Int).length < 2 ^ 60; decide, by show ∀ x ∈ ([1, 2, 3, 4] : List Int), _; decide⟩, .inr (.inr ⟨⟨H2.length, 0, 0⟩, 4, ints [1, 2, 3, 4], 3, true, false, rfl, ?_, rfl, by show 0 + ([1, 2, 3, 4] : List Int).length ≤ 4; decide, by show ([1, 2, 3, 4] : List Int).length ≤ 4; decide⟩)⟩
      rw [List.getElem?_set_ne (by show h.length ≠ H2.length; omega)]; exact g3
    · have hlen : (rws4.take r).length = r := by rw [List.length_take]; exact Nat.min_eq_left hr
      refine ⟨by show (rws4.take r).length < _; omega, .inr (.inr ⟨⟨H1.length, 0, 0⟩, 4, flat encR rws4, 70, true, false, by show _ = AVal.slice _ (rws4.take r).length _; rw [hlen], ?_, ?_, ?_, by show (rws4.take r).length ≤ 4; omega⟩)⟩
      · rw [List.getElem?_set_ne (by show h.length ≠ H1.length; omega)]; exact g2
      · show ((flat encR rws4).drop 0).take ((rws4.take r).length * 3) = flat encR (rws4.take r)
        rw [hlen]
        have : r = 0 ∨ r = 1 ∨ r = 2 ∨ r = 3 ∨ r = 4 := by omega
        rcases this with rfl | rfl | rfl | rfl | rfl <;> rfl
      · show 0 + (rws4.take r).length * 3 ≤ 12
        omega
  unfold lacB at e1 g1 hfin
  refine ret_raw func95 rfl (by kernel_rfl) ?_
  have hsp := @Nat.succ_ne_zero; repeat' (first | simp (disch := first | exact dschL22 | fail) only [go_sem, ↓reduceIte, hsp, ← e1, bsR4, ← e2, bs4, ← e3, ln, mn, mx, sl, g1] | refine WP_drw ?_ | refine cnd_intro (fun hsp => ?_) fun hsp => ?_)
  exact hfin
theorem kw4 : kwnE (lac4 2) = ([2, 0, -1, -1], 0) := by kernel_rfl
theorem cn4 : cntE (lac4 2) = (2, 0) := by kernel_rfl
theorem as4 : askE (lac4 2) = (2, 1, 0) := by kernel_rfl
theorem gp4 : gpsE (lac4 4) [2, 3] = (1, 0) := by kernel_rfl
theorem ri5 : risE [2, 0, 3, 1, 4] = ([0, 2, 4], 0) := by kernel_rfl
theorem mk5 : makE [2, 0, 3, 1, 4] [(1, 0), (3, 1)] = ([0, 1, 2, 3, 4], 0) := by kernel_rfl
end Go.AM
/-
  What the chapter says of its examples (awake).
-/
namespace Go.AM
open Go.Proofs.Try
theorem dschL23 {p : Prop} (h : p := by first | exact Nat.ne_of_beq_eq_false rfl | assumption | (apply asOne; (first | exact One.int | exact One.bool | assumption | exact Ints.one (by assumption) | exact Rows.one (by assumption) | exact Own.one (by assumption) | exact One.lit ⟨rfl, rfl, rfl⟩)) | (apply asInts; (repeat first | assumption | exact ints_nil | apply Ints.app); done) | (apply asRows; (repeat first | assumption | exact Rows.nil | apply Rows.app); done) | (apply asScal; (first | apply allS1 | apply allS2 | apply allS3 | apply allS4) <;> (first | exact One.int | exact One.bool | assumption | exact Ints.one (by assumption) | exact Rows.one (by assumption) | exact Own.one (by assumption) | exact One.lit ⟨rfl, rfl, rfl⟩)) | exact litT rfl | exact litF rfl | omega | (simp only [List.length_append, List.length_cons, List.length_nil, List.length_set, List.length_reverse]; first | done | omega) | fail) : p := h
attribute [-go_sem] put_ne put_same
attribute [local go_sem ↓] put_if
theorem small5 : Small [2, 0, 3, 1, 4] := ⟨by decide, by decide⟩
set_option maxRecDepth 100000 in
set_option maxHeartbeats 4000000 in
theorem run_awake {base : Nat} {h : Heap} : callL prog raw base (.fn 28 [] []) [] h = some (.bool true, h) := by
  obtain ⟨b, eb⟩ : ∃ b, b = h.length := ⟨_, rfl⟩
  obtain ⟨v1, H1, e1, x1, c1⟩ := run_Four (base := h.length) (r := 2) (h := h) (Nat.le_refl _) (by omega)
  have n1 := x1.len
  obtain ⟨_, H2, e2, x2, k1, rfl, o2⟩ := run_Known (base := h.length) (h := H1) (by omega) c1
  rw [kw4] at e2 o2
  have n2 := x2.len
  obtain ⟨v3, H3, e3, x3, c3⟩ := run_Four (base := h.length) (r := 2) (h := H2) (by omega) (by omega)
  have n3 := x3.len
  have e4 := run_Count (base := h.length) c3
  rw [cn4] at e4
  obtain ⟨v5, H5, e5, x5, c5⟩ := run_Four (base := h.length) (r := 2) (h := H3) (by omega) (by omega)
  have n5 := x5.len
  have e6 := run_Ask (base := h.length) c5
  rw [as4] at e6
  obtain ⟨v7, H7, e7, x7, c7⟩ := run_Four (base := h.length) (r := 4) (h := H5) (by omega) (by omega)
  have n7 := x7.len
  obtain ⟨H8, eH8⟩ : ∃ H8, H8 = H7 ++ [rowB [2, 3] 0] := ⟨_, rfl⟩
  have x8 : Ext H7 H8 := by rw [eH8]; exact .app .refl
  have n8 := x8.len
  have e8 := run_Gapes (base := h.length) (gap := [2, 3]) (gv := .slice (some ⟨H7.length, 0, 0⟩) 2 2) (c7.ext x8) (by rw [eH8]; exact slice_row rfl rfl ⟨by decide, by decide⟩)
  rw [gp4] at e8
  obtain ⟨H9, eH9⟩ : ∃ H9, H9 = H8 ++ [rowB [2, 0, 3, 1, 4] 0] := ⟨_, rfl⟩
  have x9 : Ext H8 H9 := by rw [eH9]; exact .app .refl
  have n9 := x9.len
  obtain ⟨_, H10, e10, x10, k2, rfl, o10⟩ := run_Rise (base := h.length) (h := H9) (v := .slice (some ⟨H8.length, 0, 0⟩) 5 5) (o := [2, 0, 3, 1, 4]) (by omega) (by rw [eH9]; exact slice_row rfl rfl small5)
  rw [ri5] at e10 o10
  have n10 := x10.len
  obtain ⟨H11, eH11⟩ : ∃ H11, H11 = H10 ++ [rowB [2, 0, 3, 1, 4] 0] := ⟨_, rfl⟩
  have x11 : Ext H10 H11 := by rw [eH11]; exact .app .refl
  have n11 := x11.len
  obtain ⟨H12, eH12⟩ : ∃ H12, H12 = H11 ++ [rowE encM 36 [(1, 0), (3, 1)] 0] := ⟨_, rfl⟩
  have x12 : Ext H11 H12 := by rw [eH12]; exact .app .refl
  have n12 := x12.len
  obtain ⟨_, H13, e13, x13, k3, rfl, o13⟩ := run_Make (base := h.length) (h := H12) (v := .slice (some ⟨H10.length, 0, 0⟩) 5 5) (mv := .slice (some ⟨H11.length, 0, 0⟩) 2 2) (o := [2, 0, 3, 1, 4]) (ms := [(1, 0), (3, 1)]) (by omega)
    (Ints.ext (by rw [eH11]; exact slice_row rfl rfl small5) x12) (Rows.own (by rw [eH12]; exact get_eq rfl) rfl (by decide)) (by decide)
  rw [mk5] at e13 o13
  have n13 := x13.len
  have ok1 := o2.one
  have ok2 := o10.one
  have ok3 := o13.one
  have i1 : Ints H2 k1 [2, 0, -1, -1] := ownE_ints o2 ⟨by decide, by decide⟩
  have i2 : Ints H10 k2 [0, 2, 4] := own_ints o10 ⟨by decide, by decide⟩
  have i3 : Ints H13 k3 [0, 1, 2, 3, 4] := ownE_ints o13 ⟨by decide, by decide⟩
  have y10 := (x11.trans x12).trans x13
  have y2 := (((((x3.trans x5).trans x7).trans x8).trans x9).trans x10).trans y10
  obtain ⟨K1, eK1⟩ : ∃ K1, K1 = H13 ++ [rowB [2, 0, -1, -1] 0] := ⟨_, rfl⟩
  have z1 : Ext H13 K1 := by rw [eK1]; exact .app .refl
  obtain ⟨K2, eK2⟩ : ∃ K2, K2 = K1 ++ [rowB [0, 2, 4] 0] := ⟨_, rfl⟩
  have z2 : Ext K1 K2 := by rw [eK2]; exact .app .refl
  obtain ⟨K3, eK3⟩ : ∃ K3, K3 = K2 ++ [rowB [0, 1, 2, 3, 4] 0] := ⟨_, rfl⟩
  have z3 : Ext K2 K3 := by rw [eK3]; exact .app .refl
  have q1 := run_eqI (base := h.length) (h := K1) (b := .slice (some ⟨H13.length, 0, 0⟩) 4 4) (m := [2, 0, -1, -1]) (i1.ext (y2.trans z1)) (by rw [eK1]; exact slice_row rfl rfl ⟨by decide, by decide⟩)
  have q2 := run_eqI (base := h.length) (h := K2) (b := .slice (some ⟨K1.length, 0, 0⟩) 3 3) (m := [0, 2, 4]) (i2.ext ((y10.trans z1).trans z2)) (by rw [eK2]; exact slice_row rfl rfl ⟨by decide, by decide⟩)
  have q3 := run_eqI (base := h.length) (h := K3) (b := .slice (some ⟨K2.length, 0, 0⟩) 5 5) (m := [0, 1, 2, 3, 4]) (i3.ext ((z1.trans z2).trans z3)) (by rw [eK3]; exact slice_row rfl rfl ⟨by decide, by decide⟩)
  rw [decide_eq_true rfl] at q1 q2 q3
  have xf : Ext h K3 := ((((x1.trans x2).trans y2).trans z1).trans z2).trans z3
  rw [show ((2 : Nat) : Int) = 2 from rfl] at e1 e3 e5
  rw [show ((4 : Nat) : Int) = 4 from rfl] at e7
  refine callL_run func28 rfl rfl ?_
  have hsp := @Nat.succ_ne_zero; repeat' (first | simp (disch := first | exact dschL23 | fail) only [go_sem, ↓reduceIte, hsp, e1, e2, e3, e4, e5, e6, e7, bs2, ← eH8, e8, bs5, ← eH9, e10, ← eH11, bsM2, ← eH12, e13, eq_self, decide_true, bs4, ← eK1, q1, bs3, ← eK2, q2, ← eK3, q3] | refine WP_drw ?_ | refine cnd_intro (fun hsp => ?_) fun hsp => ?_)
  exact fB rfl xf
end Go.AM
/-
  LaceRisen, walked: what comes ahead of its loops.
-/
namespace Go.AM
open Go.Proofs.Try
attribute [-go_sem] put_ne put_same
attribute [local go_sem ↓] put_if
/-- Two spools, a number from 1 to 7 and an order of so many cards; the other spool is as it was. -/
structure Risn (h H : Heap) (v0 v1 : AVal) (l0 l1 : List Int) (n : Nat) (w : AVal) (o : List Int) : Prop where
  bd : 1 ≤ n ∧ n ≤ 7
  ext : Ext h H
  own : OwnE encI 3 (h.length + 2) H w o
  ord : Ord n o
  len : h.length + 2 ≤ H.length
  q : SpAt H (h.length + 1) v1 l1 0
end Go.AM
/-
  Contracts: a chain that is made, with the order in which its cards really were laced (Made); rows of what is really seen (Rowed).
-/
namespace Go.AM
open Go.Proofs.Try
attribute [-go_sem] put_ne put_same
attribute [local go_sem ↓] put_if
/-- Cards that were made. -/
structure MadeOk (T : Int) (C : List Int) (N : Nat) : Prop where
  tb : 1 ≤ T ∧ T ≤ 8
  n : 1 ≤ C.length ∧ C.length ≤ N
  c : ∀ x ∈ C, 0 ≤ x ∧ x ≤ 2 ^ T.toNat - 1
  d : C.Nodup
end Go.AM
/-
  Contracts: rows of what is really seen (Rowed); what the statements out of numbers begin with.
-/
namespace Go.AM
open Go.Proofs.Try
attribute [-go_sem] put_ne put_same
attribute [local go_sem ↓] put_if
end Go.AM
/-
  What the statements out of numbers begin with; plain facts of what is found.
-/
namespace Go.AM
open Go.Proofs.Try
attribute [-go_sem] put_ne put_same
attribute [local go_sem ↓] put_if
/-- A chain that was made, in its box, with rows of what is really seen. -/
structure Strt (G H : Heap) (id : Nat) (v : AVal) (silk : List Int) (b : Nat) (T : Int) (C : List Int) (R : List Rw3) (o : List Int) (cv rv ov : AVal) (k N most : Nat) : Prop where
  sp : SpE G id v silk k H
  k : k ≤ 1000
  g : H[b]? = some (lacB T cv rv)
  b : G.length ≤ b ∧ b < H.length
  oC : OwnE encI 3 G.length H cv C
  oR : OwnE encR 70 G.length H rv R
  oO : OwnE encI 3 G.length H ov o
  made : MadeOk T C N
  ord : Ord C.length o
  seen : ∀ r ∈ R, SeenOk T C o r
  rl : R.length ≤ most
section
variable {G H : Heap} {id : Nat} {v : AVal} {silk : List Int} {b : Nat} {T : Int} {C : List Int} {R : List Rw3} {o : List Int} {cv rv ov : AVal} {k N most : Nat}
end
/-! ### What is found -/
end Go.AM
/-
  Plain: positions that decide, and looks.
-/
namespace Go.AM
section
variable {n : Nat} {os : List (List Int)} (hn : os.Nodup) (ho : ∀ o ∈ os, Ord n o)
include hn ho
end
/-! ### Rows of what is seen at a position, whole -/
def lookR (L : Lac) (p k : Nat) : Rw3 := ((p : Int), 2 ^ L.T.toNat - 1, L.C.getD k 0)
/-! ### The position that one look should be at -/
/-- The greatest number of the first cards. -/
def lvsK (os : List (List Int)) (p k : Nat) : Int := grt (lst (fun k => (os.countP fun o => decide (o.getD p 0 = (k : Int)) : Nat)) k)
theorem lvsK_all {n : Nat} {os : List (List Int)} {p : Nat} : lvsK os p n = lvsN n os p := rfl
end Go.AM
/-
  LaceSeen, walked.
-/
namespace Go.AM
open Go.Proofs.Try
attribute [-go_sem] put_ne put_same
attribute [local go_sem ↓] put_if
end Go.AM
/-
  LaceDecided, walked.
-/
namespace Go.AM
open Go.Proofs.Try
attribute [-go_sem] put_ne put_same
attribute [local go_sem ↓] put_if
end Go.AM
/-
  What is found of a chain with any rows; rings and gaps that are returned.
-/
namespace Go.AM
open Go.Proofs.Try
attribute [-go_sem] put_ne put_same
attribute [local go_sem ↓] put_if
end Go.AM
/-
  Plain: rows and cards by threads, as the reference has them.
-/
namespace Go.AM
/-- Does a row agree with a card, thread by thread? -/
def agrB (L : Lac) (r : Rw3) (k : Nat) : Bool := (List.range L.T.toNat).all fun t => !r.2.1.toNat.testBit t || ((L.C.getD k 0).toNat.testBit t == r.2.2.toNat.testBit t)
def fitR (L : Lac) (p k : Nat) : Bool := L.R.all fun r => !decide (r.1.toNat % L.C.length = p) || agrB L r k
/-- Does an order explain the rows? -/
def xplB (L : Lac) (o : List Int) : Bool := L.R.all fun r => agrB L r (o.getD (r.1.toNat % o.length) 0).toNat
/-- All orders that explain the rows, as the reference finds them. -/
def allR (L : Lac) : List (List Int) := (ordsF (fun _ _ => true) L.C.length L.C.length []).filter (xplB L)
end Go.AM
/-
  The reference: bounds, sets, threads, lists without a number twice, orders.
-/
namespace Go.AM
open Go.Proofs.Try
theorem dschL56 {p : Prop} (h : p := by first | exact Nat.ne_of_beq_eq_false rfl | assumption | (apply asOne; (first | exact One.int | exact One.bool | assumption | exact Ints.one (by assumption) | exact Rows.one (by assumption) | exact Own.one (by assumption) | exact One.lit ⟨rfl, rfl, rfl⟩)) | (apply asInts; (repeat first | assumption | exact ints_nil | apply Ints.app); done) | (apply asRows; (repeat first | assumption | exact Rows.nil | apply Rows.app); done) | (apply asScal; (first | apply allS1 | apply allS2 | apply allS3 | apply allS4) <;> (first | exact One.int | exact One.bool | assumption | exact Ints.one (by assumption) | exact Rows.one (by assumption) | exact Own.one (by assumption) | exact One.lit ⟨rfl, rfl, rfl⟩)) | exact litT rfl | exact litF rfl | omega | (simp only [List.length_append, List.length_cons, List.length_nil, List.length_set, List.length_reverse]; first | done | omega) | fail) : p := h
attribute [-go_sem] put_ne put_same
attribute [local go_sem ↓] put_if
theorem run_off {base : Nat} {h : Heap} {n lo hi : Int} : callL prog raw base (.fn 97 [] []) [.int .i64 n, .int .i64 lo, .int .i64 hi] h = some (.bool (!decide (lo ≤ n ∧ n ≤ hi)), h) := by
  refine callL_run func97 rfl rfl ?_
  by_cases c : n < lo
  · have t1 : (n < lo) = True := eq_true c
    have hsp := @Nat.succ_ne_zero; repeat' (first | simp (disch := first | exact dschL56 | fail) only [go_sem, ↓reduceIte, hsp, t1] | refine WP_drw ?_ | refine cnd_intro (fun hsp => ?_) fun hsp => ?_)
    exact fB (by rw [decide_eq_false (by omega)]; rfl)
  · have t1 : (n < lo) = False := eq_false c
    by_cases d : n > hi
    · have t2 : (n > hi) = True := eq_true d
      have hsp := @Nat.succ_ne_zero; repeat' (first | simp (disch := first | exact dschL56 | fail) only [go_sem, ↓reduceIte, hsp, t1, t2] | refine WP_drw ?_ | refine cnd_intro (fun hsp => ?_) fun hsp => ?_)
      exact fB (by rw [decide_eq_false (by omega)]; rfl)
    · have t2 : (n > hi) = False := eq_false d
      have hsp := @Nat.succ_ne_zero; repeat' (first | simp (disch := first | exact dschL56 | fail) only [go_sem, ↓reduceIte, hsp, t1, t2] | refine WP_drw ?_ | refine cnd_intro (fun hsp => ?_) fun hsp => ?_)
      exact fB (by rw [decide_eq_true (by omega)]; rfl)
theorem run_sets {base T : Nat} {h : Heap} (hT : T ≤ 20) : callL prog raw base (.fn 98 [] []) [.int .i64 (T : Int)] h = some (.int .i64 ((2 ^ T : Nat) : Int), h) := by
  refine callL_run func98 rfl rfl ?_
  have hsp := @Nat.succ_ne_zero; repeat' (first | simp (disch := first | exact dschL56 | fail) only [go_sem, ↓reduceIte, hsp] | refine WP_drw ?_ | refine cnd_intro (fun hsp => ?_) fun hsp => ?_)
  refine WP_count [(3, 11)] 0 T (Nat.zero_le _) (fun _ i fr H => fr 4 = .int .i64 (i : Int) ∧ fr 3 = .int .i64 ((2 ^ i : Nat) : Int) ∧ H = h) ?_ ?_ ?_
  · exact ⟨by (simp (disch := first | exact dschL56 | fail) only [go_sem, ↓reduceIte, Int.natCast_zero]; first | done | rfl), by simp (disch := first | exact dschL56 | fail) only [go_sem, ↓reduceIte]; rfl, rfl⟩
  · rintro i fr H hi0 hi hA ⟨r4, r3, rfl⟩
    have q0 := hA 0 rfl
    have q2 := hA 2 rfl
    try simp (disch := first | exact dschL56 | fail) only [go_sem, ↓reduceIte] at q0 q2
    have hlt : ((i : Int) < (T : Int)) = True := eq_true (by omega)
    have hp : 2 ^ i ≤ 2 ^ 20 := Nat.pow_le_pow_right (by decide) (by omega)
    have hm : binA prog .mul 3 (.int .i64 2) (.int .i64 ((2 ^ i : Nat) : Int)) = some (.int .i64 ((2 ^ (i + 1) : Nat) : Int)) := by
      rw [Nat.pow_succ]
      generalize 2 ^ i = p at hp
      rw [bin_mul, wrap64 (by omega) (by omega)]
      congr 2; omega
    have hsp := @Nat.succ_ne_zero; repeat' (first | simp (disch := first | exact dschL56 | fail) only [go_sem, ↓reduceIte, hsp, r4, r3, q0, q2, hlt, hm] | refine WP_drw ?_ | refine cnd_intro (fun hsp => ?_) fun hsp => ?_)
    exact ⟨by (repeat first | exact Agree.refl | assumption | refine Agree.put rfl ?_ | refine Agree.put0 ?_ | refine Agree.sub rfl (by assumption) ?_), by omega⟩
  · rintro fr H hA ⟨r4, r3, rfl⟩
    have q0 := hA 0 rfl
    have q2 := hA 2 rfl
    try simp (disch := first | exact dschL56 | fail) only [go_sem, ↓reduceIte] at q0 q2
    have hlt : ((T : Int) < (T : Int)) = False := eq_false (by omega)
    have hsp := @Nat.succ_ne_zero; repeat' (first | simp (disch := first | exact dschL56 | fail) only [go_sem, ↓reduceIte, hsp, r4, r3, q0, q2, hlt] | refine WP_drw ?_ | refine cnd_intro (fun hsp => ?_) fun hsp => ?_)
    exact fI rfl
theorem run_lifts {base x k : Nat} {h : Heap} (hx : x < 4611686018427387904) (hk : k ≤ 100) : callL prog raw base (.fn 99 [] []) [.int .i64 (x : Int), .int .i64 (k : Int)] h = some (.bool (x.testBit k), h) := by
  refine callL_run func99 rfl rfl ?_
  have hsp := @Nat.succ_ne_zero; repeat' (first | simp (disch := first | exact dschL56 | fail) only [go_sem, ↓reduceIte, hsp] | refine WP_drw ?_ | refine cnd_intro (fun hsp => ?_) fun hsp => ?_)
  refine WP_count [(0, 0), (5, 12)] 0 k (Nat.zero_le _) (fun _ i fr H => fr 5 = .int .i64 (i : Int) ∧ fr 0 = .int .i64 ((x / 2 ^ i : Nat) : Int) ∧ H = h) ?_ ?_ ?_
  · exact ⟨by (simp (disch := first | exact dschL56 | fail) only [go_sem, ↓reduceIte, Int.natCast_zero]; first | done | rfl), by simp (disch := first | exact dschL56 | fail) only [go_sem, ↓reduceIte]; simp, rfl⟩
  · rintro i fr H hi0 hi hA ⟨r5, r0, rfl⟩
    have q1 := hA 1 rfl
    have q4 := hA 4 rfl
    try simp (disch := first | exact dschL56 | fail) only [go_sem, ↓reduceIte] at q1 q4
    have hlt : ((i : Int) < (k : Int)) = True := eq_true (by omega)
    have hd : x / 2 ^ i ≤ x := Nat.div_le_self _ _
    have hm : binA prog .quo 3 (.int .i64 ((x / 2 ^ i : Nat) : Int)) (.int .i64 2) = some (.int .i64 ((x / 2 ^ (i + 1) : Nat) : Int)) := by
      rw [show x / 2 ^ (i + 1) = x / 2 ^ i / 2 by rw [Nat.pow_succ, Nat.div_div_eq_div_mul]]
      generalize x / 2 ^ i = y at hd
      show some (AVal.int .i64 (IntKind.i64.wrap ((y : Int).tdiv 2))) = _
      have e : ((y : Int).tdiv 2) = ((y / 2 : Nat) : Int) := rfl
      rw [e, wrap64 (by omega) (by omega)]
    have hsp := @Nat.succ_ne_zero; repeat' (first | simp (disch := first | exact dschL56 | fail) only [go_sem, ↓reduceIte, hsp, r5, r0, q1, q4, hlt, hm] | refine WP_drw ?_ | refine cnd_intro (fun hsp => ?_) fun hsp => ?_)
    exact ⟨by (repeat first | exact Agree.refl | assumption | refine Agree.put rfl ?_ | refine Agree.put0 ?_ | refine Agree.sub rfl (by assumption) ?_), by omega⟩
  · rintro fr H hA ⟨r5, r0, rfl⟩
    have q1 := hA 1 rfl
    have q4 := hA 4 rfl
    try simp (disch := first | exact dschL56 | fail) only [go_sem, ↓reduceIte] at q1 q4
    have hlt : ((k : Int) < (k : Int)) = False := eq_false (by omega)
    have hr := remN (x := ((x / 2 ^ k : Nat) : Int)) (n := 2) (Int.natCast_nonneg _) (by omega)
    rw [Int.toNat_natCast, show ((2 : Nat) : Int) = 2 from rfl] at hr
    have hsp := @Nat.succ_ne_zero; repeat' (first | simp (disch := first | exact dschL56 | fail) only [go_sem, ↓reduceIte, hsp, r5, r0, q1, q4, hlt, hr] | refine WP_drw ?_ | refine cnd_intro (fun hsp => ?_) fun hsp => ?_)
    refine fB ?_
    rw [Nat.testBit_eq_decide_div_mod_eq]
    exact decide_eq_decide.2 (by omega)
set_option maxHeartbeats 1000000 in
theorem run_rtwice {base : Nat} {h : Heap} {v : AVal} {l : List Int} (hI : Ints h v l) : callL prog raw base (.fn 100 [] []) [v] h = some (.bool (twB l), h) := by
  have hlb := hI.1.1
  have ov := hI.one
  have hl := lenI hI
  refine callL_run func100 rfl rfl ?_
  have hsp := @Nat.succ_ne_zero; repeat' (first | simp (disch := first | exact dschL56 | fail) only [go_sem, ↓reduceIte, hsp] | refine WP_drw ?_ | refine cnd_intro (fun hsp => ?_) fun hsp => ?_)
  refine WP_count [(2, 24)] 0 l.length (Nat.zero_le _) (fun _ i fr H => fr 3 = .int .i64 (i : Int) ∧ H = h ∧ (l.take i).Nodup) ?_ ?_ ?_
  · exact ⟨by (simp (disch := first | exact dschL56 | fail) only [go_sem, ↓reduceIte, Int.natCast_zero]; first | done | rfl), rfl, by simp⟩
  · rintro i fr H hi0 hi hA ⟨r3, rfl, hn⟩
    have q0 := hA 0 rfl
    try simp (disch := first | exact dschL56 | fail) only [go_sem, ↓reduceIte] at q0
    have hlt : ((i : Int) < (l.length : Int)) = True := eq_true (by omega)
    have ai := adrI (i := (i : Int)) (by omega) hI (by omega)
    rw [Int.toNat_natCast] at ai
    have li := loadI hI hi
    have hsp := @Nat.succ_ne_zero; repeat' (first | simp (disch := first | exact dschL56 | fail) only [go_sem, ↓reduceIte, hsp, r3, q0, hl, hlt] | refine WP_drw ?_ | refine cnd_intro (fun hsp => ?_) fun hsp => ?_)
    refine WP_count [(2, 2), (4, 24)] 0 i (Nat.zero_le _) (fun _ j fr K => fr 4 = .int .i64 (j : Int) ∧ K = H ∧ ∀ m, m < j → l.getD i 0 ≠ l.getD m 0) ?_ ?_ ?_
    · exact ⟨by (simp (disch := first | exact dschL56 | fail) only [go_sem, ↓reduceIte, Int.natCast_zero]; first | done | rfl), rfl, fun m hm => by omega⟩
    · rintro j fr2 K hj0 hj hA2 ⟨r4, rfl, hd⟩
      have d0 := hA2 0 rfl
      have d3 := hA2 3 rfl
      try simp (disch := first | exact dschL56 | fail) only [go_sem, ↓reduceIte, q0] at d0 d3
      have hlt2 : ((j : Int) < (i : Int)) = True := eq_true (by omega)
      have aj := adrI (i := (j : Int)) (by omega) hI (by omega)
      rw [Int.toNat_natCast] at aj
      have lj := loadI hI (i := j) (by omega)
      by_cases c : l.getD i 0 = l.getD j 0
      · have t1 : (l.getD i 0 = l.getD j 0) = True := eq_true c
        have hsp := @Nat.succ_ne_zero; repeat' (first | simp (disch := first | exact dschL56 | fail) only [go_sem, ↓reduceIte, hsp, r4, r3, d0, d3, q0, hlt2, ai, li, aj, lj, t1] | refine WP_drw ?_ | refine cnd_intro (fun hsp => ?_) fun hsp => ?_)
        refine fB ?_
        unfold twB
        refine (decide_eq_true ?_).symm
        intro hN
        rw [getD_at hi, getD_at (show j < l.length by omega)] at c
        have := nodup_inj hN _ _ c
        omega
      · have t1 : (l.getD i 0 = l.getD j 0) = False := eq_false c
        have hsp := @Nat.succ_ne_zero; repeat' (first | simp (disch := first | exact dschL56 | fail) only [go_sem, ↓reduceIte, hsp, r4, r3, d0, d3, q0, hlt2, ai, li, aj, lj, t1] | refine WP_drw ?_ | refine cnd_intro (fun hsp => ?_) fun hsp => ?_)
        refine ⟨by (repeat first | exact Agree.refl | assumption | refine Agree.put rfl ?_ | refine Agree.put0 ?_ | refine Agree.sub rfl (by assumption) ?_), by omega, fun m hm => ?_⟩
        by_cases e : m = j
        · rw [e]; exact c
        · exact hd m (by omega)
    · rintro fr2 K hA2 ⟨r4, rfl, hd⟩
      have d0 := hA2 0 rfl
      have d3 := hA2 3 rfl
      try simp (disch := first | exact dschL56 | fail) only [go_sem, ↓reduceIte, q0] at d0 d3
      have hlt2 : ((i : Int) < (i : Int)) = False := eq_false (by omega)
      have hsp := @Nat.succ_ne_zero; repeat' (first | simp (disch := first | exact dschL56 | fail) only [go_sem, ↓reduceIte, hsp, r4, r3, d0, d3, q0, hlt2] | refine WP_drw ?_ | refine cnd_intro (fun hsp => ?_) fun hsp => ?_)
      refine ⟨by (repeat first | exact Agree.refl | assumption | refine Agree.put rfl ?_ | refine Agree.put0 ?_ | refine Agree.sub rfl (by assumption) ?_), by omega, ?_⟩
      rw [take_succ' hi, nodup_snoc]
      refine ⟨hn, fun hm => ?_⟩
      obtain ⟨m, hm1, hm2⟩ := List.mem_iff_getElem.1 hm
      rw [List.length_take] at hm1
      rw [List.getElem_take] at hm2
      exact hd m (by omega) (by rw [← hm2, getD_at (show m < l.length by omega)])
  · rintro fr H hA ⟨r3, rfl, hn⟩
    have q0 := hA 0 rfl
    try simp (disch := first | exact dschL56 | fail) only [go_sem, ↓reduceIte] at q0
    have hlt : ((l.length : Int) < (l.length : Int)) = False := eq_false (by omega)
    rw [List.take_length] at hn
    have hsp := @Nat.succ_ne_zero; repeat' (first | simp (disch := first | exact dschL56 | fail) only [go_sem, ↓reduceIte, hsp, r3, q0, hl, hlt] | refine WP_drw ?_ | refine cnd_intro (fun hsp => ?_) fun hsp => ?_)
    exact fB (by unfold twB; rw [decide_eq_false (fun q => q hn)])
theorem run_rordered {base n : Nat} {h : Heap} {v : AVal} {l : List Int} (hI : Ints h v l) (hn : n ≤ 100000) : callL prog raw base (.fn 34 [] []) [v, .int .i64 (n : Int)] h = some (.int .i64 (ordL l n), h) := by
  have hlb := hI.1.1
  have ov := hI.one
  have hl := lenI hI
  have htw := fun base => run_rtwice (base := base) hI
  refine callL_run func34 rfl rfl ?_
  by_cases c : l.length = n
  · have t1 : ((l.length : Int) = (n : Int)) = True := eq_true (by omega)
    have hsp := @Nat.succ_ne_zero; repeat' (first | simp (disch := first | exact dschL56 | fail) only [go_sem, ↓reduceIte, hsp, hl, t1] | refine WP_drw ?_ | refine cnd_intro (fun hsp => ?_) fun hsp => ?_)
    refine WP_count [(4, 21)] 0 n (Nat.zero_le _) (fun _ i fr H => fr 5 = .int .i64 (i : Int) ∧ H = h ∧ (l.take i).all (fun k => decide (0 ≤ k ∧ k ≤ (n : Int) - 1)) = true) ?_ ?_ ?_
    · exact ⟨by (simp (disch := first | exact dschL56 | fail) only [go_sem, ↓reduceIte, Int.natCast_zero]; first | done | rfl), rfl, by simp⟩
    · rintro i fr H hi0 hi hA ⟨r5, rfl, ha⟩
      have q0 := hA 0 rfl
      have q1 := hA 1 rfl
      try simp (disch := first | exact dschL56 | fail) only [go_sem, ↓reduceIte] at q0 q1
      have hlt : ((i : Int) < (n : Int)) = True := eq_true (by omega)
      have ai := adrI (i := (i : Int)) (by omega) hI (by omega)
      rw [Int.toNat_natCast] at ai
      have li := loadI hI (i := i) (by omega)
      have hx : l[i]? = some (l.getD i 0) := getD_some (by omega)
      have ho := fun base => run_off (base := base) (h := H) (n := l.getD i 0) (lo := 0) (hi := (n : Int) - 1)
      by_cases d : 0 ≤ l.getD i 0 ∧ l.getD i 0 ≤ (n : Int) - 1
      · rw [decide_eq_true d] at ho
        have hsp := @Nat.succ_ne_zero; repeat' (first | simp (disch := first | exact dschL56 | fail) only [go_sem, ↓reduceIte, hsp, r5, q0, q1, hlt, ai, li, ho, Bool.not_true] | refine WP_drw ?_ | refine cnd_intro (fun hsp => ?_) fun hsp => ?_)
        exact ⟨by (repeat first | exact Agree.refl | assumption | refine Agree.put rfl ?_ | refine Agree.put0 ?_ | refine Agree.sub rfl (by assumption) ?_), by omega, all_take hx ha (decide_eq_true d)⟩
      · rw [decide_eq_false d] at ho
        have hsp := @Nat.succ_ne_zero; repeat' (first | simp (disch := first | exact dschL56 | fail) only [go_sem, ↓reduceIte, hsp, r5, q0, q1, hlt, ai, li, ho, Bool.not_false] | refine WP_drw ?_ | refine cnd_intro (fun hsp => ?_) fun hsp => ?_)
        refine fI ?_
        unfold ordL
        rw [if_neg (by omega), if_pos (by rw [all_no hx (decide_eq_false d)]; simp)]
    · rintro fr H hA ⟨r5, rfl, ha⟩
      have q0 := hA 0 rfl
      have q1 := hA 1 rfl
      try simp (disch := first | exact dschL56 | fail) only [go_sem, ↓reduceIte] at q0 q1
      have hlt : ((n : Int) < (n : Int)) = False := eq_false (by omega)
      rw [← c, List.take_length] at ha
      have u1 : ¬ ((l.length : Int) ≠ (n : Int)) := by omega
      cases e : twB l with
      | true =>
        rw [e] at htw
        have hsp := @Nat.succ_ne_zero; repeat' (first | simp (disch := first | exact dschL56 | fail) only [go_sem, ↓reduceIte, hsp, r5, q0, q1, hlt, htw] | refine WP_drw ?_ | refine cnd_intro (fun hsp => ?_) fun hsp => ?_)
        refine fI ?_
        unfold ordL
        rw [if_neg u1, if_neg (by rw [← c, ha]; simp), if_pos e]
      | false =>
        rw [e] at htw
        have hsp := @Nat.succ_ne_zero; repeat' (first | simp (disch := first | exact dschL56 | fail) only [go_sem, ↓reduceIte, hsp, r5, q0, q1, hlt, htw] | refine WP_drw ?_ | refine cnd_intro (fun hsp => ?_) fun hsp => ?_)
        refine fI ?_
        unfold ordL
        rw [if_neg u1, if_neg (by rw [← c, ha]; simp), if_neg (by rw [e]; simp)]
  · have t1 : ((l.length : Int) = (n : Int)) = False := eq_false (by omega)
    have hsp := @Nat.succ_ne_zero; repeat' (first | simp (disch := first | exact dschL56 | fail) only [go_sem, ↓reduceIte, hsp, hl, t1] | refine WP_drw ?_ | refine cnd_intro (fun hsp => ?_) fun hsp => ?_)
    refine fI ?_
    unfold ordL
    rw [if_pos (by omega)]
end Go.AM
/-
  The reference: the error of a chain (Check).
-/
namespace Go.AM
open Go.Proofs.Try
attribute [-go_sem] put_ne put_same
attribute [local go_sem ↓] put_if
abbrev rcB (T : Int) (cv rv : AVal) : ABlk := ⟨.cells [.int .i64 T, cv, rv] 49 false false, 0⟩
abbrev rrB (r : Rw3) : ABlk := ⟨.cells [.int .i64 r.1, .int .i64 r.2.1, .int .i64 r.2.2] 79 false false, 0⟩
section
variable {h : Heap} {rv : AVal} {R : List Rw3} {i : Nat} {r : Rw3}
end
theorem setB_off {T x : Int} : (!decide (0 ≤ x ∧ x ≤ 2 ^ T.toNat - 1)) = !setB T x := rfl
end Go.AM
/-
  The reference: rows and cards, cards and positions, orders and rows.
-/
namespace Go.AM
open Go.Proofs.Try
attribute [-go_sem] put_ne put_same
attribute [local go_sem ↓] put_if
end Go.AM
/-
  The reference: all orders, those that explain the rows.
-/
namespace Go.AM
open Go.Proofs.Try
attribute [-go_sem] put_ne put_same
attribute [local go_sem ↓] put_if
section
variable {b : Nat} {H H' : Heap} {v : AVal} {ts : List (List Int)}
/-- Lists in a list that lies behind b, they behind e. -/
def AllX (b e : Nat) (H : Heap) (v : AVal) (ts : List (List Int)) : Prop := ∃ vs : List AVal, Own encZ 25 b H v vs ∧ vs.length = ts.length ∧ ∀ (i : Nat) x t, vs[i]? = some x → ts[i]? = some t → OwnE encI 3 e H x t
end
def allF (n d : Nat) (l : List Int) (k : Int) : List (List Int) := if ((fun (_ _ : Nat) => true) l.length k.toNat && decide (k ∉ l)) = true then ordsF (fun _ _ => true) n d (l ++ [k]) else []
theorem ordsF_all {n d : Nat} {l : List Int} : ordsF (fun _ _ => true) n (d + 1) l = (upto n).flatMap (allF n d l) := rfl
end Go.AM
/-
  The reference: the cards that are sure (Known); a chain as the reference has it (theirs).
-/
namespace Go.AM
open Go.Proofs.Try
attribute [-go_sem] put_ne put_same
attribute [local go_sem ↓] put_if
def kvR (os : List (List Int)) (i q : Nat) : Int := if ((os.take i).all fun x => decide (x.getD q 0 = (os.headD []).getD q 0)) = true then (os.headD []).getD q 0 else -1
def knS (n : Nat) (os : List (List Int)) (i p : Nat) : List Int := lst (fun q => if q < p then kvR os (i + 1) q else kvR os i q) n
end Go.AM
/-
  LaceFinds, walked.
-/
namespace Go.AM
open Go.Proofs.Try
attribute [-go_sem] put_ne put_same
attribute [local go_sem ↓] put_if
end Go.AM
/-
  The reference: gaps.
-/
namespace Go.AM
open Go.Proofs.Try
attribute [-go_sem] put_ne put_same
attribute [local go_sem ↓] put_if
end Go.AM
/-
  The reference: an order along a ring (Turned).
-/
namespace Go.AM
open Go.Proofs.Try
attribute [-go_sem] put_ne put_same
attribute [local go_sem ↓] put_if
end Go.AM
/-
  LaceRings, walked.
-/
namespace Go.AM
open Go.Proofs.Try
attribute [-go_sem] put_ne put_same
attribute [local go_sem ↓] put_if
end Go.AM
/-
  The reference: positions that decide (chosen, before, decides, Decide), what one look leaves (Leaves).
-/
namespace Go.AM
open Go.Proofs.Try
theorem dschL66 {p : Prop} (h : p := by first | exact Nat.ne_of_beq_eq_false rfl | assumption | (apply asOne; (first | exact One.int | exact One.bool | assumption | exact Ints.one (by assumption) | exact Rows.one (by assumption) | exact Own.one (by assumption) | exact One.lit ⟨rfl, rfl, rfl⟩)) | (apply asInts; (repeat first | assumption | exact ints_nil | apply Ints.app); done) | (apply asRows; (repeat first | assumption | exact Rows.nil | apply Rows.app); done) | (apply asScal; (first | apply allS1 | apply allS2 | apply allS3 | apply allS4) <;> (first | exact One.int | exact One.bool | assumption | exact Ints.one (by assumption) | exact Rows.one (by assumption) | exact Own.one (by assumption) | exact One.lit ⟨rfl, rfl, rfl⟩)) | exact litT rfl | exact litF rfl | omega | (simp only [List.length_append, List.length_cons, List.length_nil, List.length_set, List.length_reverse]; first | done | omega) | fail) : p := h
attribute [-go_sem] put_ne put_same
attribute [local go_sem ↓] put_if
set_option maxHeartbeats 1000000 in
theorem run_chosen {base n s : Nat} {h : Heap} (hb : base ≤ h.length) (hs : s < 2 ^ 20) (hn : n ≤ 20) :
    Ret prog raw base (.fn 126 [] []) [.int .i64 (s : Int), .int .i64 (n : Int)] h (fun v H => Ext h H ∧ Own encI 3 h.length H v (memS n s)) := by
  refine ret_raw func126 rfl (by kernel_rfl) ?_
  have hsp := @Nat.succ_ne_zero; repeat' (first | simp (disch := first | exact dschL66 | fail) only [go_sem, ↓reduceIte, hsp] | refine WP_drw ?_ | refine cnd_intro (fun hsp => ?_) fun hsp => ?_)
  refine WP_count [(5, 18)] 0 n (Nat.zero_le _) (fun _ i fr h' => fr 6 = .int .i64 (i : Int) ∧ Ext h h' ∧ ∃ v, fr 5 = v ∧ Own encI 3 h.length h' v (memS i s)) ?_ ?_ ?_
  · exact ⟨by (simp (disch := first | exact dschL66 | fail) only [go_sem, ↓reduceIte, Int.natCast_zero]; first | done | rfl), .refl, .slice none 0 0, by simp (disch := first | exact dschL66 | fail) only [go_sem, ↓reduceIte], Own.nil⟩
  · rintro i fr K hi0 hi hA ⟨r6, xK, v, r5, hO⟩
    have q0 := hA 0 rfl
    have q1 := hA 1 rfl
    have q4 := hA 4 rfl
    try simp (disch := first | exact dschL66 | fail) only [go_sem, ↓reduceIte] at q0 q1 q4
    have hlt : ((i : Int) < (n : Int)) = True := eq_true (by omega)
    have hKl := xK.len
    have hml := memS_len (n := i) (s := s)
    have hlf := fun base => run_lifts (base := base) (h := K) (x := s) (k := i) (by omega) (by omega)
    cases htb : s.testBit i with
    | true =>
      rw [htb] at hlf
      obtain ⟨v', h', ea, hO', hle, hE, h1'⟩ := hO.append1 (y := (i : Int)) (base := base) (t := 25) rfl rfl Fc.el25 encI_sc (by omega) hKl (by omega)
      have hsp := @Nat.succ_ne_zero; repeat' (first | simp (disch := first | exact dschL66 | fail) only [go_sem, ↓reduceIte, hsp, r6, r5, q0, q1, q4, hlt, hlf, ea] | refine WP_drw ?_ | refine cnd_intro (fun hsp => ?_) fun hsp => ?_)
      refine ⟨by (repeat first | exact Agree.refl | assumption | refine Agree.put rfl ?_ | refine Agree.put0 ?_ | refine Agree.sub rfl (by assumption) ?_), by omega, hE _ (Nat.le_refl _) xK, v', rfl, ?_⟩
      rw [memS_succ, if_pos (by rw [htb])]
      exact hO'
    | false =>
      rw [htb] at hlf
      have hsp := @Nat.succ_ne_zero; repeat' (first | simp (disch := first | exact dschL66 | fail) only [go_sem, ↓reduceIte, hsp, r6, r5, q0, q1, q4, hlt, hlf] | refine WP_drw ?_ | refine cnd_intro (fun hsp => ?_) fun hsp => ?_)
      refine ⟨by (repeat first | exact Agree.refl | assumption | refine Agree.put rfl ?_ | refine Agree.put0 ?_ | refine Agree.sub rfl (by assumption) ?_), by omega, xK, v, rfl, ?_⟩
      rw [memS_succ, if_neg (by rw [htb]; decide), List.append_nil]
      exact hO
  · rintro fr K hA ⟨r6, xK, v, r5, hO⟩
    have q0 := hA 0 rfl
    have q1 := hA 1 rfl
    have q4 := hA 4 rfl
    try simp (disch := first | exact dschL66 | fail) only [go_sem, ↓reduceIte] at q0 q1 q4
    have hlt : ((n : Int) < (n : Int)) = False := eq_false (by omega)
    have hsp := @Nat.succ_ne_zero; repeat' (first | simp (disch := first | exact dschL66 | fail) only [go_sem, ↓reduceIte, hsp, r6, r5, q0, q1, q4, hlt] | refine WP_drw ?_ | refine cnd_intro (fun hsp => ?_) fun hsp => ?_)
    exact ⟨xK, hO⟩
set_option maxHeartbeats 1000000 in
theorem run_before {base : Nat} {h : Heap} {av bv : AVal} {a b : List Int} (hA0 : Ints h av a) (hB0 : Ints h bv b) :
    callL prog raw base (.fn 127 [] []) [av, bv] h = some (.bool (btL a b), h) := by
  have o1 := hA0.one
  have o2 := hB0.one
  have la := lenI hA0
  have lb := lenI hB0
  have ba := hA0.1.1
  have bb := hB0.1.1
  refine callL_run func127 rfl rfl ?_
  by_cases c : a.length = b.length
  · have t1 : ((a.length : Int) = (b.length : Int)) = True := eq_true (by omega)
    have r : btL a b = lexB a b := by unfold btL; rw [decide_eq_false (by omega), decide_eq_true c]; rfl
    rw [r]
    have hsp := @Nat.succ_ne_zero; repeat' (first | simp (disch := first | exact dschL66 | fail) only [go_sem, ↓reduceIte, hsp, la, lb, t1, not_true, decide_false] | refine WP_drw ?_ | refine cnd_intro (fun hsp => ?_) fun hsp => ?_)
    refine WP_count [(4, 39)] 0 a.length (Nat.zero_le _) (fun H0 i fr h' => fr 5 = .int .i64 (i : Int) ∧ h' = H0 ∧ lexB a b = lexB (a.drop i) (b.drop i)) ?_ ?_ ?_
    · exact ⟨by (simp (disch := first | exact dschL66 | fail) only [go_sem, ↓reduceIte, Int.natCast_zero]; first | done | rfl), rfl, rfl⟩
    · rintro i fr H hi0 hi hA ⟨r5, eH, hx⟩
      subst eH
      have p0 := hA 0 rfl
      have p1 := hA 1 rfl
      try simp (disch := first | exact dschL66 | fail) only [go_sem, ↓reduceIte] at p0 p1
      have hlt : ((i : Int) < (a.length : Int)) = True := eq_true (by omega)
      have hlb : i < b.length := by omega
      have da : a.drop i = a.getD i 0 :: a.drop (i + 1) := by rw [List.drop_eq_getElem_cons hi, getD_at hi]
      have db : b.drop i = b.getD i 0 :: b.drop (i + 1) := by rw [List.drop_eq_getElem_cons hlb, getD_at hlb]
      have ai := adrI (i := (i : Int)) (by omega) hA0 (by omega)
      have bi := adrI (i := (i : Int)) (by omega) hB0 (by omega)
      rw [Int.toNat_natCast] at ai bi
      have lai := loadI hA0 hi
      have lbi := loadI hB0 hlb
      rw [da, db] at hx
      simp only [lexB] at hx
      by_cases c1 : a.getD i 0 = b.getD i 0
      · have t2 : (a.getD i 0 = b.getD i 0) = True := eq_true c1
        rw [if_pos c1] at hx
        have hsp := @Nat.succ_ne_zero; repeat' (first | simp (disch := first | exact dschL66 | fail) only [go_sem, ↓reduceIte, hsp, r5, p0, p1, hlt, ai, bi, lai, lbi, t2, not_true, decide_false] | refine WP_drw ?_ | refine cnd_intro (fun hsp => ?_) fun hsp => ?_)
        exact ⟨by (repeat first | exact Agree.refl | assumption | refine Agree.put rfl ?_ | refine Agree.put0 ?_ | refine Agree.sub rfl (by assumption) ?_), by omega, hx⟩
      · have t2 : (a.getD i 0 = b.getD i 0) = False := eq_false c1
        rw [if_neg c1] at hx
        rw [hx]
        have hsp := @Nat.succ_ne_zero; repeat' (first | simp (disch := first | exact dschL66 | fail) only [go_sem, ↓reduceIte, hsp, r5, p0, p1, hlt, ai, bi, lai, lbi, t2, not_false_iff, decide_true] | refine WP_drw ?_ | refine cnd_intro (fun hsp => ?_) fun hsp => ?_)
        exact fB rfl
    · rintro fr H hA ⟨r5, eH, hx⟩
      subst eH
      have p0 := hA 0 rfl
      have p1 := hA 1 rfl
      try simp (disch := first | exact dschL66 | fail) only [go_sem, ↓reduceIte] at p0 p1
      have hlt : ((a.length : Int) < (a.length : Int)) = False := eq_false (by omega)
      rw [List.drop_length] at hx
      simp only [lexB] at hx
      rw [hx]
      have hsp := @Nat.succ_ne_zero; repeat' (first | simp (disch := first | exact dschL66 | fail) only [go_sem, ↓reduceIte, hsp, r5, p0, p1, hlt] | refine WP_drw ?_ | refine cnd_intro (fun hsp => ?_) fun hsp => ?_)
      exact fB rfl
  · have t1 : ((a.length : Int) = (b.length : Int)) = False := eq_false (by omega)
    have hsp := @Nat.succ_ne_zero; repeat' (first | simp (disch := first | exact dschL66 | fail) only [go_sem, ↓reduceIte, hsp, la, lb, t1, not_false_iff, decide_true] | refine WP_drw ?_ | refine cnd_intro (fun hsp => ?_) fun hsp => ?_)
    refine fB ?_
    unfold btL
    rw [decide_eq_false c, Bool.false_and, Bool.or_false]
    exact decide_eq_decide.2 (by omega)
/-! ### Leaves -/
def lvsR (os : List (List Int)) (p : Nat) : Nat → Int
  | 0 => 0
  | i + 1 => max (lvsR os p i) ((os.countP fun o => decide ((os.getD i []).getD p 0 = o.getD p 0) : Nat) : Int)
/-! ### Decide -/
end Go.AM
/-
  LaceAsks, walked.
-/
namespace Go.AM
open Go.Proofs.Try
attribute [-go_sem] put_ne put_same
attribute [local go_sem ↓] put_if
end Go.AM
/-
  A slice of one's own is cleared.
-/
namespace Go.AM
open Go.Proofs.Try
section
variable {α β : Type} {E : Enc α} {E2 : Enc β} {e e2 t : TypeId} {b base : Nat} {H G : Heap} {v w x : AVal} {l m : List α} {l2 : List β} {zs : List AVal}
end
end Go.AM
/-
  LaceChecks, walked.
-/
namespace Go.AM
open Go.Proofs.Try
attribute [-go_sem] put_ne put_same
attribute [local go_sem ↓] put_if
end Go.AM
