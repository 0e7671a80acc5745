/-
  Contracts: rows of what is really seen (Rowed); what the statements out of numbers begin with.
-/
import Derived.Test.YteanoaejoddnbaaU17
set_option linter.unusedSimpArgs false
set_option linter.unusedVariables false
namespace Go.AM
open Go.Proofs.Try
theorem dschL49 {p : Prop} (h : p := by first | exact Nat.ne_of_beq_eq_false rfl | assumption | (apply asOne; (first | exact One.int | exact One.bool | assumption | exact Ints.one (by assumption) | exact Rows.one (by assumption) | exact Own.one (by assumption) | exact One.lit ⟨rfl, rfl, rfl⟩)) | (apply asSp; (repeat first | assumption | apply SpAt.set | (refine SpAt.new ?_ (by (first | rfl | (simp only [List.length_append, List.length_cons, List.length_nil, List.length_set]; done) | (simp only [List.length_append, List.length_cons, List.length_nil, List.length_set]; omega)))) | apply SpAt.app | apply Bytes.app); done) | (apply asBytes; (repeat first | assumption | apply Bytes.app); done) | (apply asInts; (repeat first | assumption | exact ints_nil | apply Ints.app); done) | (apply asRows; (repeat first | assumption | exact Rows.nil | apply Rows.app); done) | (apply asScal; (first | apply allS1 | apply allS2 | apply allS3 | apply allS4) <;> (first | exact One.int | exact One.bool | assumption | exact Ints.one (by assumption) | exact Rows.one (by assumption) | exact Own.one (by assumption) | exact One.lit ⟨rfl, rfl, rfl⟩)) | exact litT rfl | exact litF rfl | omega | (simp only [List.length_append, List.length_cons, List.length_nil, List.length_set, List.length_reverse]; first | done | omega) | fail) : p := h
attribute [-go_sem] put_ne put_same
attribute [local go_sem ↓] put_if
theorem stL49 {base : Nat} {l : List Oper} {s : St} {Q : AExit → St → Prop} : WP prog raw base (.region 4 l.toArray true) s Q = WPS prog raw base (.region 4 l.toArray true) s Q := WP_stop
attribute [local go_sem ↓ 3000] stL49
set_option maxRecDepth 100000 in
set_option maxHeartbeats 4000000 in
theorem run_Rowed {base id k0 N most : Nat} {h : Heap} {v cv ov : AVal} {silk C o : List Int} {T : Int} (hb : base ≤ h.length) (hS : SpAt h id v silk k0) (hk : k0 ≤ 100000) (hC : OwnE encI 3 0 h cv C) (hO : OwnE encI 3 0 h ov o) (hm : MadeOk T C N) (hN : N ≤ 7) (ho : Ord C.length o) (hmo : most ≤ 12) :
    Ret prog raw base (.fn 45 [] []) [.ptr (some ⟨id, 0, 0⟩), .agg [.int .i64 T, cv, .slice none 0 0], ov, .int .i64 (most : Int)] h (fun w H => ∃ R rv k', w = .agg [.int .i64 T, cv, rv] ∧ (k0 ≤ k' ∧ k' ≤ k0 + 100) ∧ SpE h id v silk k' H ∧ Own encR 70 h.length H rv R ∧ R.length ≤ most ∧ ∀ r ∈ R, SeenOk T C o r) := by
  have hid := lt_of_get hS.1
  have oc := hC.one
  have oo := hO.one
  obtain ⟨hm1, hm2, hm3, hm4⟩ := hm
  obtain ⟨G, eG⟩ : ∃ G, G = h ++ [lacB T cv (.slice none 0 0)] ++ [lacB 0 (.slice none 0 0) (.slice none 0 0)] := ⟨_, rfl⟩
  have xG : Ext h G := by rw [eG]; exact .app (.app .refl)
  have lG : G.length = h.length + 2 := by rw [eG]; simp
  have c0 : G[h.length]? = some (lacB T cv (.slice none 0 0)) := by rw [eG]; exact get_app (get_eq rfl)
  have g0 : G[h.length + 1]? = some (lacB 0 (.slice none 0 0) (.slice none 0 0)) := by rw [eG]; exact get_eq (by simp)
  have b1 := up_bd (silk := silk) (k := k0) (n := (most : Int)) (by omega)
  have f1 := fun base => run_upto (base := base) (n := (most : Int)) (hS.ext xG) (by omega) (by omega)
  obtain ⟨M, eM⟩ := Int.eq_ofNat_of_zero_le b1.1
  rw [eM] at f1 b1
  obtain ⟨G1, eG1⟩ : ∃ G1, G1 = G.set id (spB v silk (k0 + 1)) := ⟨_, rfl⟩
  rw [← eG1] at f1
  have q1 : SpE h id v silk (k0 + 1) G1 := by rw [eG1]; exact ((SpE.refl hS).ext xG).step hid
  have l1 : G1.length = h.length + 2 := by rw [eG1, List.length_set, lG]
  have c1 : G1[h.length]? = some (lacB T cv (.slice none 0 0)) := by rw [eG1, List.getElem?_set_ne (by omega)]; exact c0
  have g1 : G1[h.length + 1]? = some (lacB 0 (.slice none 0 0) (.slice none 0 0)) := by rw [eG1, List.getElem?_set_ne (by omega)]; exact g0
  have eG' := eG
  unfold lacB at eG'
  refine ret_raw func45 rfl (by kernel_rfl) ?_
  have hsp := @Nat.succ_ne_zero; repeat' (first | simp (disch := first | exact dschL49 | fail) only [go_sem, ↓reduceIte, hsp, ← eG', f1] | refine WP_drw ?_ | refine cnd_intro (fun hsp => ?_) fun hsp => ?_)
  refine WP_count [(12, 27)] 0 M (Nat.zero_le _) (fun _ i fr K => fr 12 = .int .i64 (i : Int) ∧ ∃ R rv k', (k0 ≤ k' ∧ k' = k0 + 1 + 4 * i) ∧ SpE h id v silk k' K ∧ K[h.length]? = some (lacB T cv rv) ∧ K[h.length + 1]? = some (lacB 0 (.slice none 0 0) (.slice none 0 0)) ∧ Own encR 70 (h.length + 2) K rv R ∧ R.length = i ∧ (∀ r ∈ R, SeenOk T C o r) ∧ h.length + 2 ≤ K.length) ?_ ?_ ?_
  · exact ⟨by (simp (disch := first | exact dschL49 | fail) only [go_sem, ↓reduceIte, Int.natCast_zero]; first | done | rfl), [], _, k0 + 1, by omega, q1, c1, g1, Own.nil, rfl, by simp, by omega⟩
  · rintro i fr K hi0 hi hA ⟨r12, R, rv, k', hk', xK, cK, gK, oR, hRl, hRs, lK⟩
    have p0 := hA 0 rfl
    have p2 := hA 2 rfl
    have p5 := hA 5 rfl
    have p8 := hA 8 rfl
    have p11 := hA 11 rfl
    try simp (disch := first | exact dschL49 | fail) only [go_sem, ↓reduceIte] at p0 p2 p5 p8 p11
    have hlt : ((i : Int) < (M : Int)) = True := eq_true (by omega)
    have orr := oR.one
    have hlr : lenOpA prog K 42 rv = some (.int .i64 (i : Int)) := by rw [← hRl]; exact own_len oR Fc.el42 (by omega)
    have t12 : ((i : Int) < 12) = True := eq_true (by omega)
    have hSK := xK.at hS
    have hCK := hC.spE hS xK
    have hOK := hO.spE hS xK
    obtain ⟨r, er, hr⟩ := run_Seen hSK (by omega) hCK orr hOK (by omega) hm1 hm3 ho (by omega)
    obtain ⟨K1, eK1⟩ : ∃ K1, K1 = K.set id (spB v silk (k' + 4)) := ⟨_, rfl⟩
    rw [← eK1] at er
    have xK1 : SpE h id v silk (k' + 4) K1 := by rw [eK1]; exact xK.step hid
    have cK1 : K1[h.length]? = some (lacB T cv rv) := by rw [eK1, List.getElem?_set_ne (by omega)]; exact cK
    have gK1 : K1[h.length + 1]? = some (lacB 0 (.slice none 0 0) (.slice none 0 0)) := by rw [eK1, List.getElem?_set_ne (by omega)]; exact gK
    have lK1 : K1.length = K.length := by rw [eK1, List.length_set]
    have oR1 : Own encR 70 (h.length + 2) K1 rv R := by rw [eK1]; exact oR.set (by omega)
    obtain ⟨w', K2, ea, oW, lW, eW2, oneW, kW⟩ := snocR (base := base) (r := r) (.inl oR1) (by omega) (by omega) (by omega)
    have cK2 := kW.box cK1
    have gK2 := kW.box gK1
    have xK2 : SpE h id v silk (k' + 4) K2 := eW2 _ (by rw [List.length_set]; omega) xK1
    have hlow : refsLow K.length rv := oR.low_refs
    unfold lacB at cK cK1 cK2
    have hsp := @Nat.succ_ne_zero; repeat' (first | simp (disch := first | exact dschL49 | fail) only [go_sem, ↓reduceIte, hsp, r12, p0, p2, p5, p8, p11, hlt, cK, hlr, t12] | refine WP_drw ?_ | refine cnd_intro (fun hsp => ?_) fun hsp => ?_)
    refine WPS_go ?_
    refine WP_wild [⟨1, 42, 18, ⟨h.length, 0, 2⟩, rv, 7⟩] (by kernel_rfl) (by kernel_rfl) (by kernel_rfl) ⟨hlow, trivial⟩ fun K3 hK => ?_
    iterate 10
      rw [TRS_cons]
      refine ⟨by first | (simp (disch := first | exact dschL49 | fail) only [go_sem, ↓reduceIte, p0, p2, p5, p8, p11, cK, er, cK1, bsR1, ea, cK2, ldsQ_cons, ldsQ_nil, grdQ_cons, grdQ_nil, if_true, Nat.reduceLeDiff]; done) | exact trivial, ?_⟩
      simp (disch := first | exact dschL49 | fail) only [go_sem, ↓reduceIte, p0, p2, p5, p8, p11, cK, er, cK1, bsR1, ea, cK2]
    rw [TRS_nil]
    refine ⟨by first | (simp (disch := first | exact dschL49 | fail) only [go_sem, ↓reduceIte, p0, p2, p5, p8, p11, cK, er, cK1, bsR1, ea, cK2, ldsQ_cons, ldsQ_nil, grdQ_cons, grdQ_nil, if_true, Nat.reduceLeDiff]; done) | exact trivial, ?_⟩
    subst hK
    have hsp := @Nat.succ_ne_zero; repeat' (first | simp (disch := first | exact dschL49 | fail) only [go_sem, ↓reduceIte, hsp, r12, p0, p2, p5, p8, p11] | refine WP_drw ?_ | refine cnd_intro (fun hsp => ?_) fun hsp => ?_)
    refine ⟨by (repeat first | exact Agree.refl | assumption | refine Agree.put rfl ?_ | refine Agree.put0 ?_ | refine Agree.sub rfl (by assumption) ?_), by omega, R ++ [r], w', k' + 4, by omega, Ext.set xK2 (by rw [List.length_set]; omega), rfl, gK2, Own.setBox oW cK2, by simp [hRl], fun y hy => ?_, by omega⟩
    rcases List.mem_append.1 hy with hy | hy
    · exact hRs y hy
    · rw [List.mem_singleton] at hy; rw [hy]; exact hr
  · rintro fr K hA ⟨r12, R, rv, k', hk', xK, cK, gK, oR, hRl, hRs, lK⟩
    have p0 := hA 0 rfl
    have p2 := hA 2 rfl
    have p5 := hA 5 rfl
    have p8 := hA 8 rfl
    have p11 := hA 11 rfl
    try simp (disch := first | exact dschL49 | fail) only [go_sem, ↓reduceIte] at p0 p2 p5 p8 p11
    have hlt : ((M : Int) < (M : Int)) = False := eq_false (by omega)
    have orr := oR.one
    unfold lacB at cK gK
    have hsp := @Nat.succ_ne_zero; repeat' (first | simp (disch := first | exact dschL49 | fail) only [go_sem, ↓reduceIte, hsp, r12, p0, p2, p5, p8, p11, hlt, cK, gK] | refine WP_drw ?_ | refine cnd_intro (fun hsp => ?_) fun hsp => ?_)
    exact ⟨R, rv, _, rfl, by omega, Ext.set xK (by rw [List.length_set]; omega), (oR.setBox gK).low (by omega), by omega, hRs⟩
end Go.AM
/-
  What the statements out of numbers begin with; plain facts of what is found.
-/
namespace Go.AM
open Go.Proofs.Try
attribute [-go_sem] put_ne put_same
attribute [local go_sem ↓] put_if
/-- A chain that was made, in its box, with rows of what is really seen. -/
structure Strt (G H : Heap) (id : Nat) (v : AVal) (silk : List Int) (b : Nat) (T : Int) (C : List Int) (R : List Rw3) (o : List Int) (cv rv ov : AVal) (k N most : Nat) : Prop where
  sp : SpE G id v silk k H
  k : k ≤ 1000
  g : H[b]? = some (lacB T cv rv)
  b : G.length ≤ b ∧ b < H.length
  oC : OwnE encI 3 G.length H cv C
  oR : OwnE encR 70 G.length H rv R
  oO : OwnE encI 3 G.length H ov o
  made : MadeOk T C N
  ord : Ord C.length o
  seen : ∀ r ∈ R, SeenOk T C o r
  rl : R.length ≤ most
section
variable {G H : Heap} {id : Nat} {v : AVal} {silk : List Int} {b : Nat} {T : Int} {C : List Int} {R : List Rw3} {o : List Int} {cv rv ov : AVal} {k N most : Nat}
theorem Strt.lac (x : Strt G H id v silk b T C R o cv rv ov k N most) (hN : N ≤ 7) (hm : most ≤ 12) : chkL ⟨T, C, R⟩ = 0 := chkL_iff.2 (x.made.lac hN (by have := x.rl; omega) x.seen)
theorem Strt.xpl (x : Strt G H id v silk b T C R o cv rv ov k N most) : o ∈ fnd ⟨T, C, R⟩ := fnd_mem.2 ⟨x.ord, x.made.xpl x.ord x.seen⟩
theorem Strt.own (x : Strt G H id v silk b T C R o cv rv ov k N most) : OwnC G.length H (.agg [.int .i64 T, cv, rv]) ⟨T, C, R⟩ := ⟨cv, rv, rfl, x.oC, x.oR⟩
theorem Strt.at (x : Strt G H id v silk b T C R o cv rv ov k N most) (hN : N ≤ 7) (hm : most ≤ 12) : LacAt H (.agg [.int .i64 T, cv, rv]) ⟨T, C, R⟩ := x.own.at (lac_small (x.lac hN hm)) (by have := x.rl; simp only; omega)
theorem Strt.ints (x : Strt G H id v silk b T C R o cv rv ov k N most) (hN : N ≤ 7) : Ints H ov o := ownE_ints x.oO (ord_small x.ord (by have := x.made.n; omega))
theorem Strt.bd (x : Strt G H id v silk b T C R o cv rv ov k N most) : 1 ≤ C.length ∧ C.length ≤ N := x.made.n
end
set_option maxHeartbeats 1000000 in
theorem run_start {base id k0 N most : Nat} {G : Heap} {v : AVal} {silk : List Int} (hb : base ≤ G.length) (hS : SpAt G id v silk k0) (hk : k0 ≤ 100) (hN : 1 ≤ N ∧ N ≤ 7) (hm : most ≤ 12) :
    ∃ H1 H2 T C R o cv rv ov k, callL prog raw base (.fn 44 [] []) [.ptr (some ⟨id, 0, 0⟩), .int .i64 (N : Int)] G = some (.tuple [.agg [.int .i64 T, cv, .slice none 0 0], ov], H1) ∧
      callL prog raw base (.fn 45 [] []) [.ptr (some ⟨id, 0, 0⟩), .agg [.int .i64 T, cv, .slice none 0 0], ov, .int .i64 (most : Int)] (H1 ++ [lacB T cv (.slice none 0 0)]) = some (.agg [.int .i64 T, cv, rv], H2) ∧
      One cv ∧ One ov ∧ One rv ∧ H2[H1.length]? = some (lacB T cv (.slice none 0 0)) ∧ G.length ≤ H1.length ∧ Strt G (H2.set H1.length (lacB T cv rv)) id v silk H1.length T C R o cv rv ov k N most := by
  have hid := lt_of_get hS.1
  obtain ⟨_, H1, e1, T, C, o, cv, ov, k1, rfl, hk1, q1, oC, oO, mk, ho⟩ := run_Made (base := base) (N := N) hb hS (by omega) hN
  have l1 := q1.len
  obtain ⟨B, eB⟩ : ∃ B, B = H1 ++ [lacB T cv (.slice none 0 0)] := ⟨_, rfl⟩
  have xB : Ext H1 B := by rw [eB]; exact .app .refl
  have lB' : B.length = H1.length + 1 := by rw [eB]; simp
  have gB : B[H1.length]? = some (lacB T cv (.slice none 0 0)) := by rw [eB]; exact get_eq rfl
  have qB := q1.ext xB
  obtain ⟨_, H2, e2, R, rv, k2, rfl, hk2, q2, oR, hRl, hRs⟩ := run_Rowed (base := base) (h := B) (most := most) (by omega) (qB.at hS) (by omega) ((OwnE.ext (.inl oC) xB).low (Nat.zero_le _)) ((oO.ext xB).low (Nat.zero_le _)) mk hN.2 ho hm
  have l2 := q2.len
  have g2 : H2[H1.length]? = some (lacB T cv (.slice none 0 0)) := q2.get (by omega) gB
  have hSB := qB.at hS
  rw [eB] at e2
  refine ⟨H1, H2, T, C, R, o, cv, rv, ov, k2, e1, e2, oC.one, oO.one, oR.one, g2, l1, ⟨?_, by omega, by rw [List.getElem?_set_self (by omega)], by rw [List.length_set]; omega, ?_, ?_, ?_, mk, ho, hRs, hRl⟩⟩
  · have : SpE G id v silk k2 H2 := (qB.step (k' := k2) hid).trans q2
    exact Ext.set this (by rw [List.length_set]; omega)
  · exact ((OwnE.ext (.inl oC) xB).spE hSB q2).setBox g2
  · exact OwnE.setBox ((OwnE.low (.inl oR) (by omega))) g2
  · exact ((oO.ext xB).spE hSB q2).setBox g2
/-! ### What is found -/
theorem fndE_in {L : Lac} {o : List Int} (hc : chkL L = 0) (h : o ∈ fnd L) : fndE L = (fnd L, 0) ∧ fnd L ≠ [] := by
  have hne : fnd L ≠ [] := fun q => by rw [q] at h; cases h
  exact ⟨by unfold fndE; rw [if_neg (by simp [hc]), if_neg hne], hne⟩
theorem found_all {L : Lac} {o : List Int} (hc : chkL L = 0) (h : o ∈ fnd L) : cntE L = (((fnd L).length : Int), 0) ∧ kwnE L = (knwL L.C.length (fnd L), 0) ∧ frsE L = ((fnd L).headD [], 0) ∧ (fnd L).headD [] ∈ fnd L ∧ askE L = ((askN L.C.length (fnd L) L.C.length).1, (askN L.C.length (fnd L) L.C.length).2, 0) ∧ dcdE L = (dcdL L.C.length (fnd L), 0) ∧ 1 ≤ (fnd L).length := by
  obtain ⟨e, hne⟩ := fndE_in hc h
  refine ⟨?_, ?_, ?_, ?_, ?_, ?_, List.length_pos_of_mem h⟩
  · unfold cntE; rw [e]; simp
  · unfold kwnE; rw [e]; simp
  · unfold frsE; rw [e]; simp
  · cases q : fnd L with
    | nil => exact absurd q hne
    | cons a l => simp
  · unfold askE; rw [e]; simp
  · unfold dcdE; rw [e]; simp
theorem knwL_len {n : Nat} {os : List (List Int)} : (knwL n os).length = n := lst_len
theorem knwL_at {n p : Nat} {os : List (List Int)} (hp : p < n) : (knwL n os).getD p 0 = if (os.all fun x => decide (x.getD p 0 = (os.headD []).getD p 0)) = true then (os.headD []).getD p 0 else -1 := lst_get hp
/-- A card that is sure is in all orders. -/
theorem knwL_sure {n p : Nat} {os : List (List Int)} (hp : p < n) (h : (knwL n os).getD p 0 ≠ -1) : ∀ x ∈ os, x.getD p 0 = (knwL n os).getD p 0 := by
  rw [knwL_at hp] at h ⊢
  split
  · rename_i q
    exact fun x hx => of_decide_eq_true (List.all_eq_true.1 q x hx)
  · rename_i q
    rw [if_neg q] at h
    exact absurd rfl h
/-- Where all orders agree it is known. -/
theorem knwL_agree {n p : Nat} {os : List (List Int)} {o : List Int} {x : Int} (hp : p < n) (ho : o ∈ os) (h : ∀ y ∈ os, y.getD p 0 = x) : (knwL n os).getD p 0 = x := by
  have hh : (os.headD []).getD p 0 = x := by
    cases q : os with
    | nil => rw [q] at ho; cases ho
    | cons a l => exact h a (by rw [q]; simp)
  rw [knwL_at hp, if_pos (List.all_eq_true.2 fun y hy => decide_eq_true (by rw [h y hy, hh])), hh]
theorem fnd_bd {L : Lac} {o : List Int} {p : Nat} (ho : o ∈ fnd L) (hp : p < L.C.length) : 0 ≤ o.getD p 0 ∧ o.getD p 0 < (L.C.length : Int) := (ord_at (fnd_ord ho) hp).2
theorem knwL_bd {L : Lac} {p : Nat} {o : List Int} (ho : o ∈ fnd L) (hp : p < L.C.length) : -1 ≤ (knwL L.C.length (fnd L)).getD p 0 ∧ (knwL L.C.length (fnd L)).getD p 0 < (L.C.length : Int) := by
  by_cases h : (knwL L.C.length (fnd L)).getD p 0 = -1
  · omega
  · have := knwL_sure hp h o ho
    have h2 := fnd_bd ho hp
    omega
theorem knwL_small {L : Lac} {o : List Int} (ho : o ∈ fnd L) (hn : L.C.length ≤ 7) : Small (knwL L.C.length (fnd L)) := by
  refine ⟨by rw [knwL_len]; omega, fun x hx => ?_⟩
  obtain ⟨p, hp, e⟩ := List.mem_iff_getElem.1 hx
  rw [knwL_len] at hp
  have := knwL_bd ho hp
  rw [getD_at (by rw [knwL_len]; exact hp), e] at this
  omega
/-- One row more: no order that did not explain the rows before. -/
theorem more_sub {L : Lac} {r : Rw3} {o : List Int} (h : o ∈ fnd (moreR L r)) : o ∈ fnd L := by
  obtain ⟨h1, h2⟩ := fnd_mem.1 h
  refine fnd_mem.2 ⟨h1, fun i hi => ?_⟩
  have := h2 i hi
  rw [fitB_iff] at this ⊢
  exact fun r hr => this r (by simp [moreR, hr])
theorem more_len {L : Lac} {r : Rw3} : (fnd (moreR L r)).length ≤ (fnd L).length :=
  pigeon (R := fun a b => a = b) fnd_nodup (fun a ha => ⟨a, more_sub ha, rfl⟩) fun a _ c _ b _ h1 h2 => h1.trans h2.symm
theorem fitL_mem {L : Lac} {o : List Int} {p : Nat} (ho : o ∈ fnd L) (hp : p < L.C.length) : o.getD p 0 ∈ fitL L p := by
  have h := fnd_bd ho hp
  refine List.mem_filter.2 ⟨upto_mem.2 h, ?_⟩
  exact (fnd_mem.1 ho).2 p (by rw [(fnd_ord ho).1]; exact hp)
theorem fitL_sorted {L : Lac} {p : Nat} : sortB (fitL L p) = true := pair_sortB (((upto_sorted _).imp fun h => by omega).filter _)
theorem fitL_small {L : Lac} {p : Nat} (hn : L.C.length ≤ 7) : Small (fitL L p) := by
  have h1 := fitN_len (L := L) (p := p) (k := L.C.length)
  refine ⟨by unfold fitL; omega, fun x hx => ?_⟩
  have := fitN_mem hx
  omega
end Go.AM
/-
  LaceSeen, walked.
-/
namespace Go.AM
open Go.Proofs.Try
theorem dschL51 {p : Prop} (h : p := by first | exact Nat.ne_of_beq_eq_false rfl | assumption | (apply asOne; (first | exact One.int | exact One.bool | assumption | exact Ints.one (by assumption) | exact Rows.one (by assumption) | exact Own.one (by assumption) | exact One.lit ⟨rfl, rfl, rfl⟩)) | (apply asSp; (repeat first | assumption | apply SpAt.set | (refine SpAt.new ?_ (by (first | rfl | (simp only [List.length_append, List.length_cons, List.length_nil, List.length_set]; done) | (simp only [List.length_append, List.length_cons, List.length_nil, List.length_set]; omega)))) | apply SpAt.app | apply Bytes.app); done) | (apply asBytes; (repeat first | assumption | apply Bytes.app); done) | (apply asInts; (repeat first | assumption | exact ints_nil | apply Ints.app); done) | (apply asRows; (repeat first | assumption | exact Rows.nil | apply Rows.app); done) | (apply asScal; (first | apply allS1 | apply allS2 | apply allS3 | apply allS4) <;> (first | exact One.int | exact One.bool | assumption | exact Ints.one (by assumption) | exact Rows.one (by assumption) | exact Own.one (by assumption) | exact One.lit ⟨rfl, rfl, rfl⟩)) | exact litT rfl | exact litF rfl | omega | (simp only [List.length_append, List.length_cons, List.length_nil, List.length_set, List.length_reverse]; first | done | omega) | fail) : p := h
attribute [-go_sem] put_ne put_same
attribute [local go_sem ↓] put_if
theorem seen_more {T : Int} {C o : List Int} {R : List Rw3} {N : Nat} {r : Rw3} (hm : MadeOk T C N) (hN : N ≤ 7) (ho : Ord C.length o) (hs : ∀ r ∈ R, SeenOk T C o r) (hr : SeenOk T C o r) (hl : R.length + 1 ≤ 12) : chkL (moreR ⟨T, C, R⟩ r) = 0 ∧ o ∈ fnd (moreR ⟨T, C, R⟩ r) := by
  have hall : ∀ y ∈ R ++ [r], SeenOk T C o y := fun y hy => by
    rcases List.mem_append.1 hy with q | q
    · exact hs y q
    · rw [List.mem_singleton] at q; rw [q]; exact hr
  exact ⟨chkL_iff.2 (hm.lac hN (by simp; omega) hall), fnd_mem.2 ⟨ho, hm.xpl ho hall⟩⟩
theorem see_ok {L : Lac} {r : Rw3} (h1 : chkL L = 0) (h2 : L.R.length ≠ 12) (h3 : chkL (moreR L r) = 0) : seeE L r = (moreR L r, 0) := by
  unfold seeE; rw [if_pos h1, if_neg h2, if_pos h3]
theorem stL51 {base : Nat} {l : List Oper} {s : St} {Q : AExit → St → Prop} : WP prog raw base (.region 4 l.toArray true) s Q = WPS prog raw base (.region 4 l.toArray true) s Q := WP_stop
attribute [local go_sem ↓ 3000] stL51
set_option maxRecDepth 100000 in
set_option maxHeartbeats 8000000 in
theorem run_LaceSeen {base : Nat} {h : Heap} {v0 v1 : AVal} {l0 l1 : List Int} (hB0 : Bytes h v0 l0) (hB1 : Bytes h v1 l1) :
    callL prog raw base (.fn 5 [] []) [v0, v1] h = some (.bool true, h) := by
  have o0 := hB0.one
  have o1 := hB1.one
  have hw0 := run_wound (base := h.length) hB0
  have hS : SpAt (h ++ [spB v0 l0 0]) h.length v0 l0 0 := SpAt.new hB0 rfl
  obtain ⟨H1, H2, T, C, R, o, cv, rv, ov, k, e1, e2, ocv, oov, orv, g2, lG1, S⟩ := run_start (base := h.length) (N := 6) (most := 8) (by simp) hS (by omega) (by omega) (by omega)
  rw [show (((6 : Nat) : Int)) = 6 from rfl] at e1
  rw [show (((8 : Nat) : Int)) = 8 from rfl] at e2
  obtain ⟨B, eB⟩ : ∃ B, B = H1 ++ [lacB T cv (.slice none 0 0)] := ⟨_, rfl⟩
  have gB : B[H1.length]? = some (lacB T cv (.slice none 0 0)) := by rw [eB]; exact get_eq rfl
  obtain ⟨H3, eH3⟩ : ∃ H3, H3 = H2.set H1.length (lacB T cv rv) := ⟨_, rfl⟩
  rw [← eB] at e2
  rw [← eH3] at S
  have xh3 : Ext h H3 := S.sp.old'
  have lh3 := xh3.len
  obtain ⟨b1, b2⟩ := S.b
  have hc := S.lac (by omega) (by omega)
  have hcl := S.bd
  have hmk := S.made
  have hoC := S.ord
  -- the row that is seen
  have hw1 := run_wound (base := h.length) (hB1.ext xh3)
  have hS4 : SpAt (H3 ++ [spB v1 l1 0]) H3.length v1 l1 0 := SpAt.new (hB1.ext xh3) rfl
  have x34 : Ext H3 (H3 ++ [spB v1 l1 0]) := .app .refl
  obtain ⟨r, er, hr⟩ := run_Seen hS4 (by omega) ((S.oC.low (Nat.zero_le _)).ext x34) orv ((S.oO.low (Nat.zero_le _)).ext x34) (by omega) hmk.tb hmk.c hoC (by omega)
  have q5 : SpE (H3 ++ [spB v1 l1 0]) H3.length v1 l1 (0 + 4) ((H3 ++ [spB v1 l1 0]).set H3.length (spB v1 l1 (0 + 4))) := (SpE.refl hS4).step (by simp)
  obtain ⟨G4, eG4⟩ : ∃ G4, G4 = H3 ++ [spB v1 l1 0] := ⟨_, rfl⟩
  rw [← eG4] at hw1 er q5 x34
  obtain ⟨G5, eG5⟩ : ∃ G5, G5 = G4.set H3.length (spB v1 l1 (0 + 4)) := ⟨_, rfl⟩
  rw [← eG5] at er q5
  have x35 : Ext H3 G5 := by rw [eG4] at q5; exact q5.old'
  have l5 := x35.len
  obtain ⟨hcD, hoD⟩ := seen_more (r := r) hmk (by omega) hoC S.seen hr (by have := S.rl; omega)
  have hoL := S.xpl
  have hse := see_ok (r := r) hc (by have := S.rl; simp only; omega) hcD
  obtain ⟨L, eL⟩ : ∃ L : Lac, L = ⟨T, C, R⟩ := ⟨_, rfl⟩
  have hLn : L.C.length = C.length := by rw [eL]
  have hLR : L.R = R := by rw [eL]
  have hDn : (moreR L r).C.length = C.length := by rw [eL]; rfl
  have hDR : (moreR L r).R.length = R.length + 1 := by rw [eL]; simp [moreR]
  have aL := S.at (by omega) (by omega)
  rw [← eL] at hc hcD hoD hoL hse aL
  obtain ⟨_, G6, e6, x6, u6, rfl, oD⟩ := run_See (base := h.length) (h := G5) (r := r) (by omega) (aL.ext x35)
  rw [hse] at e6 oD
  obtain ⟨cw, rw', hu, oDC, oDR⟩ := oD
  have hu : u6 = .agg [.int .i64 T, cw, rw'] := by rw [hu, eL]; rfl
  subst hu
  have ocw := oDC.one
  have orw := oDR.one
  have l6 := x6.len
  obtain ⟨G7, eG7⟩ : ∃ G7, G7 = G6 ++ [lacB T cw rw'] := ⟨_, rfl⟩
  have x7 : Ext G6 G7 := by rw [eG7]; exact .app .refl
  have gd7 : G7[G6.length]? = some (lacB T cw rw') := by rw [eG7]; exact get_eq rfl
  have x37 := (x35.trans x6).trans x7
  have gc7 := x37.get S.g
  have gc5 := x35.get S.g
  have hsmC := lac_small hcD
  have aD6 : LacAt G6 (.agg [.int .i64 T, cw, rw']) (moreR L r) := ⟨cw, rw', by rw [eL]; rfl, ownE_ints oDC hsmC, oDR.rows (by rw [hDR]; have := S.rl; omega)⟩
  have aD := aD6.ext x7
  have aL7 := aL.ext x37
  obtain ⟨n, en⟩ : ∃ n, n = C.length := ⟨_, rfl⟩
  rw [← en] at hLn hDn hcl hoC
  obtain ⟨p1, p2, p3, p4, p5, p6, p7⟩ := found_all hc hoL
  obtain ⟨d1, d2, d3, d4, d5, d6, d7⟩ := found_all hcD hoD
  have hle := more_len (L := L) (r := r)
  have cL := fun base => run_Count (base := base) aL7
  have cD := fun base => run_Count (base := base) aD
  rw [p1] at cL
  rw [d1] at cD
  obtain ⟨_, G8, e8, x8, kv, rfl, oK⟩ := run_Known (base := h.length) (h := G7) (by have := x37.len; omega) aL7
  have l8 := x8.len
  have l37 := x37.len
  rw [p2, hLn] at e8 oK
  obtain ⟨_, G9, e9, x9, lv, rfl, oK2⟩ := run_Known (base := h.length) (h := G8) (by omega) (aD.ext x8)
  have l9 := x9.len
  rw [d2, hDn] at e9 oK2
  obtain ⟨_, G10, e10, x10, fv, rfl, oF⟩ := run_First (base := h.length) (h := G9) (by omega) (aD.ext (x8.trans x9))
  have l10 := x10.len
  rw [d3] at e10 oF
  obtain ⟨fo, efo⟩ : ∃ fo, fo = (fnd (moreR L r)).headD [] := ⟨_, rfl⟩
  rw [← efo] at e10 oF d4
  have ofo := fnd_ord d4
  rw [hDn] at ofo
  have x710 := (x8.trans x9).trans x10
  have okv := oK.one
  have olv := oK2.one
  have ofv := oF.one
  have iF : Ints G10 fv fo := ownE_ints oF (ord_small ofo (by omega))
  have ex1 := fun base => run_explains (base := base) (aL7.ext x710) iF hc (by rw [hLn]; exact ofo)
  have ex2 := fun base => run_explains (base := base) (aD.ext x710) iF hcD (by rw [hDn]; exact ofo)
  rw [xplD_iff.2 (fnd_mem.1 (more_sub d4)).2] at ex1
  rw [xplD_iff.2 (fnd_mem.1 d4).2] at ex2
  have iK : Ints G10 kv (knwL n (fnd L)) := (ownE_ints oK (by have := knwL_small hoL (by omega); rw [hLn] at this; exact this)).ext (x9.trans x10)
  have iK2 : Ints G10 lv (knwL n (fnd (moreR L r))) := (ownE_ints oK2 (by have := knwL_small hoD (by omega); rw [hDn] at this; exact this)).ext x10
  have lk1 := lenI iK
  have lk2 := lenI iK2
  rw [knwL_len] at lk1 lk2
  have iO : Ints H3 ov o := S.ints (by omega)
  have iO10 := iO.ext (x37.trans x710)
  have lo := lenI iO10
  rw [hoC.1] at lo
  have g7c := x37.get S.g
  have g8c := x8.get g7c
  have g9c := x9.get g8c
  have g10c := x10.get g9c
  have g8d := x8.get gd7
  have g9d := x9.get g8d
  have g10d := x10.get g9d
  have t1 : (((fnd (moreR L r)).length : Int) > ((fnd L).length : Int)) = False := eq_false (by omega)
  have t2 : (((fnd (moreR L r)).length : Int) < 1) = False := eq_false (by omega)
  have hrl7 : lenOpA prog G7 42 rv = some (.int .i64 (R.length : Int)) := by
    have := (((S.oR.rows (by have := S.rl; omega)).ext x37)).len (P := prog) Fc.el42
    exact this
  have hrd7 : lenOpA prog G7 42 rw' = some (.int .i64 ((R.length : Int) + 1)) := by
    have := ((oDR.rows (by rw [hDR]; have := S.rl; omega)).ext x7).len (P := prog) Fc.el42
    rw [hDR] at this
    exact this
  have xall : Ext h G10 := xh3.trans (x37.trans x710)
  have hlow : refsLow H3.length (.agg [.int .i64 T, cv, rv]) := by
    have a1 : refsLow H3.length cv := S.oC.elim (fun z => z.low_refs) (fun z => by rw [z.1]; rfl)
    have a2 : refsLow H3.length rv := S.oR.elim (fun z => z.low_refs) (fun z => by rw [z.1]; rfl)
    unfold refsLow at a1 a2 ⊢
    simp only [AVal.refs, refsL, List.nil_append, List.append_nil, List.all_append, a1, a2, Bool.and_self]
  have gc3 := S.g
  have gc4 := x34.get S.g
  have gc6 := x6.get gc5
  unfold lacB at eB gB g2 eH3 eG7 gd7 g7c g8c g9c g10c g8d g9d g10d gc3 gc4 gc5 gc6
  have hRl := S.rl
  have lhH1 : h.length + 1 ≤ H1.length := by simpa using lG1
  refine callL_run func5 rfl rfl ?_
  have hsp := @Nat.succ_ne_zero; repeat' (first | simp (disch := first | exact dschL51 | fail) only [go_sem, ↓reduceIte, hsp, hw0, e1, ← eB, gB, e2, g2, ← eH3] | refine WP_drw ?_ | refine cnd_intro (fun hsp => ?_) fun hsp => ?_)
  refine WPS_go ?_
  refine WP_wild [⟨0, 44, 6, ⟨H1.length, 0, 0⟩, .agg [.int .i64 T, cv, rv], 6⟩, ⟨3, 44, 6, ⟨H1.length, 0, 0⟩, .agg [.int .i64 T, cv, rv], 5⟩] (by kernel_rfl) (by kernel_rfl) (by kernel_rfl) ⟨hlow, hlow, trivial⟩ fun K hK => ?_
  iterate 13
    rw [TRS_cons]
    refine ⟨by first | (simp (disch := first | exact dschL51 | fail) only [go_sem, ↓reduceIte, gc3, hw1, gc4, er, gc5, e6, gc6, ← eG7, ldsQ_cons, ldsQ_nil, grdQ_cons, grdQ_nil, if_true, Nat.reduceLeDiff]; done) | exact trivial, ?_⟩
    simp (disch := first | exact dschL51 | fail) only [go_sem, ↓reduceIte, gc3, hw1, gc4, er, gc5, e6, gc6, ← eG7]
  rw [TRS_nil]
  refine ⟨by first | (simp (disch := first | exact dschL51 | fail) only [go_sem, ↓reduceIte, gc3, hw1, gc4, er, gc5, e6, gc6, ← eG7, ldsQ_cons, ldsQ_nil, grdQ_cons, grdQ_nil, if_true, Nat.reduceLeDiff]; done) | exact trivial, ?_⟩
  subst hK
  have hsp := @Nat.succ_ne_zero; repeat' (first | simp (disch := first | exact dschL51 | fail) only [go_sem, ↓reduceIte, hsp, gd7, g7c, hrl7, hrd7, eq_self, not_true, cL, cD, e8, g8d, e9, g9d, e10, t1, t2, g10c, g10d, ex1, ex2, lk1, lk2, lo, g8c, g9c] | refine WP_drw ?_ | refine cnd_intro (fun hsp => ?_) fun hsp => ?_)
  refine WP_count [(4, 4), (19, 21), (135, 194)] 0 n (Nat.zero_le _) (fun _ i fr K => fr 135 = .int .i64 (i : Int) ∧ Ext G10 K) ?_ ?_ ?_
  · exact ⟨by (simp (disch := first | exact dschL51 | fail) only [go_sem, ↓reduceIte, Int.natCast_zero]; first | done | rfl), .refl⟩
  · rintro i fr K hi0 hi hA ⟨r135, xK⟩
    have q7 := hA 7 rfl
    have q8 := hA 8 rfl
    have q13 := hA 13 rfl
    have q15 := hA 15 rfl
    have q134 := hA 134 rfl
    try simp (disch := first | exact dschL51 | fail) only [go_sem, ↓reduceIte] at q7 q8 q13 q15 q134
    have hlt : ((i : Int) < (n : Int)) = True := eq_true (by omega)
    have lK := xK.len
    have jK := iK.ext xK
    have jK2 := iK2.ext xK
    have jO := iO10.ext xK
    have ak := adrI (i := (i : Int)) (by omega) jK (by rw [knwL_len]; omega)
    have ak2 := adrI (i := (i : Int)) (by omega) jK2 (by rw [knwL_len]; omega)
    have ao := adrI (i := (i : Int)) (by omega) jO (by rw [hoC.1]; omega)
    rw [Int.toNat_natCast] at ak ak2 ao
    have lk := loadI jK (i := i) (by rw [knwL_len]; omega)
    have lk2 := loadI jK2 (i := i) (by rw [knwL_len]; omega)
    have lO := loadI jO (i := i) (by rw [hoC.1]; omega)
    have gdK := xK.get g10d
    obtain ⟨_, K2, e11, x11, fi, rfl, oFi⟩ := run_Fit (base := h.length) (h := K) (p := (i : Int)) (by omega) ((aD.ext x710).ext xK)
    have hfe : fitE (moreR L r) (i : Int) = (fitL (moreR L r) i, 0) := by
      unfold fitE; rw [if_neg (by simp [hcD]), if_neg (fun z => z ⟨by omega, by rw [hDn]; omega⟩), Int.toNat_natCast]
    rw [hfe] at e11 oFi
    have ofi := oFi.one
    have iFi : Ints K2 fi (fitL (moreR L r) i) := own_ints oFi (fitL_small (by rw [hDn]; omega))
    have hcon := fun base => run_contains (base := base) (x := o.getD i 0) iFi
    rw [decide_eq_true (fitL_mem hoD (by rw [hDn]; exact hi))] at hcon
    have hsor := fun base => run_sorted (base := base) iFi
    rw [fitL_sorted] at hsor
    have ao2 := adrI (i := (i : Int)) (by omega) (jO.ext x11) (by rw [hoC.1]; omega)
    rw [Int.toNat_natCast] at ao2
    have lO2 := loadI (jO.ext x11) (i := i) (by rw [hoC.1]; omega)
    obtain ⟨a, ea⟩ : ∃ a, a = (knwL n (fnd L)).getD i 0 := ⟨_, rfl⟩
    obtain ⟨b, eb⟩ : ∃ b, b = (knwL n (fnd (moreR L r))).getD i 0 := ⟨_, rfl⟩
    have s1 : a ≠ -1 → b = a := fun q => by
      rw [ea] at q
      have hs := knwL_sure hi q
      rw [eb, ea]
      exact knwL_agree hi hoD fun y hy => hs y (more_sub hy)
    have s2 : b ≠ -1 → b = o.getD i 0 := fun q => by
      rw [eb] at q
      rw [eb, knwL_sure hi q o hoD]
    rw [← ea] at lk
    rw [← eb] at lk2
    by_cases c1 : a = -1
    · have u1 : (a = -1) = True := eq_true c1
      by_cases c2 : b = -1
      · have u2 : (b = -1) = True := eq_true c2
        have hsp := @Nat.succ_ne_zero; repeat' (first | simp (disch := first | exact dschL51 | fail) only [go_sem, ↓reduceIte, hsp, r135, q7, q8, q13, q15, q134, hlt, ak, ak2, ao, lk, lk2, lO, u1, u2, gdK, e11, ao2, lO2, hcon, hsor, eq_self] | refine WP_drw ?_ | refine cnd_intro (fun hsp => ?_) fun hsp => ?_)
        exact ⟨by (repeat first | exact Agree.refl | assumption | refine Agree.put rfl ?_ | refine Agree.put0 ?_ | refine Agree.sub rfl (by assumption) ?_), by omega, xK.trans x11⟩
      · have u2 : (b = -1) = False := eq_false c2
        have u3 : (b = o.getD i 0) = True := eq_true (s2 c2)
        have hsp := @Nat.succ_ne_zero; repeat' (first | simp (disch := first | exact dschL51 | fail) only [go_sem, ↓reduceIte, hsp, r135, q7, q8, q13, q15, q134, hlt, ak, ak2, ao, lk, lk2, lO, u1, u2, u3, gdK, e11, ao2, lO2, hcon, hsor, eq_self] | refine WP_drw ?_ | refine cnd_intro (fun hsp => ?_) fun hsp => ?_)
        exact ⟨by (repeat first | exact Agree.refl | assumption | refine Agree.put rfl ?_ | refine Agree.put0 ?_ | refine Agree.sub rfl (by assumption) ?_), by omega, xK.trans x11⟩
    · have u1 : (a = -1) = False := eq_false c1
      have u4 : (b = a) = True := eq_true (s1 c1)
      have c2 : b ≠ -1 := by rw [s1 c1]; exact c1
      have u2 : (b = -1) = False := eq_false c2
      have u3 : (b = o.getD i 0) = True := eq_true (s2 c2)
      have hsp := @Nat.succ_ne_zero; repeat' (first | simp (disch := first | exact dschL51 | fail) only [go_sem, ↓reduceIte, hsp, r135, q7, q8, q13, q15, q134, hlt, ak, ak2, ao, lk, lk2, lO, u1, u2, u3, u4, gdK, e11, ao2, lO2, hcon, hsor, eq_self] | refine WP_drw ?_ | refine cnd_intro (fun hsp => ?_) fun hsp => ?_)
      exact ⟨by (repeat first | exact Agree.refl | assumption | refine Agree.put rfl ?_ | refine Agree.put0 ?_ | refine Agree.sub rfl (by assumption) ?_), by omega, xK.trans x11⟩
  · rintro fr K hA ⟨r135, xK⟩
    have q7 := hA 7 rfl
    have q8 := hA 8 rfl
    have q13 := hA 13 rfl
    have q15 := hA 15 rfl
    have q134 := hA 134 rfl
    try simp (disch := first | exact dschL51 | fail) only [go_sem, ↓reduceIte] at q7 q8 q13 q15 q134
    have hlt : ((n : Int) < (n : Int)) = False := eq_false (by omega)
    have haw := fun base => run_awake (base := base) (h := K)
    have hsp := @Nat.succ_ne_zero; repeat' (first | simp (disch := first | exact dschL51 | fail) only [go_sem, ↓reduceIte, hsp, r135, q7, q8, q13, q15, q134, hlt, haw] | refine WP_drw ?_ | refine cnd_intro (fun hsp => ?_) fun hsp => ?_)
    exact fB rfl (xall.trans xK)
end Go.AM
