/-
  FaultClashed, walked.
-/
import Derived.Test.YtlhmeoeamcgcmaaE49
import Derived.Test.YtlhmeoeamcgcmaaE38
import Derived.Test.YtlhmeoeamcgcmaaE44
set_option linter.unusedSimpArgs false
set_option linter.unusedVariables false
namespace Go.AM
open Go.Proofs.Try
theorem dschE51 {p : Prop} (h : p := by first | exact Nat.ne_of_beq_eq_false rfl | assumption | (apply asOne; (first | exact One.int | exact One.bool | assumption | exact Ints.one (by assumption) | exact Rows.one (by assumption) | exact Own.one (by assumption) | exact One.lit ⟨rfl, rfl, rfl⟩)) | (apply asSp; (repeat first | assumption | apply SpAt.set | (refine SpAt.new ?_ (by (first | rfl | (simp only [List.length_append, List.length_cons, List.length_nil, List.length_set]; done) | (simp only [List.length_append, List.length_cons, List.length_nil, List.length_set]; omega)))) | apply SpAt.app | apply Bytes.app); done) | (apply asBytes; (repeat first | assumption | apply Bytes.app); done) | (apply asInts; (repeat first | assumption | exact ints_nil | apply Ints.app); done) | (apply asRows; (repeat first | assumption | exact Rows.nil | apply Rows.app); done) | (apply asScal; (first | apply allS1 | apply allS2 | apply allS3 | apply allS4) <;> (first | exact One.int | exact One.bool | assumption | exact Ints.one (by assumption) | exact Rows.one (by assumption) | exact Own.one (by assumption) | exact One.lit ⟨rfl, rfl, rfl⟩)) | exact litT rfl | exact litF rfl | omega | (simp only [List.length_append, List.length_cons, List.length_nil, List.length_set, List.length_reverse]; first | done | omega) | fail) : p := h
attribute [-go_sem] put_ne put_same
attribute [local go_sem ↓] put_if

theorem shr8 {x : Int} {i : Nat} : ∃ y, binA prog .shr 5 (.int .u8 x) (.int .i64 (i : Int)) = some (.int .u8 y) := by
  have : ¬ (i : Int) < 0 := by omega
  exact ⟨_, by simp [binA, isShift, shiftA, this]; rfl⟩
theorem and8 {x : Int} : ∃ y, binA prog .and 5 (.int .u8 x) (.int .u8 1) = some (.int .u8 y) := ⟨_, rfl⟩
theorem flatS_get {ss : List Sgt} {j : Nat} {s : Sgt} (hg : ss[j]? = some s) : (flat encS ss)[j * 4 + 3]? = some (.bool s.bad) := by
  have h := flat_get (E := encS) hg
  have h2 := congrArg (fun l : List AVal => l[3]?) h
  simp only [List.getElem?_take, List.getElem?_drop] at h2
  exact h2
/-- Sights that lie as others do. -/
def sameS (ss l : List Sgt) : Prop := ss.length = l.length ∧ ∀ (i : Nat) s x, ss[i]? = some s → l[i]? = some x → s.rib = x.rib ∧ s.lo = x.lo ∧ s.hi = x.hi
theorem chkM_same {L : Lom} {ss : List Sgt} (hc : chkM L = 0) (h : sameS ss L.ss) : chkM ⟨L.R, L.T, L.ps, ss⟩ = 0 := by
  obtain ⟨k1, k2, k3, k4, k5, k6⟩ := chkM_ok hc
  refine chkM_of k1 k2 k3 (by have := h.1; simp only; omega) k5 fun s hs => ?_
  obtain ⟨i, hi, rfl⟩ := List.getElem_of_mem hs
  have hi2 : i < L.ss.length := by have := h.1; simp only at hi; omega
  obtain ⟨e1, e2, e3⟩ := h.2 i _ _ (List.getElem?_eq_getElem hi) (List.getElem?_eq_getElem hi2)
  have := k6 _ (List.getElem_mem hi2)
  rw [← e1, ← e2, ← e3] at this
  exact this
theorem run_cl2 {base : Nat} {h : Heap} {s : Sgt} : callL prog raw base (.fn 17 [] []) [.agg (encS.cells s)] h = some (.bool s.bad, h) := by
  simp only [encS]
  refine callL_run func17 rfl rfl ?_
  have hsp := @Nat.succ_ne_zero; repeat' (first | simp (disch := first | exact dschE51 | fail) only [go_sem, ↓reduceIte, hsp] | refine WP_drw ?_ | refine cnd_intro (fun hsp => ?_) fun hsp => ?_)
  exact fB rfl
theorem Rows.refsLow {α : Type} {E : Enc α} {H : Heap} {v : AVal} {l : List α} (hR : Rows E H v l) : refsLow H.length v := by
  rcases hR.2 with ⟨rfl, _⟩ | ⟨rfl, _⟩ | ⟨r, k, c, e, row, ro, rfl, h1, _⟩
  · rfl
  · rfl
  · exact refsLow_slice (lt_of_get h1)
theorem refsLow_lom {n : Nat} {R T : Int} {qv rv : AVal} (h1 : refsLow n qv) (h2 : refsLow n rv) : refsLow n (.agg [.int .i64 R, .int .i64 T, qv, rv]) := by
  unfold Go.AM.refsLow at h1 h2 ⊢
  simp only [AVal.refs, refsL, List.nil_append, List.append_nil, List.all_append, Bool.and_eq_true]
  exact ⟨h1, h2⟩
theorem Parts.refsLow {H : Heap} {v : AVal} {ps : List Prt} (hP : Parts H v ps) : refsLow H.length v := by
  obtain ⟨vs, hR, _⟩ := hP
  exact hR.refsLow
theorem stE51 {base : Nat} {l : List Oper} {s : St} {Q : AExit → St → Prop} : WP prog raw base (.region 25 l.toArray true) s Q = WPS prog raw base (.region 25 l.toArray true) s Q := WP_stop
attribute [local go_sem ↓ 3000] stE51
set_option maxRecDepth 100000 in
set_option maxHeartbeats 4000000 in
theorem run_FaultClashed {base : Nat} {h : Heap} {v0 v1 : AVal} {s0 s1 : List Int} {n1 : Int} (hB0 : Bytes h v0 s0) (hB1 : Bytes h v1 s1) (q1 : 0 ≤ n1 ∧ n1 ≤ 255) :
    callL prog raw base (.fn 3 [] []) [v0, v1, .int .u8 n1] h = some (.bool true, h) := by
  obtain ⟨H1, L, t, pv, sv, tv, e1, x1, M1, oP1, oS1, b1, b2, b3, b4⟩ := run_startS (base := h.length) (T0 := 8) (P0 := 4) (S0 := 7) (Nat.le_refl _) hB0 (by omega) (by omega) (by omega)
  obtain ⟨k1, k2, k3, k4, k5, k6⟩ := chkM_ok M1.hc
  have hp1 := M1.hP.one
  have hs1 := M1.hS.one
  have ht1 := M1.hT.one
  have hv1 := hB1.one
  have hl1 := x1.len
  have hw0 := run_wound (base := h.length) hB0
  obtain ⟨G1, eG1⟩ : ∃ G1, G1 = H1 ++ [lmB L.R L.T pv sv] := ⟨_, rfl⟩
  have xG1 : Ext H1 G1 := by rw [eG1]; exact .app .refl
  have gl1 : G1[H1.length]? = some (lmB L.R L.T pv sv) := by rw [eG1]; exact get_eq rfl
  obtain ⟨w2, H2, e2, x2, u2, rfl, o2⟩ := run_clash (base := h.length) (x1.trans xG1).len (M1.ext xG1).lom M1.ok
  rw [clsM_none M1.hc M1.xp] at e2
  have x12 := xG1.trans x2
  have gl2 := x2.get gl1
  have y2 := x1.trans x12
  have hH12 := x12.len
  have hl2 := y2.len
  have hlS2 : lenOpA prog H2 24 sv = some (.int .i64 (L.ss.length : Int)) := (M1.ext x12).hS.len Fc.el24
  refine callL_run func3 rfl rfl ?_
  have hsp := @Nat.succ_ne_zero; repeat' (first | simp (disch := first | exact dschE51 | fail) only [go_sem, ↓reduceIte, hsp, hw0, e1, ← eG1, gl1, e2, gl2, hlS2, eq_self, not_true, decide_false] | refine WP_drw ?_ | refine cnd_intro (fun hsp => ?_) fun hsp => ?_)
  refine WP_count [(11, 11), (41, 61)] 0 L.ss.length (Nat.zero_le _) (fun _ i fr h' => fr 41 = .int .i64 (i : Int) ∧ Ext h h' ∧ h'[H1.length]? = some (lmB L.R L.T pv sv) ∧ OwnP h.length h' pv L.ps ∧ ∃ ss, Own encS 39 h.length h' sv ss ∧ sameS ss L.ss) ?_ ?_ ?_
  · exact ⟨by (simp (disch := first | exact dschE51 | fail) only [go_sem, ↓reduceIte, Int.natCast_zero]; first | done | rfl), y2, gl2, oP1.ext x12, L.ss, oS1.ext x12, rfl, fun i s x h1 h2 => by rw [h1] at h2; cases h2; exact ⟨rfl, rfl, rfl⟩⟩
  · rintro i fr H hi0 hi hA ⟨r41, xH, gl, oP, ss, oS, hss⟩
    have p1 := hA 1 rfl
    have p2 := hA 2 rfl
    have p6 := hA 6 rfl
    have p7 := hA 7 rfl
    have p40 := hA 40 rfl
    try simp (disch := first | exact dschE51 | fail) only [go_sem, ↓reduceIte] at p1 p2 p6 p7 p40
    have hlt : ((i : Int) < (L.ss.length : Int)) = True := eq_true (by omega)
    obtain ⟨sy, hsh⟩ := shr8 (x := n1) (i := i)
    obtain ⟨sz, hand⟩ := and8 (x := sy)
    by_cases c1 : sz = 1
    · have t1 := eq_true c1
      have hi2 : i < ss.length := by have := hss.1; omega
      obtain ⟨sid, ver, esv, gS, hid, hpos⟩ : ∃ id ver, sv = .slice (some ⟨id, ver, 0⟩) ss.length ss.length ∧ H[id]? = some (rowE encS 39 ss ver) ∧ h.length ≤ id ∧ 0 < ss.length := by
        rcases oS with ⟨_, q⟩ | ⟨id, ver, q⟩
        · rw [q] at hi2; simp at hi2
        · exact ⟨id, ver, q⟩
      have hg := getD_some (d := sgt0) hi2
      obtain ⟨x, ex⟩ : ∃ x, x = ss.getD i sgt0 := ⟨_, rfl⟩
      rw [← ex] at hg
      have had : indexAddrA prog 24 sv (.int .i64 (i : Int)) = some (.ptr (some ⟨sid, ver, i * 4⟩)) := by
        have := (oS.rows (by have := hss.1; omega)).addr (P := prog) (i := (i : Int)) Fc.el24 Fc.ar24 (by omega) (by omega)
        rw [this, esv]
        simp [elAdr, encS, ARef.add]
      have hld : ldB (some (false, 1)) H[sid]? ver (i * 4 + 3) = some (.bool x.bad) := by
        rw [gS, rowE, ldB_cell]
        exact flatS_get hg
      have hflen : (flat encS ss).length = ss.length * 4 := flat_len ..
      have hst : ∀ {K : ABlk → Heap}, stQ h.length sid H[sid]? ver (i * 4 + 3) [.bool (!x.bad)] K = some (K (rowE encS 39 (ss.set i ⟨x.rib, x.lo, x.hi, !x.bad⟩) ver)) := fun {K} => by
        rw [gS, rowE, stQ_own hid (by simp [hflen]; omega) (by simp [AVal.scalar])]
        simp only [splice, flatS_set hg, rowE]
      have hne : sid ≠ H1.length := fun e => by
        rw [e, gl] at gS
        simp [rowE] at gS
      have hsp := @Nat.succ_ne_zero; repeat' (first | simp (disch := first | exact dschE51 | fail) only [go_sem, ↓reduceIte, hsp, r41, p1, p2, p6, p7, p40, hlt, hsh, hand, t1, gl, had, hld, hst] | refine WP_drw ?_ | refine cnd_intro (fun hsp => ?_) fun hsp => ?_)
      refine ⟨by (repeat first | exact Agree.refl | assumption | refine Agree.put rfl ?_ | refine Agree.put0 ?_ | refine Agree.sub rfl (by assumption) ?_), by omega, xH.set hid, oP.setRow gS (by decide) (by decide), ss.set i ⟨x.rib, x.lo, x.hi, !x.bad⟩, .inr ⟨sid, ver, by rw [esv]; simp, by rw [List.getElem?_set_self (lt_of_get gS)], hid, by simpa using hpos⟩, by rw [List.length_set]; exact hss.1, fun j u y h1 h2 => ?_⟩
      rw [List.getElem?_set] at h1
      by_cases e : i = j
      · subst e
        rw [if_pos rfl, if_pos hi2] at h1
        cases h1
        exact hss.2 i x y hg h2
      · rw [if_neg e] at h1
        exact hss.2 j u y h1 h2
    · have t1 := eq_false c1
      have hsp := @Nat.succ_ne_zero; repeat' (first | simp (disch := first | exact dschE51 | fail) only [go_sem, ↓reduceIte, hsp, r41, p1, p2, p6, p7, p40, hlt, hsh, hand, t1] | refine WP_drw ?_ | refine cnd_intro (fun hsp => ?_) fun hsp => ?_)
      exact ⟨by (repeat first | exact Agree.refl | assumption | refine Agree.put rfl ?_ | refine Agree.put0 ?_ | refine Agree.sub rfl (by assumption) ?_), by omega, xH, gl, oP, ss, oS, hss⟩
  · rintro fr K hA ⟨r41, xK, gl, oP, ss, oS, hss⟩
    have p1 := hA 1 rfl
    have p2 := hA 2 rfl
    have p6 := hA 6 rfl
    have p7 := hA 7 rfl
    have p40 := hA 40 rfl
    try simp (disch := first | exact dschE51 | fail) only [go_sem, ↓reduceIte] at p1 p2 p6 p7 p40
    have hlt : ((L.ss.length : Int) < (L.ss.length : Int)) = False := eq_false (by omega)
    have hc2 := chkM_same M1.hc hss
    have hsl := hss.1
    obtain ⟨L2, eL2⟩ : ∃ L2 : Lom, L2 = ⟨L.R, L.T, L.ps, ss⟩ := ⟨_, rfl⟩
    rw [← eL2] at hc2
    have eR : L.R = L2.R := by rw [eL2]
    have eT : L.T = L2.T := by rw [eL2]
    have eP : L.ps = L2.ps := by rw [eL2]
    have eS : ss = L2.ss := by rw [eL2]
    have ok2 := lomOk_of hc2
    have hPK : Parts K pv L2.ps := by rw [← eP]; exact oP.parts (by omega) M1.ok.1
    have hSK : Rows encS K sv L2.ss := by rw [← eS]; exact oS.rows (by omega)
    have hpl2 : L2.ps.length = L.ps.length := by rw [← eP]
    rw [eR, eT] at gl
    clear oP oS hss eL2
    subst eS
    have LK : LomAt K (lomV L2.R L2.T pv sv) L2 := ⟨pv, sv, rfl, hPK, hSK⟩
    have cn := fun base => run_count (base := base) LK ok2
    have nn := cnt_nn hc2
    rw [nn.2] at cn
    obtain ⟨w3, H3, e3, x3, u3, rfl, o3⟩ := run_clash (base := h.length) xK.len LK ok2
    have hu3 := o3.one
    obtain ⟨G3, eG3⟩ : ∃ G3, G3 = H3 ++ [⟨.cells [u3] 32 false false, 0⟩] := ⟨_, rfl⟩
    have xG3 : Ext H3 G3 := by rw [eG3]; exact .app .refl
    have gu3 : G3[H3.length]? = some ⟨.cells [u3] 32 false false, 0⟩ := by rw [eG3]; exact get_eq rfl
    have yG3 := (xK.trans x3).trans xG3
    have hlH3 := (xK.trans x3).len
    by_cases hx : ∃ t', XpA L2 t'
    · obtain ⟨t', ht'⟩ := hx
      have hcl := clsM_none hc2 ht'
      have cp := cnt_pos hc2 ht'
      rw [hcl] at e3 o3
      have t0 : ((cntM L2).1 = 0) = False := eq_false (by omega)
      have t9 : ((cntM L2).1 > 0) = True := eq_true (by omega)
      have tz : ((0 : Int) > 0) = False := eq_false (by omega)
      have hl3 : lenOpA prog G3 32 u3 = some (.int .i64 0) := own_len (o3.ext xG3) Fc.el32 (by simp)
      have hsp := @Nat.succ_ne_zero; repeat' (first | simp (disch := first | exact dschE51 | fail) only [go_sem, ↓reduceIte, hsp, r41, p1, p2, p6, p7, p40, hlt, gl, cn, e3, ← eG3, gu3, t0, t9, tz, hl3, neB, eq_self, not_true, not_false_iff, decide_true, decide_false, Bool.false_eq_true, run_awake] | refine WP_drw ?_ | refine cnd_intro (fun hsp => ?_) fun hsp => ?_)
      exact fB rfl yG3
    · have hcl := clsM_least hc2 hx
      rw [hcl.1] at e3
      have cz : (cntM L2).1 = 0 := by
        obtain ⟨ts, _, m1, e1'⟩ := cntM_truths hc2
        rw [e1']
        have : ts = [] := List.eq_nil_iff_forall_not_mem.2 fun x hxm => hx ⟨x, (m1 x).1 hxm⟩
        rw [this]; rfl
      rw [cz] at cn
      obtain ⟨cl, ecl⟩ : ∃ cl, cl = (clsM L2).1 := ⟨_, rfl⟩
      rw [← ecl] at o3 hcl
      obtain ⟨_, hsub, hno, hmin⟩ := hcl
      have hcll : cl.length ≤ 7 := by have := hsub.length_le; rw [upto_len] at this; omega
      have hcin : ∀ i ∈ cl, 0 ≤ i ∧ i < (L2.ss.length : Int) := fun i hi => upto_mem.1 (hsub.subset hi)
      have hcup : cl.Pairwise (· < ·) := (upto_sorted _).sublist hsub
      have hcpos : 0 < cl.length := by
        rcases Nat.eq_zero_or_pos cl.length with q | q
        · refine absurd ⟨[], ⟨.nil, fun b hb => by cases hb⟩, fun i hi => ?_⟩ hno
          rw [List.eq_nil_of_length_eq_zero q] at hi; cases hi
        · exact q
      have hsm : Small cl := small_of (by omega) fun x hxm => by have := hcin x hxm; omega
      have j3 := (own_ints o3 hsm).ext xG3
      have tl : ((cl.length : Int) > 0) = True := eq_true (by omega)
      have tz : ((0 : Int) > 0) = False := eq_false (by omega)
      have glG := (x3.trans xG3).get gl
      obtain ⟨w4, H4, e4, x4, qv, rv, rfl, hP4, hS4⟩ := run_part1 (base := h.length) (lv := -1) yG3.len glG gu3 (hPK.ext (x3.trans xG3)) (hSK.ext (x3.trans xG3)) j3 hc2 hcin hcup (by omega)
      rw [skipL_all _ (Nat.le_refl _), List.take_length] at hS4
      have q4 := hP4.one
      have q5 := hS4.one
      have hc4 := chkM_sub hc2 (l := cl) (by omega) hcin
      have ok4 := lomOk_of hc4
      have hno4 : ¬ ∃ t', XpA (subL L2 cl) t' := fun ⟨t', q⟩ => hno ⟨t', xpA_sub.1 q⟩
      obtain ⟨G4, eG4⟩ : ∃ G4, G4 = H4 ++ [lmB L2.R L2.T qv rv] := ⟨_, rfl⟩
      have xG4 : Ext H4 G4 := by rw [eG4]; exact .app .refl
      have gw4 : G4[H4.length]? = some (lmB L2.R L2.T qv rv) := by rw [eG4]; exact get_eq rfl
      have L4 : LomAt G4 (lomV L2.R L2.T qv rv) (subL L2 cl) := ⟨qv, rv, rfl, hP4.ext xG4, hS4.ext xG4⟩
      have cn4 := fun base => run_count (base := base) L4 ok4
      have cz4 : (cntM (subL L2 cl)).1 = 0 := by
        obtain ⟨ts, _, m1, e1'⟩ := cntM_truths hc4
        rw [e1']
        have : ts = [] := List.eq_nil_iff_forall_not_mem.2 fun x hxm => hno4 ⟨x, (m1 x).1 hxm⟩
        rw [this]; rfl
      rw [cz4, (cnt_nn hc4).2] at cn4
      have hany := fun base => anyF_S (base := base) (h := G4) (g := .fn 17 [] []) (fun s => s.bad) (hS4.ext xG4) (fun base s hs => run_cl2)
      have hsome : ((cl.map (sgtI L2)).any fun s => s.bad) = true := by
        rcases Bool.eq_false_or_eq_true ((cl.map (sgtI L2)).any fun s => s.bad) with q | q
        · exact q
        · refine absurd ⟨[], ⟨.nil, fun b hb => by cases hb⟩, fun i hi => ⟨fun ⟨b, hb, _⟩ => (by cases hb), fun hb => ?_⟩⟩ hno
          have := List.any_eq_false.1 q _ (List.mem_map_of_mem hi)
          exact absurd hb this
      rw [hsome] at hany
      have y4 := yG3.trans (x4.trans xG4)
      have hw1 := run_wound (base := h.length) (hB1.ext y4)
      have hlH4 := (yG3.trans x4).len
      have hlG4 : G4.length = H4.length + 1 := by rw [eG4]; simp
      have hSp : SpAt (G4 ++ [spB v1 s1 0]) G4.length v1 s1 0 := SpAt.new (hB1.ext y4) rfl
      have hsp := @Nat.succ_ne_zero; repeat' (first | simp (disch := first | exact dschE51 | fail) only [go_sem, ↓reduceIte, hsp, r41, p1, p2, p6, p7, p40, hlt, gl, cn, e3, ← eG3, gu3, j3.len Fc.el32, tl, tz, neB, e4, ← eG4, gw4, cn4, hany, hw1, eq_self, not_true, not_false_iff, decide_true, decide_false, Bool.not_true, Bool.false_eq_true] | refine WP_drw ?_ | refine cnd_intro (fun hsp => ?_) fun hsp => ?_)
      have x34 := xG3.trans (x4.trans xG4)
      have gl4 := (x3.trans x34).get gl
      have gu4 := (x4.trans xG4).get gu3
      have hlid := lt_of_get gl4
      have huid := lt_of_get gu4
      refine WP_count [(6, 6), (129, 136)] 0 8 (Nat.zero_le _) (fun _ i fr h' => fr 129 = .int .i64 (i : Int) ∧ ∃ k2, k2 ≤ 18 * i ∧ SpE (G4 ++ [spB v1 s1 0]) G4.length v1 s1 k2 h') ?_ ?_ ?_
      · exact ⟨by (simp (disch := first | exact dschE51 | fail) only [go_sem, ↓reduceIte, Int.natCast_zero]; first | done | rfl), 0, by omega, SpE.refl hSp⟩
      · rintro i fr2 H hi0 hi hA2 ⟨r129, kk, hk2, xH⟩
        have q7 := hA2 7 rfl
        have q14 := hA2 14 rfl
        have q16 := hA2 16 rfl
        have q17 := hA2 17 rfl
        have q19 := hA2 19 rfl
        try simp (disch := first | exact dschE51 | fail) only [go_sem, ↓reduceIte, p7] at q7 q14 q16 q17 q19
        have hlti : ((i : Int) < 8) = True := eq_true (by omega)
        have hSpH := xH.at hSp
        have xO := xH.old
        have glH := xO.get gl4
        have gwH := xO.get gw4
        have LH := L4.ext xO
        have hPH := hPK.ext ((x3.trans x34).trans xO)
        have hHl := (y4.trans xO).len
        obtain ⟨w5, H5, e5, t5, k5', hk5, x5, o5, hT5⟩ := run_tried (base := h.length) (L := L2) (sv := sv) hHl hSpH (by omega) hPH hs1 hc2
        have x5' := (xH.step (k' := k5') (by simp)).ext x5
        have xO5 := x5'.old
        have ht5 := truth_len hT5
        have hxe : ∀ base, callL prog raw base (.fn 18 [] []) [.agg [.int .i64 L2.R, .int .i64 L2.T, qv, rv], w5] H5 = some (.bool (xplM (subL L2 cl) t5), H5) := fun base => run_explains4 (base := base) (L := subL L2 cl) (hP4.ext (xG4.trans xO5)) (hS4.ext (xG4.trans xO5)) hc4 (o5.rows (by omega)) (by omega)
        have hxf : xplM (subL L2 cl) t5 = false := Bool.eq_false_iff.2 fun w => hno4 ⟨t5, (xplM_iff hc4).1 w⟩
        rw [hxf] at hxe
        have hw5 := o5.one
        have hlow : refsLow H.length (.agg [.int .i64 L2.R, .int .i64 L2.T, qv, rv]) := refsLow_lom (hP4.ext (xG4.trans xO)).refsLow (hS4.ext (xG4.trans xO)).refsLow
        have e5' : callL prog raw h.length (.fn 19 [] []) [.ptr (some ⟨G4.length, 0, 0⟩), .agg [.int .i64 L2.R, .int .i64 L2.T, pv, sv]] H = some (w5, H5) := e5
        have gwH5 : H5[H4.length]? = some ⟨.cells [.int .i64 L2.R, .int .i64 L2.T, qv, rv] 26 false false, 0⟩ := xO5.get gw4
        have gwHx : H[H4.length]? = some ⟨.cells [.int .i64 L2.R, .int .i64 L2.T, qv, rv] 26 false false, 0⟩ := gwH
        have hsp := @Nat.succ_ne_zero; repeat' (first | simp (disch := first | exact dschE51 | fail) only [go_sem, ↓reduceIte, hsp, r129, q7, q14, q16, q17, q19, p1, p2, p6, p7, p40, hlti] | refine WP_drw ?_ | refine cnd_intro (fun hsp => ?_) fun hsp => ?_)
        refine WPS_go ?_
        refine WP_wild [⟨0, 26, 17, ⟨H4.length, 0, 0⟩, .agg [.int .i64 L2.R, .int .i64 L2.T, qv, rv], 4⟩] (by kernel_rfl) (by kernel_rfl) (by kernel_rfl) ⟨hlow, trivial⟩ fun K hK => ?_
        iterate 5
          rw [TRS_cons]
          refine ⟨by first | (simp (disch := first | exact dschE51 | fail) only [go_sem, ↓reduceIte, r129, q7, q14, q16, q17, q19, p1, p2, p6, p7, p40, glH, gwHx, e5', gwH5, hxe, ldsQ_cons, ldsQ_nil, if_true, Nat.reduceLeDiff]; done) | exact trivial, ?_⟩
          simp (disch := first | exact dschE51 | fail) only [go_sem, ↓reduceIte, r129, q7, q14, q16, q17, q19, p1, p2, p6, p7, p40, glH, gwHx, e5', gwH5, hxe]
        rw [TRS_nil]
        refine ⟨by first | (simp (disch := first | exact dschE51 | fail) only [go_sem, ↓reduceIte, r129, q7, q14, q16, q17, q19, p1, p2, p6, p7, p40, glH, gwHx, e5', gwH5, hxe, ldsQ_cons, ldsQ_nil, if_true, Nat.reduceLeDiff]; done) | exact trivial, ?_⟩
        subst hK
        have hsp := @Nat.succ_ne_zero; repeat' (first | simp (disch := first | exact dschE51 | fail) only [go_sem, ↓reduceIte, hsp, r129, q7, q14, q16, q17, q19, p1, p2, p6, p7, p40, glH, gwHx, e5', gwH5, hxe, Bool.false_eq_true] | refine WP_drw ?_ | refine cnd_intro (fun hsp => ?_) fun hsp => ?_)
        exact ⟨by (repeat first | exact Agree.refl | assumption | refine Agree.put rfl ?_ | refine Agree.put0 ?_ | refine Agree.sub rfl (by assumption) ?_), by omega, k5', by omega, x5'⟩
      · rintro fr2 H hA2 ⟨r129, kk, hk2, xH⟩
        have q7 := hA2 7 rfl
        have q14 := hA2 14 rfl
        have q16 := hA2 16 rfl
        have q17 := hA2 17 rfl
        have q19 := hA2 19 rfl
        try simp (disch := first | exact dschE51 | fail) only [go_sem, ↓reduceIte, p7] at q7 q14 q16 q17 q19
        have hlti : ((8 : Int) < 8) = False := eq_false (by omega)
        have xO := xH.old
        have guH := xO.get gu4
        have j3H := j3.ext ((x4.trans xG4).trans xO)
        have hsp := @Nat.succ_ne_zero; repeat' (first | simp (disch := first | exact dschE51 | fail) only [go_sem, ↓reduceIte, hsp, r129, q7, q14, q16, q17, q19, p1, p2, p6, p7, p40, hlti, guH] | refine WP_drw ?_ | refine cnd_intro (fun hsp => ?_) fun hsp => ?_)
        refine WP_count [(6, 6), (20, 24), (139, 161)] 0 cl.length (Nat.zero_le _) (fun _ i fr h' => fr 139 = .int .i64 (i : Int) ∧ Ext H h') ?_ ?_ ?_
        · exact ⟨by (simp (disch := first | exact dschE51 | fail) only [go_sem, ↓reduceIte, Int.natCast_zero]; first | done | rfl), .refl⟩
        · rintro i fr3 J hi0 hi hA3 ⟨r139, xJ⟩
          have z16 := hA3 16 rfl
          have z138 := hA3 138 rfl
          try simp (disch := first | exact dschE51 | fail) only [go_sem, ↓reduceIte, q16] at z16 z138
          have hlti : ((i : Int) < (cl.length : Int)) = True := eq_true (by omega)
          have xOJ := xO.trans xJ
          have glJ := xOJ.get gl4
          have guJ := xOJ.get gu4
          have yJ := (y4.trans xOJ).len
          have xGJ := (x4.trans xG4).trans xOJ
          obtain ⟨w6, J1, e6, z1, qw, rw6, rfl, hP6, hS6⟩ := run_part1 (base := h.length) (lv := (i : Int)) yJ glJ guJ (hPK.ext ((x3.trans x34).trans xOJ)) (hSK.ext ((x3.trans x34).trans xOJ)) (j3.ext xGJ) hc2 hcin hcup (by omega)
          obtain ⟨sl, esl⟩ : ∃ sl, sl = skipL cl (i : Int) cl.length := ⟨_, rfl⟩
          rw [← esl] at hS6
          have q6 := hP6.one
          have q7 := hS6.one
          have hsl6 : sl.Sublist cl := by
            have := skipL_sub (l := cl) (lv := (i : Int)) cl.length (Nat.le_refl _)
            rw [List.take_length, ← esl] at this
            exact this
          have hll6 : sl.length = cl.length - 1 := by
            have := skipL_len (l := cl) (lv := (i : Int)) cl.length (Nat.le_refl _)
            rw [if_pos (by omega), ← esl] at this
            exact this
          have hc6 := chkM_sub hc2 (l := sl) (by omega) (fun x hxm => hcin x (hsl6.subset hxm))
          have ok6 := lomOk_of hc6
          obtain ⟨t6, ht6⟩ := hmin sl (hsl6.trans hsub) (by omega)
          have hx6 := xpA_sub.2 ht6
          obtain ⟨J2, eJ2⟩ : ∃ J2, J2 = J1 ++ [lmB L2.R L2.T qw rw6] := ⟨_, rfl⟩
          have z2 : Ext J1 J2 := by rw [eJ2]; exact .app .refl
          have gw6 : J2[J1.length]? = some ⟨.cells [.int .i64 L2.R, .int .i64 L2.T, qw, rw6] 26 false false, 0⟩ := by rw [eJ2]; exact get_eq rfl
          have L6 : LomAt J2 (lomV L2.R L2.T qw rw6) (subL L2 sl) := ⟨qw, rw6, rfl, hP6.ext z2, hS6.ext z2⟩
          have yJ1 := ((y4.trans xOJ).trans z1).len
          have yJ2 := (((y4.trans xOJ).trans z1).trans z2).len
          obtain ⟨w7, J3, e7, z3, u7, rfl, o7⟩ := run_fewest (base := h.length) yJ2 L6 ok6
          have hf7 := fewM_truth hc6 hx6
          rw [hf7.1] at e7
          have hf7l := truth_len hf7.2.1.1
          have hps6 : (subL L2 sl).ps.length = L2.ps.length := rfl
          have hxe : ∀ base, callL prog raw base (.fn 18 [] []) [.agg [.int .i64 L2.R, .int .i64 L2.T, qw, rw6], u7] J3 = some (.bool (xplM (subL L2 sl) (fewM (subL L2 sl)).1), J3) := fun base => run_explains4 (base := base) (L := subL L2 sl) (hP6.ext (z2.trans z3)) (hS6.ext (z2.trans z3)) hc6 (o7.rows (by omega)) (by omega)
          rw [(xplM_iff hc6).2 hf7.2.1] at hxe
          have gw7 := z3.get gw6
          have hu7 := o7.one
          have e7' : callL prog raw h.length (.fn 20 [] []) [.agg [.int .i64 L2.R, .int .i64 L2.T, qw, rw6]] J2 = some (.tuple [u7, .int .i64 0], J3) := e7
          have hsp := @Nat.succ_ne_zero; repeat' (first | simp (disch := first | exact dschE51 | fail) only [go_sem, ↓reduceIte, hsp, r139, z16, z138, q7, q14, q16, q17, q19, p1, p2, p6, p7, p40, hlti, e6, ← eJ2, gw6, gw7, e7', hxe, eq_self, not_true, decide_false, Bool.not_true, Bool.false_eq_true] | refine WP_drw ?_ | refine cnd_intro (fun hsp => ?_) fun hsp => ?_)
          exact ⟨by (repeat first | exact Agree.refl | assumption | refine Agree.put rfl ?_ | refine Agree.put0 ?_ | refine Agree.sub rfl (by assumption) ?_), by omega, ((xJ.trans z1).trans z2).trans z3⟩
        · rintro fr3 J hA3 ⟨r139, xJ⟩
          have z16 := hA3 16 rfl
          have z138 := hA3 138 rfl
          try simp (disch := first | exact dschE51 | fail) only [go_sem, ↓reduceIte, q16] at z16 z138
          have hlti : ((cl.length : Int) < (cl.length : Int)) = False := eq_false (by omega)
          have hsp := @Nat.succ_ne_zero; repeat' (first | simp (disch := first | exact dschE51 | fail) only [go_sem, ↓reduceIte, hsp, r139, z16, z138, q7, q14, q16, q17, q19, p1, p2, p6, p7, p40, hlti, run_awake] | refine WP_drw ?_ | refine cnd_intro (fun hsp => ?_) fun hsp => ?_)
          exact fB rfl ((y4.trans xO).trans xJ)
end Go.AM
