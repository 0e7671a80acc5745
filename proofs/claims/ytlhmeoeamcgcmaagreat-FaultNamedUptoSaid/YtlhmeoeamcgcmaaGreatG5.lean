/-
  Contracts: a truth that is tried.
-/
import Derived.Test.YtlhmeoeamcgcmaaGreatG4
import Derived.Test.YtlhmeoeamcgcmaaGreatK1
import Derived.Test.YtlhmeoeamcgcmaaGreatE35
import Derived.Test.YtlhmeoeamcgcmaaGreatW6
set_option linter.unusedSimpArgs false
set_option linter.unusedVariables false
namespace Go.AM
open Go.Proofs.Tryz
theorem dschE34 {p : Prop} (h : p := by first | exact Nat.ne_of_beq_eq_false rfl | assumption | (apply asOne; (first | exact One.int | exact One.bool | assumption | exact Ints.one (by assumption) | exact Rows.one (by assumption) | exact Own.one (by assumption) | exact One.lit ⟨rfl, rfl, rfl⟩)) | (apply asSp; (repeat first | assumption | apply SpAt.set | (refine SpAt.new ?_ (by (first | rfl | (simp only [List.length_append, List.length_cons, List.length_nil, List.length_set]; done) | (simp only [List.length_append, List.length_cons, List.length_nil, List.length_set]; omega)))) | apply SpAt.app | apply Bytes.app); done) | (apply asBytes; (repeat first | assumption | apply Bytes.app); done) | (apply asInts; (repeat first | assumption | exact ints_nil | apply Ints.app); done) | (apply asRows; (repeat first | assumption | exact Rows.nil | apply Rows.app); done) | (apply asScal; (first | apply allS1 | apply allS2 | apply allS3 | apply allS4) <;> (first | exact One.int | exact One.bool | assumption | exact Ints.one (by assumption) | exact Rows.one (by assumption) | exact Own.one (by assumption) | exact One.lit ⟨rfl, rfl, rfl⟩)) | exact litT rfl | exact litF rfl | omega | (simp only [List.length_append, List.length_cons, List.length_nil, List.length_set, List.length_reverse]; first | done | omega) | fail) : p := h
attribute [-go_sem] put_ne put_same
attribute [local go_sem ↓] put_if
theorem SpAt.ext {h H : Heap} {id : Nat} {v : AVal} {silk : List Int} {k : Nat} (x : SpAt h id v silk k) (e : Ext h H) : SpAt H id v silk k := by
  obtain ⟨t, rfl⟩ := e
  exact x.app
/-- The heap goes on from one whose spool was turned. -/
def SpE (h : Heap) (id : Nat) (v : AVal) (silk : List Int) (k : Nat) (H : Heap) : Prop := Ext (h.set id (spB v silk k)) H
section
variable {h H H' : Heap} {id k0 k k' : Nat} {v : AVal} {silk : List Int}
theorem SpE.at (x : SpE h id v silk k H) (hS : SpAt h id v silk k0) : SpAt H id v silk k := hS.set.ext x
theorem SpE.refl (hS : SpAt h id v silk k) : SpE h id v silk k h := by
  unfold SpE
  have := hS.1
  obtain ⟨hid, hg⟩ := List.getElem?_eq_some_iff.1 this
  rw [← hg, List.set_getElem_self]
  exact .refl
theorem SpE.step (x : SpE h id v silk k H) (hid : id < h.length) : SpE h id v silk k' (H.set id (spB v silk k')) := by
  have := Ext.set2 (k := spB v silk k') x (i := id) (by simpa using hid)
  unfold SpE
  rwa [List.set_set] at this
theorem SpE.ext (x : SpE h id v silk k H) (e : Ext H H') : SpE h id v silk k H' := Ext.trans x e
theorem SpE.app {T : Heap} (x : SpE h id v silk k H) : SpE h id v silk k (H ++ T) := x.ext (.app .refl)
theorem SpE.len (x : SpE h id v silk k H) : h.length ≤ H.length := by have := Ext.len x; simpa using this
theorem SpE.get (x : SpE h id v silk k H) {i : Nat} {b : ABlk} (hi : i ≠ id) (hg : h[i]? = some b) : H[i]? = some b := Ext.get x (by rw [List.getElem?_set_ne (fun e => hi e.symm)]; exact hg)
/-- What lay behind an older heap. -/
theorem SpE.low {T : Heap} (x : SpE (h ++ T) id v silk k H) (hid : id < h.length) : SpE h id v silk k H := by
  unfold SpE at x ⊢
  rw [List.set_append_left _ _ hid] at x
  exact (Ext.app .refl).trans x
end
theorem stE34 {base : Nat} {l : List Oper} {s : St} {Q : AExit → St → Prop} : WP prog raw base (.region 7 l.toArray true) s Q = WPS prog raw base (.region 7 l.toArray true) s Q := WP_stop
attribute [local go_sem ↓ 3000] stE34
set_option maxHeartbeats 1000000 in
theorem run_tried {base id k0 : Nat} {h : Heap} {v : AVal} {silk : List Int} {L : Lom} {pv sv : AVal} (hb : base ≤ h.length) (hS : SpAt h id v silk k0) (hk : k0 ≤ 900000) (hP : Parts h pv L.ps) (hsv : One sv) (hc : chkM L = 0) :
    Ret prog raw base (.fn 131 [] []) [.ptr (some ⟨id, 0, 0⟩), lomV L.R L.T pv sv] h (fun w H => ∃ t k', (k0 ≤ k' ∧ k' ≤ k0 + 18) ∧ SpE h id v silk k' H ∧ Own encB 75 h.length H w t ∧ truOk L t) := by
  obtain ⟨k1, k2, k3, k4, k5, k6⟩ := chkM_ok hc
  have hid := lt_of_get hS.1
  have hp1 := hP.one
  have hlP : ∀ {T : Heap}, lenOpA prog (h ++ T) 22 pv = some (.int .i64 (L.ps.length : Int)) := fun {T} => (hP.ext (.app .refl)).len
  refine ret_raw func131 rfl (by kernel_rfl) ?_
  have hsp := @Nat.succ_ne_zero; repeat' (first | simp (disch := first | exact dschE34 | fail) only [go_sem, ↓reduceIte, hsp, hlP] | refine WP_drw ?_ | refine cnd_intro (fun hsp => ?_) fun hsp => ?_)
  refine WP_count [(5, 7), (11, 35)] 0 L.ps.length (Nat.zero_le _) (fun H0 i fr h' => fr 11 = .int .i64 (i : Int) ∧ ∃ t k', (k0 ≤ k' ∧ k' ≤ k0 + 3 * i) ∧ SpE H0 id v silk k' h' ∧ ∃ w, fr 5 = w ∧ Own encB 75 (h.length + 1) h' w t ∧ truOk L t ∧ (∀ b ∈ t, b.1 < (i : Int)) ∧ t.length ≤ i) ?_ ?_ ?_
  · exact ⟨by (simp (disch := first | exact dschE34 | fail) only [go_sem, ↓reduceIte, Int.natCast_zero]; first | done | rfl), [], k0, by omega, SpE.refl hS.app, _, rfl, by simp (disch := first | exact dschE34 | fail) only [go_sem, ↓reduceIte]; exact Own.nil, ⟨.nil, fun b hb => by simp at hb⟩, fun b hb => by simp at hb, Nat.le_refl _⟩
  · rintro i fr H hi0 hi hA ⟨r11, t, k', hk', xH, w, r5, hO, hT, hlt5, htl⟩
    have p0 := hA 0 rfl
    have p3 := hA 3 rfl
    have p4 := hA 4 rfl
    have p10 := hA 10 rfl
    try simp (disch := first | exact dschE34 | fail) only [go_sem, ↓reduceIte] at p0 p3 p4 p10
    have hlt : ((i : Int) < (L.ps.length : Int)) = True := eq_true (by omega)
    have hSp := xH.at hS.app
    have hkk : k' ≤ 1000000 := by omega
    have hxl := xH.len
    simp only [List.length_append, List.length_cons, List.length_nil] at hxl
    have g0 : H[h.length]? = some ⟨.cells [.int .i64 L.R, .int .i64 L.T, pv, sv] 25 false false, 0⟩ := xH.get (by omega) (by simp)
    have hoid : id < (h ++ [(⟨.cells [.int .i64 L.R, .int .i64 L.T, pv, sv] 25 false false, 0⟩ : ABlk)]).length := by simp; omega
    by_cases c1 : up silk k' 1 = 0
    · have t1 : (up silk k' 1 = 0) = True := eq_true c1
      have e1 : up silk k' (2 - 1) = up silk k' 1 := rfl
      have g0' : ∀ {b : ABlk}, (H.set id b)[h.length]? = some ⟨.cells [.int .i64 L.R, .int .i64 L.T, pv, sv] 25 false false, 0⟩ := fun {b} => by rw [List.getElem?_set_ne (by omega)]; exact g0
      have hsp := @Nat.succ_ne_zero; repeat' (first | simp (disch := first | exact dschE34 | fail) only [go_sem, ↓reduceIte, hsp, r11, r5, p0, p3, p4, p10, hlt, run_once, run_upto, e1, t1, decide_true, g0'] | refine WP_drw ?_ | refine cnd_intro (fun hsp => ?_) fun hsp => ?_)
      have u1 := up_bd (silk := silk) (k := k' + 1) (n := L.T - 1) (by omega)
      have u2 := up_bd (silk := silk) (k := k' + 1 + 1) (n := 4) (by omega)
      obtain ⟨nb, enb⟩ : ∃ nb : Brk, nb = ((i : Int), up silk (k' + 1) (L.T - 1), min (L.T - 1) (up silk (k' + 1) (L.T - 1) + up silk (k' + 1 + 1) 4)) := ⟨_, rfl⟩
      have hbk : brkOk L nb := by rw [enb]; exact ⟨by simp only; omega, by simp only; omega, by simp only; omega, by simp only; omega, by simp only; omega⟩
      have hRw : ∀ {A : Heap}, Rows encB (A ++ [rowE encB 75 [nb] 0]) (.slice (some ⟨A.length, 0, 0⟩) 1 1) [nb] := fun {A} => Rows.own (get_eq rfl) rfl (by simp)
      have x3 := (xH.step (k' := k' + 1 + 1 + 1) hoid)
      obtain ⟨v', h', ea, hO', hle, hE, h1'⟩ := ((hO.set (i := id) (k := spB v silk (k' + 1 + 1 + 1)) (by omega)).app (T := [rowE encB 75 [nb] 0])).appendR (base := base) (t := 60) hRw Fc.el60 encB_sc (by omega) (by simp; omega) (by simp) (by simp; omega)
      have bsN : ∀ {lit : Bool} {A : Heap}, bsA prog lit A 60 1 [(0, .agg [.int .i64 (i : Int), .int .i64 (up silk (k' + 1) (L.T - 1)), .int .i64 (min (L.T - 1) (up silk (k' + 1) (L.T - 1) + up silk (k' + 1 + 1) 4))])] = some (.slice (some ⟨A.length, 0, 0⟩) 1 1, A ++ [rowE encB 75 [nb] 0]) := fun {lit A} => by rw [enb]; exact bsB
      rw [List.length_set] at ea
      refine WPS_go ?_
      refine WP_wild [⟨4, 3, 24, ⟨h.length, 0, 1⟩, .int .i64 L.T, 13⟩] (by kernel_rfl) (by kernel_rfl) (by kernel_rfl) ⟨refsLow_int, trivial⟩ fun K hK => ?_
      iterate 15
        rw [TRS_cons]
        refine ⟨by first | (simp (disch := first | exact dschE34 | fail) only [go_sem, ↓reduceIte, run_upto, r11, r5, p0, p3, p4, p10, g0', bsN, ea, ldsQ_cons, ldsQ_nil, if_true, Nat.reduceLeDiff]; done) | exact trivial, ?_⟩
        simp (disch := first | exact dschE34 | fail) only [go_sem, ↓reduceIte, run_upto, r11, r5, p0, p3, p4, p10, g0', bsN, ea]
      rw [TRS_nil]
      refine ⟨by first | (simp (disch := first | exact dschE34 | fail) only [go_sem, ↓reduceIte, run_upto, r11, r5, p0, p3, p4, p10, g0', bsN, ea, ldsQ_cons, ldsQ_nil, if_true, Nat.reduceLeDiff]; done) | exact trivial, ?_⟩
      subst hK
      have hsp := @Nat.succ_ne_zero; repeat' (first | simp (disch := first | exact dschE34 | fail) only [go_sem, ↓reduceIte, hsp, run_upto, r11, r5, p0, p3, p4, p10, g0', bsN, ea] | refine WP_drw ?_ | refine cnd_intro (fun hsp => ?_) fun hsp => ?_)
      refine ⟨by (repeat first | exact Agree.refl | assumption | refine Agree.put rfl ?_ | refine Agree.put0 ?_ | refine Agree.sub rfl (by assumption) ?_), by omega, t ++ [nb], k' + 1 + 1 + 1, by omega, hE _ (by simp) (x3.trans (.app .refl)), v', rfl, hO', ⟨List.pairwise_append.2 ⟨hT.1, List.pairwise_singleton _ _, fun a ha b hb => ?_⟩, fun b hb => ?_⟩, fun b hb => ?_, by simp; omega⟩
      · rw [List.mem_singleton] at hb
        rw [hb, enb]
        exact hlt5 a ha
      · rcases List.mem_append.1 hb with hb | hb
        · exact hT.2 b hb
        · rw [List.mem_singleton] at hb; rw [hb]; exact hbk
      · rcases List.mem_append.1 hb with hb | hb
        · have := hlt5 b hb; omega
        · rw [List.mem_singleton] at hb; rw [hb, enb]; simp only; omega
    · have t1 : (up silk k' 1 = 0) = False := eq_false c1
      have e1 : up silk k' (2 - 1) = up silk k' 1 := rfl
      have hsp := @Nat.succ_ne_zero; repeat' (first | simp (disch := first | exact dschE34 | fail) only [go_sem, ↓reduceIte, hsp, r11, r5, p0, p3, p4, p10, hlt, run_once, e1, t1, decide_false] | refine WP_drw ?_ | refine cnd_intro (fun hsp => ?_) fun hsp => ?_)
      exact ⟨by (repeat first | exact Agree.refl | assumption | refine Agree.put rfl ?_ | refine Agree.put0 ?_ | refine Agree.sub rfl (by assumption) ?_), by omega, t, k' + 1, by omega, xH.step hoid, w, rfl, hO.set (by omega), hT, fun b hb => by have := hlt5 b hb; omega, by omega⟩
  · rintro fr H hA ⟨r11, t, k', hk', xH, w, r5, hO, hT, hlt5, htl⟩
    have p0 := hA 0 rfl
    have p3 := hA 3 rfl
    have p4 := hA 4 rfl
    have p10 := hA 10 rfl
    try simp (disch := first | exact dschE34 | fail) only [go_sem, ↓reduceIte] at p0 p3 p4 p10
    have hlt : ((L.ps.length : Int) < (L.ps.length : Int)) = False := eq_false (by omega)
    have hsp := @Nat.succ_ne_zero; repeat' (first | simp (disch := first | exact dschE34 | fail) only [go_sem, ↓reduceIte, hsp, r11, r5, p0, p3, p4, p10, hlt] | refine WP_drw ?_ | refine cnd_intro (fun hsp => ?_) fun hsp => ?_)
    exact ⟨t, k', by omega, xH.low hid, hO.low (by omega), hT⟩
end Go.AM
/-
  Contracts: a loom that is made, with a truth that explains it.
-/
namespace Go.AM
open Go.Proofs.Tryz
theorem dschE36 {p : Prop} (h : p := by first | exact Nat.ne_of_beq_eq_false rfl | assumption | (apply asOne; (first | exact One.int | exact One.bool | assumption | exact Ints.one (by assumption) | exact Rows.one (by assumption) | exact Own.one (by assumption) | exact One.lit ⟨rfl, rfl, rfl⟩)) | (apply asSp; (repeat first | assumption | apply SpAt.set | (refine SpAt.new ?_ (by (first | rfl | (simp only [List.length_append, List.length_cons, List.length_nil, List.length_set]; done) | (simp only [List.length_append, List.length_cons, List.length_nil, List.length_set]; omega)))) | apply SpAt.app | apply Bytes.app); done) | (apply asBytes; (repeat first | assumption | apply Bytes.app); done) | (apply asInts; (repeat first | assumption | exact ints_nil | apply Ints.app); done) | (apply asRows; (repeat first | assumption | exact Rows.nil | apply Rows.app); done) | (apply asScal; (first | apply allS1 | apply allS2 | apply allS3 | apply allS4) <;> (first | exact One.int | exact One.bool | assumption | exact Ints.one (by assumption) | exact Rows.one (by assumption) | exact Own.one (by assumption) | exact One.lit ⟨rfl, rfl, rfl⟩)) | exact litT rfl | exact litF rfl | omega | (simp only [List.length_append, List.length_cons, List.length_nil, List.length_set, List.length_reverse]; first | done | omega) | fail) : p := h
attribute [-go_sem] put_ne put_same
attribute [local go_sem ↓] put_if
/-- A part of a loom of so many ribbons. -/
def prtOk (R : Int) (p : Prt) : Prop := 0 < p.rib.length ∧ (1 ≤ p.each ∧ p.each ≤ 4) ∧ (0 ≤ p.ph ∧ p.ph ≤ p.each - 1) ∧ (∀ r ∈ p.rib, 0 ≤ r ∧ r ≤ R - 1) ∧ riseB p.rib = true
def sgtOk (R T : Int) (s : Sgt) : Prop := (0 ≤ s.rib ∧ s.rib ≤ R - 1) ∧ (0 ≤ s.lo ∧ s.lo ≤ T - 1) ∧ (0 ≤ s.hi ∧ s.hi ≤ T - 1) ∧ s.lo ≤ s.hi
theorem riseB_of {l : List Int} (h : l.Pairwise (· < ·)) : riseB l = true := by
  refine decide_eq_true fun i hi h0 => ?_
  rw [getD_at hi, getD_at (show i - 1 < l.length by omega)]
  exact List.pairwise_iff_getElem.1 h _ _ _ hi (by omega)
theorem nodup_len {R : Int} {l : List Int} (hp : l.Pairwise (· < ·)) (hr : ∀ x ∈ l, 0 ≤ x ∧ x ≤ R - 1) : (l.length : Int) ≤ max R 0 := by
  have hn : l.Nodup := hp.imp fun h => by omega
  have := pigeon (R := fun (a : Int) (b : Nat) => a = (b : Int)) (t := List.range R.toNat) hn (fun a ha => ⟨a.toNat, List.mem_range.2 (by have := hr a ha; omega), by have := hr a ha; omega⟩) (fun a _ c _ b _ h1 h2 => h1.trans h2.symm)
  rw [List.length_range] at this
  omega
theorem small_rise {R : Int} {p : Prt} (h : prtOk R p) (hR : R ≤ 1000 := by omega) : Small p.rib := by
  obtain ⟨_, _, _, h4, h5⟩ := h
  have := nodup_len (rise_pair h5) h4
  exact ⟨by omega, fun x hx => by have := h4 x hx; omega⟩
theorem run_sgt' {base : Nat} {h : Heap} {r lo hi : Int} {b : Bool} : callL prog raw base (.fn 54 [] []) [.int .i64 r, .int .i64 lo, .int .i64 hi, .bool b] h = some (.agg [.int .i64 r, .int .i64 lo, .int .i64 hi, .bool b], h) := run_sgt
theorem truth_len {L : Lom} {t : List Brk} (ht : truOk L t) : t.length ≤ L.ps.length := by
  have hp := (List.pairwise_map (f := fun b : Brk => b.1) (R := (· < ·))).2 ht.1
  have := nodup_len (R := L.ps.length) hp (fun x hx => by
    obtain ⟨b, hb, rfl⟩ := List.mem_map.1 hx
    have := ht.2 b hb
    exact ⟨this.1, by have := this.2.1; omega⟩)
  rw [List.length_map] at this
  omega
theorem stE36 {base : Nat} {l : List Oper} {s : St} {Q : AExit → St → Prop} : WP prog raw base (.region 19 l.toArray true) s Q = WPS prog raw base (.region 19 l.toArray true) s Q := WP_stop
attribute [local go_sem ↓ 3000] stE36
set_option maxHeartbeats 2000000 in
theorem run_made {base id k0 : Nat} {h : Heap} {v : AVal} {silk : List Int} {T0 P0 S0 : Int} (hb : base ≤ h.length) (hS : SpAt h id v silk k0) (hk : k0 ≤ 1000) (hT0 : 1 ≤ T0 ∧ T0 ≤ 12) (hP0 : 1 ≤ P0 ∧ P0 ≤ 6) (hS0 : 0 ≤ S0 ∧ S0 ≤ 10) :
    Ret prog raw base (.fn 60 [] []) [.ptr (some ⟨id, 0, 0⟩), .int .i64 T0, .int .i64 P0, .int .i64 S0] h (fun w H => ∃ L t k' pv sv tv, (k0 ≤ k' ∧ k' ≤ k0 + 1000) ∧ SpE h id v silk k' H ∧ w = .tuple [lomV L.R L.T pv sv, tv] ∧ OwnP h.length H pv L.ps ∧ Own encS 56 h.length H sv L.ss ∧ Own encB 75 h.length H tv t ∧ chkM L = 0 ∧ XpA L t ∧ L.R ≤ 4 ∧ L.T ≤ T0 ∧ L.ps.length ≤ P0 ∧ L.ss.length ≤ S0) := by
  have hid := lt_of_get hS.1
  refine ret_raw func60 rfl (by kernel_rfl) ?_
  have hsp := @Nat.succ_ne_zero; repeat' (first | simp (disch := first | exact dschE36 | fail) only [go_sem, ↓reduceIte, hsp, run_from] | refine WP_drw ?_ | refine cnd_intro (fun hsp => ?_) fun hsp => ?_)
  have uR := up_bd (silk := silk) (k := k0) (n := 4 - 1) (by omega)
  have uT := up_bd (silk := silk) (k := k0 + 1) (n := T0 - 1) (by omega)
  have uP := up_bd (silk := silk) (k := k0 + 1 + 1) (n := P0 - 1) (by omega)
  have hR : 1 ≤ 1 + up silk k0 (4 - 1) ∧ 1 + up silk k0 (4 - 1) ≤ 4 := by omega
  have hT : 1 ≤ 1 + up silk (k0 + 1) (T0 - 1) ∧ 1 + up silk (k0 + 1) (T0 - 1) ≤ T0 := by omega
  obtain ⟨n, en⟩ := Int.eq_ofNat_of_zero_le (show 0 ≤ 1 + up silk (k0 + 1 + 1) (P0 - 1) by omega)
  have hn : 1 ≤ n ∧ (n : Int) ≤ P0 := by omega
  simp only [en]
  generalize 1 + up silk k0 (4 - 1) = R at hR ⊢
  generalize 1 + up silk (k0 + 1) (T0 - 1) = T at hT ⊢
  clear uR uT uP en
  have hSr : SpAt (h ++ [lmB 0 0 (.slice none 0 0) (.slice none 0 0)]) id v silk k0 := hS.app
  have hidr : id < (h ++ [lmB 0 0 (.slice none 0 0) (.slice none 0 0)]).length := by simp; omega
  refine WP_count [(11, 13), (26, 70)] 0 n (Nat.zero_le _) (fun _ i fr h' => fr 26 = .int .i64 (i : Int) ∧ ∃ ps pv k', (k0 ≤ k' ∧ k' ≤ k0 + 3 + 10 * i) ∧ SpE (h ++ [lmB 0 0 (.slice none 0 0) (.slice none 0 0)]) id v silk k' h' ∧ h'[h.length + 1]? = some (lmB R T pv (.slice none 0 0)) ∧ OwnP (h.length + 2) h' pv ps ∧ ps.length = i ∧ (∀ p ∈ ps, prtOk R p) ∧ h.length + 2 ≤ h'.length) ?_ ?_ ?_
  · refine ⟨by (simp (disch := first | exact dschE36 | fail) only [go_sem, ↓reduceIte, Int.natCast_zero]; first | done | rfl), [], _, k0 + 1 + 1 + 1, by omega, ?_, by simp, OwnP.nil, rfl, fun p hp => by simp at hp, by simp⟩
    exact ((SpE.refl hSr).step hidr).ext (by rw [List.set_append_left _ _ hid]; exact .app .refl)
  · rintro i fr H hi0 hi hA ⟨r26, ps, pv, k', hk', xH, gL, oP, hpl, hps, hHl⟩
    have p0 := hA 0 rfl
    have p3 := hA 3 rfl
    have p8 := hA 8 rfl
    have p9 := hA 9 rfl
    have p10 := hA 10 rfl
    have p25 := hA 25 rfl
    try simp (disch := first | exact dschE36 | fail) only [go_sem, ↓reduceIte] at p0 p3 p8 p9 p10 p25
    have hlt : ((i : Int) < (n : Int)) = True := eq_true (by omega)
    have hSp := xH.at hSr
    have hkk : k' ≤ 900000 := by omega
    have hpv1 := oP.one
    have gL' : ∀ {b : ABlk}, (H.set id b)[h.length + 1]? = some (lmB R T pv (.slice none 0 0)) := fun {b} => by rw [List.getElem?_set_ne (by omega)]; exact gL
    have ue := up_bd (silk := silk) (k := k') (n := 4 - -1) (by omega)
    have he : 1 ≤ max 1 (-1 + up silk k' (4 - -1)) ∧ max 1 (-1 + up silk k' (4 - -1)) ≤ 4 := by omega
    have uf := up_bd (silk := silk) (k := k' + 1 + 1) (n := max 1 (-1 + up silk k' (4 - -1)) - 1) (by omega)
    have us := up_bd (silk := silk) (k := k' + 1 + 1 + 1) (n := R - 1) (by omega)
    have hsp := @Nat.succ_ne_zero; repeat' (first | simp (disch := first | exact dschE36 | fail) only [go_sem, ↓reduceIte, hsp, r26, p0, p3, p8, p9, p10, p25, hlt, run_from, run_once, run_upto, gL'] | refine WP_drw ?_ | refine cnd_intro (fun hsp => ?_) fun hsp => ?_)
    clear gL'
    generalize up silk (k' + 1 + 1) (max 1 (-1 + up silk k' (4 - -1)) - 1) = ph at uf ⊢
    generalize max 1 (-1 + up silk k' (4 - -1)) = each at he uf ⊢
    generalize decide (up silk (k' + 1) (2 - 1) = 0) = wv
    generalize up silk (k' + 1 + 1 + 1) (R - 1) = sure at us ⊢
    obtain ⟨nR, enR⟩ := Int.eq_ofNat_of_zero_le (show 0 ≤ R by omega)
    refine WP_count [(13, 13), (47, 63)] 0 nR (Nat.zero_le _) (fun _ r fr h' => fr 47 = .int .i64 (r : Int) ∧ ∃ l w k2, (k' + 4 ≤ k2 ∧ k2 ≤ k' + 4 + r) ∧ SpE H id v silk k2 h' ∧ h'[H.length]? = some (prB w each ph wv) ∧ Own encI 3 (H.length + 1) h' w l ∧ l.Pairwise (· < ·) ∧ (∀ x ∈ l, 0 ≤ x ∧ x < (r : Int)) ∧ (sure < (r : Int) → sure ∈ l) ∧ l.length ≤ r ∧ H.length + 1 ≤ h'.length) ?_ ?_ ?_
    · refine ⟨by (simp (disch := first | exact dschE36 | fail) only [go_sem, ↓reduceIte, Int.natCast_zero]; first | done | rfl), [], _, k' + 1 + 1 + 1 + 1, by omega, ?_, get_eq (by simp), Own.nil, .nil, fun x hx => by simp at hx, fun q => by omega, Nat.le_refl _, by simp⟩
      exact ((SpE.refl hSp).step (lt_of_get hSp.1)).app
    · rintro r fr2 H2 hr0 hr hA2 ⟨r47, l, w, k2, hk2, x2, gP, oW, hpw, hln, hsu, hll, hH2⟩
      have q0 := hA2 0 rfl
      have q3 := hA2 3 rfl
      have q8 := hA2 8 rfl
      have q9 := hA2 9 rfl
      have q10 := hA2 10 rfl
      have q11 := hA2 11 rfl
      have q12 := hA2 12 rfl
      have q25 := hA2 25 rfl
      have q26 := hA2 26 rfl
      have q46 := hA2 46 rfl
      try simp (disch := first | exact dschE36 | fail) only [go_sem, ↓reduceIte, p0, p3, p8, p9, p10, p25] at q0 q3 q8 q9 q10 q11 q12 q25 q26 q46
      have q46 := hA2 46 rfl; simp (disch := first | exact dschE36 | fail) only [go_sem, ↓reduceIte] at q46
      have hltr : ((r : Int) < R) = True := eq_true (by omega)
      have hSp2 := x2.at hSp
      have hk2' : k2 ≤ 900000 := by omega
      have hidH := lt_of_get hSp.1
      have hw1 := oW.one
      have grow : ∀ (k3 : Nat) (Hc : Heap), SpE H id v silk k3 Hc → Hc[H.length]? = some (prB w each ph wv) → Own encI 3 (H.length + 1) Hc w l → H.length + 1 ≤ Hc.length → ∃ w' H', appendA prog base Hc 36 w (.vals [.int .i64 (r : Int)]) = some (w', H') ∧ H'[H.length]? = some ⟨.cells [w, .int .i64 each, .int .i64 ph, .bool wv] 81 false false, 0⟩ ∧ One w' ∧ SpE H id v silk k3 (H'.set H.length (prB w' each ph wv)) ∧ (H'.set H.length (prB w' each ph wv))[H.length]? = some (prB w' each ph wv) ∧ Own encI 3 (H.length + 1) (H'.set H.length (prB w' each ph wv)) w' (l ++ [(r : Int)]) ∧ H.length + 1 ≤ (H'.set H.length (prB w' each ph wv)).length := by
        intro k3 Hc y1 y2 y3 y4
        obtain ⟨w', H', a1, a2, a3, a4, a5, a6⟩ := y3.append1X (P := prog) (y := (r : Int)) (base := base) (t := 36) rfl rfl Fc.el36 encI_sc (by omega) y4 (by omega)
        have kp : KeepO encI 3 Hc H' := a6
        have g := kp.box (i := H.length) y2
        exact ⟨w', H', a1, g, a5, (a4 _ (by simp) y1).set (by simp), by rw [List.getElem?_set_self (by omega)], a2.setBox g, by rw [List.length_set]; omega⟩
      have grown : (l ++ [(r : Int)]).Pairwise (· < ·) ∧ (∀ x ∈ l ++ [(r : Int)], 0 ≤ x ∧ x < ((r + 1 : Nat) : Int)) ∧ (l ++ [(r : Int)]).length ≤ r + 1 := by
        refine ⟨List.pairwise_append.2 ⟨hpw, List.pairwise_singleton _ _, fun a ha b hb => ?_⟩, fun x hx => ?_, by simp; omega⟩
        · rw [List.mem_singleton] at hb; have := hln a ha; omega
        · rcases List.mem_append.1 hx with hx | hx
          · have := hln x hx; omega
          · rw [List.mem_singleton] at hx; omega
      by_cases c1 : (r : Int) = sure
      · obtain ⟨w', H', a1, a2, a3, a4, a5, a6, a7⟩ := grow k2 H2 x2 gP oW hH2
        have t1 : ((r : Int) = sure) = True := eq_true c1
        have hsp := @Nat.succ_ne_zero; repeat' (first | simp (disch := first | exact dschE36 | fail) only [go_sem, ↓reduceIte, hsp, r47, q0, q3, q8, q9, q10, q11, q12, q25, q26, q46, q46, hltr, t1, gP, prB, a1, a2] | refine WP_drw ?_ | refine cnd_intro (fun hsp => ?_) fun hsp => ?_)
        exact ⟨by (repeat first | exact Agree.refl | assumption | refine Agree.put rfl ?_ | refine Agree.put0 ?_ | refine Agree.sub rfl (by assumption) ?_), by omega, _, w', k2, by omega, a4, a5, a6, grown.1, grown.2.1, fun _ => List.mem_append_right _ (by simp [c1]), grown.2.2, by simpa using a7⟩
      · have t1 : ((r : Int) = sure) = False := eq_false c1
        by_cases c2 : up silk k2 (3 - 1) = 0
        · have t2 : (up silk k2 (3 - 1) = 0) = True := eq_true c2
          obtain ⟨w', H', a1, a2, a3, a4, a5, a6, a7⟩ := grow (k2 + 1) (H2.set id (spB v silk (k2 + 1))) (x2.step hidH) (by rw [List.getElem?_set_ne (by omega)]; exact gP) (oW.set (by omega)) (by rw [List.length_set]; exact hH2)
          have hsp := @Nat.succ_ne_zero; repeat' (first | simp (disch := first | exact dschE36 | fail) only [go_sem, ↓reduceIte, hsp, r47, q0, q3, q8, q9, q10, q11, q12, q25, q26, q46, q46, hltr, t1, t2, run_once, decide_true, gP, prB, a1, a2] | refine WP_drw ?_ | refine cnd_intro (fun hsp => ?_) fun hsp => ?_)
          exact ⟨by (repeat first | exact Agree.refl | assumption | refine Agree.put rfl ?_ | refine Agree.put0 ?_ | refine Agree.sub rfl (by assumption) ?_), by omega, _, w', k2 + 1, by omega, a4, a5, a6, grown.1, grown.2.1, fun q => List.mem_append_left _ (hsu (by omega)), grown.2.2, by simpa using a7⟩
        · have t2 : (up silk k2 (3 - 1) = 0) = False := eq_false c2
          have hsp := @Nat.succ_ne_zero; repeat' (first | simp (disch := first | exact dschE36 | fail) only [go_sem, ↓reduceIte, hsp, r47, q0, q3, q8, q9, q10, q11, q12, q25, q26, q46, q46, hltr, t1, t2, run_once, decide_false, gP, prB] | refine WP_drw ?_ | refine cnd_intro (fun hsp => ?_) fun hsp => ?_)
          exact ⟨by (repeat first | exact Agree.refl | assumption | refine Agree.put rfl ?_ | refine Agree.put0 ?_ | refine Agree.sub rfl (by assumption) ?_), by omega, l, w, k2 + 1, by omega, x2.step hidH, rfl, oW.set (by omega), hpw, fun x hx => by have := hln x hx; omega, fun q => hsu (by omega), by omega, hH2⟩
    · rintro fr2 H2 hA2 ⟨r47, l, w, k2, hk2, x2, gP, oW, hpw, hln, hsu, hll, hH2⟩
      have q0 := hA2 0 rfl
      have q3 := hA2 3 rfl
      have q8 := hA2 8 rfl
      have q9 := hA2 9 rfl
      have q10 := hA2 10 rfl
      have q11 := hA2 11 rfl
      have q12 := hA2 12 rfl
      have q25 := hA2 25 rfl
      have q26 := hA2 26 rfl
      have q46 := hA2 46 rfl
      try simp (disch := first | exact dschE36 | fail) only [go_sem, ↓reduceIte, p0, p3, p8, p9, p10, p25] at q0 q3 q8 q9 q10 q11 q12 q25 q26 q46
      have q46 := hA2 46 rfl; simp (disch := first | exact dschE36 | fail) only [go_sem, ↓reduceIte] at q46
      have hltr : ((nR : Int) < R) = False := eq_false (by omega)
      have gL2 : H2[h.length + 1]? = some (lmB R T pv (.slice none 0 0)) := x2.get (by omega) gL
      have hw1 := oW.one
      have bsW : ∀ {lit : Bool} {A : Heap}, bsA prog lit A 22 1 [(0, .agg [w, .int .i64 each, .int .i64 ph, .bool wv])] = some (.slice (some ⟨A.length, 0, 0⟩) 1 1, A ++ [rowE encP 81 [⟨w, each, ph, wv⟩] 0]) := fun {lit A} => by
        simp [bsA, rowOf, Fc.el22, fillA, repCells, AVal.isN, AVal.cells, splice, rowE, flat, encP, norm_one hw1]
      have oP2 := ((oP.setBox (k := spB v silk k2) hSp.1).ext x2).ext (.app (t := [rowE encP 81 [⟨w, each, ph, wv⟩] 0]) .refl)
      have oW2 := (oW.low (b' := h.length + 2) (by omega)).app (T := [rowE encP 81 [⟨w, each, ph, wv⟩] 0])
      obtain ⟨v', h', a1, a2, a3, a4, a5, a6⟩ := oP2.snoc (base := base) (p := ⟨l, each, ph, wv⟩) oW2 (by omega) (by simp; omega) (by omega) (by simp)
      have gL3 := a6.box (i := h.length + 1) (get_app gL2)
      simp only [List.length_append, List.length_cons, List.length_nil] at a3
      rw [List.length_append, List.length_cons, List.length_nil, Nat.zero_add, Nat.add_sub_cancel] at a1
      have hsp := @Nat.succ_ne_zero; repeat' (first | simp (disch := first | exact dschE36 | fail) only [go_sem, ↓reduceIte, hsp, r26, r47, q0, q3, q8, q9, q10, q11, q12, q25, q26, q46, q46, hltr, gP, gL2, prB, bsW, a1, gL3] | refine WP_drw ?_ | refine cnd_intro (fun hsp => ?_) fun hsp => ?_)
      have y4 : SpE (h ++ [lmB 0 0 (.slice none 0 0) (.slice none 0 0)]) id v silk k2 (H2 ++ [rowE encP 81 [⟨w, each, ph, wv⟩] 0]) := ((xH.step (k' := k2) hidr).ext x2).app
      refine ⟨by (repeat first | exact Agree.refl | assumption | refine Agree.put rfl ?_ | refine Agree.put0 ?_ | refine Agree.sub rfl (by assumption) ?_), by omega, ps ++ [⟨l, each, ph, wv⟩], v', k2, by omega, (a4 _ (by simp) y4).set (by simp), rfl, a2.setBox gL3, by simp [hpl], fun p hp => ?_, by omega⟩
      rcases List.mem_append.1 hp with hp | hp
      · exact hps p hp
      · rw [List.mem_singleton] at hp
        subst hp
        have hm := hsu (by omega)
        exact ⟨List.length_pos_of_mem hm, he, by simp only; omega, fun x hx => by have := hln x hx; omega, riseB_of hpw⟩
  · rintro fr H hA ⟨r26, ps, pv, k', hk', xH, gL, oP, hpl, hps, hHl⟩
    have p0 := hA 0 rfl
    have p3 := hA 3 rfl
    have p8 := hA 8 rfl
    have p9 := hA 9 rfl
    have p10 := hA 10 rfl
    have p25 := hA 25 rfl
    try simp (disch := first | exact dschE36 | fail) only [go_sem, ↓reduceIte] at p0 p3 p8 p9 p10 p25
    have hlt : ((n : Int) < (n : Int)) = False := eq_false (by omega)
    have hsm : ∀ p ∈ ps, Small p.rib := fun p hp => small_rise (hps p hp)
    have hPP := oP.parts (by omega) hsm
    have hc0 : chkM ⟨R, T, ps, []⟩ = 0 := chkM_of (L := ⟨R, T, ps, []⟩) (by simp only; omega) (by simp only; omega) (by simp only; omega) (by simp) hps (fun s hs => by simp at hs)
    obtain ⟨w1, H1, e1, t, k1, hk1, y1, oT, hT1⟩ := run_tried (base := base) (L := ⟨R, T, ps, []⟩) (sv := .slice none 0 0) (by omega) (xH.at hSr) (by omega) hPP ⟨rfl, rfl, rfl⟩ hc0
    have hid1 := lt_of_get (xH.at hSr).1
    have gL1 : H1[h.length + 1]? = some (lmB R T pv (.slice none 0 0)) := y1.get (by omega) gL
    have hSp1 := y1.at (xH.at hSr)
    have uS := up_bd (silk := silk) (k := k1) (n := S0) (by omega)
    obtain ⟨m, em⟩ := Int.eq_ofNat_of_zero_le (show 0 ≤ up silk k1 S0 by omega)
    have hk1' : k1 ≤ 900000 := by omega
    have hw1 := oT.one
    have hsp := @Nat.succ_ne_zero; repeat' (first | simp (disch := first | exact dschE36 | fail) only [go_sem, ↓reduceIte, hsp, r26, p0, p3, p8, p9, p10, p25, hlt, gL, e1, run_upto, em] | refine WP_drw ?_ | refine cnd_intro (fun hsp => ?_) fun hsp => ?_)
    have oP1 := ((oP.setBox (k := spB v silk k1) (xH.at hSr).1).ext y1)
    refine WP_count [(15, 16), (77, 110)] 0 m (Nat.zero_le _) (fun _ j fr h' => fr 77 = .int .i64 (j : Int) ∧ ∃ ss sv k2, (k1 + 1 ≤ k2 ∧ k2 ≤ k1 + 1 + 3 * j) ∧ SpE (h ++ [lmB 0 0 (.slice none 0 0) (.slice none 0 0)]) id v silk k2 h' ∧ h'[h.length + 1]? = some (lmB R T pv sv) ∧ OwnP (h.length + 2) h' pv ps ∧ Own encS 56 (h.length + 2) h' sv ss ∧ Own encB 75 (h.length + 2) h' w1 t ∧ ss.length = j ∧ (∀ s ∈ ss, sgtOk R T s ∧ s.bad = badB ⟨R, T, ps, []⟩ t s) ∧ h.length + 2 ≤ h'.length) ?_ ?_ ?_
    · have y2 : SpE (h ++ [lmB 0 0 (.slice none 0 0) (.slice none 0 0)]) id v silk k1 H1 := (xH.step (k' := k1) hidr).ext y1
      have hl1 := y1.len
      exact ⟨by (simp (disch := first | exact dschE36 | fail) only [go_sem, ↓reduceIte, Int.natCast_zero]; first | done | rfl), [], .slice none 0 0, k1 + 1, by omega, y2.step hidr, by rw [List.getElem?_set_ne (by omega)]; exact gL1, oP1.setBox hSp1.1, Own.nil, (oT.low (by omega)).set (by omega), rfl, fun s hs => by simp at hs, by rw [List.length_set]; omega⟩
    · rintro j fr2 G hj0 hj hA2 ⟨r77, ss, sv, k2, hk2, xG, gG, oPG, oSG, oTG, hsl, hss, hGl⟩
      have q0 := hA2 0 rfl
      have q8 := hA2 8 rfl
      have q9 := hA2 9 rfl
      have q10 := hA2 10 rfl
      have q14 := hA2 14 rfl
      have q76 := hA2 76 rfl
      try simp (disch := first | exact dschE36 | fail) only [go_sem, ↓reduceIte] at q0 q8 q9 q10 q14 q76
      have hltj : ((j : Int) < (m : Int)) = True := eq_true (by omega)
      have hSpG := xG.at hSr
      have hk2' : k2 ≤ 900000 := by omega
      have hsv1 := oSG.one
      have hpv1 := oPG.one
      have gG' : ∀ {b : ABlk}, (G.set id b)[h.length + 1]? = some ⟨.cells [.int .i64 R, .int .i64 T, pv, sv] 25 false false, 0⟩ := fun {b} => by rw [List.getElem?_set_ne (by omega)]; exact gG
      have u1 := up_bd (silk := silk) (k := k2) (n := T - 1) (by omega)
      have u2 := up_bd (silk := silk) (k := k2 + 1) (n := R - 1) (by omega)
      have u3 := up_bd (silk := silk) (k := k2 + 1 + 1) (n := 3) (by omega)
      have hsp := @Nat.succ_ne_zero; repeat' (first | simp (disch := first | exact dschE36 | fail) only [go_sem, ↓reduceIte, hsp, r77, q0, q8, q9, q10, q14, q76, p0, p3, p8, p9, p10, p25, hltj, run_upto, gG, gG'] | refine WP_drw ?_ | refine cnd_intro (fun hsp => ?_) fun hsp => ?_)
      refine WPS_go ?_
      refine WP_wild [⟨7, 3, 90, ⟨h.length + 1, 0, 1⟩, .int .i64 T, 14⟩] (by kernel_rfl) (by kernel_rfl) (by kernel_rfl) ⟨refsLow_int, trivial⟩ fun K hK => ?_
      iterate 17
        rw [TRS_cons]
        refine ⟨by first | (simp (disch := first | exact dschE36 | fail) only [go_sem, ↓reduceIte, run_upto, run_sgt', r77, q0, q8, q9, q10, q14, q76, p0, p3, p8, p9, p10, p25, gG', ldsQ_cons, ldsQ_nil, if_true, Nat.reduceLeDiff]; done) | exact trivial, ?_⟩
        simp (disch := first | exact dschE36 | fail) only [go_sem, ↓reduceIte, run_upto, run_sgt', r77, q0, q8, q9, q10, q14, q76, p0, p3, p8, p9, p10, p25, gG']
      rw [TRS_nil]
      refine ⟨by first | (simp (disch := first | exact dschE36 | fail) only [go_sem, ↓reduceIte, run_upto, run_sgt', r77, q0, q8, q9, q10, q14, q76, p0, p3, p8, p9, p10, p25, gG', ldsQ_cons, ldsQ_nil, if_true, Nat.reduceLeDiff]; done) | exact trivial, ?_⟩
      subst hK
      generalize up silk k2 (T - 1) = lo at u1 ⊢
      generalize up silk (k2 + 1) (R - 1) = rb at u2 ⊢
      obtain ⟨hi, ehi⟩ : ∃ hi, hi = min (T - 1) (lo + up silk (k2 + 1 + 1) 3) := ⟨_, rfl⟩
      rw [← ehi]
      have hs0 : sgtOk R T ⟨rb, lo, hi, false⟩ := ⟨by simp only; omega, by simp only; omega, by simp only; omega, by simp only; omega⟩
      obtain ⟨bb, ebb⟩ : ∃ bb, bb = badB ⟨R, T, ps, ss⟩ t ⟨rb, lo, hi, false⟩ := ⟨_, rfl⟩
      have x3 := xG.step (k' := k2 + 1 + 1 + 1) hidr
      have oP3 := oPG.setBox (k := spB v silk (k2 + 1 + 1 + 1)) hSpG.1
      have oS3 := oSG.setBox (k := spB v silk (k2 + 1 + 1 + 1)) hSpG.1
      have oT3 := oTG.setBox (k := spB v silk (k2 + 1 + 1 + 1)) hSpG.1
      have gG3 := gG' (b := spB v silk (k2 + 1 + 1 + 1))
      have hl3 : (G.set id (spB v silk (k2 + 1 + 1 + 1))).length = G.length := List.length_set
      generalize G.set id (spB v silk (k2 + 1 + 1 + 1)) = G3 at x3 oP3 oS3 oT3 gG3 hl3 ⊢
      have hcS : chkM ⟨R, T, ps, ss⟩ = 0 := chkM_of (by simp only; omega) (by simp only; omega) (by simp only; omega) (by simp only; omega) hps (fun s hs => (hss s hs).1)
      have htl : t.length ≤ 1000 := by have := truth_len hT1; simp only at this; omega
      have eb : ∀ {base : Nat} {c : ABlk}, callL prog raw base (.fn 132 [] []) [.agg [.int .i64 R, .int .i64 T, pv, sv], w1, .agg [.int .i64 rb, .int .i64 lo, .int .i64 hi, .bool false]] (G3 ++ [c]) = some (.bool bb, G3 ++ [c]) := fun {base c} => by
        rw [ebb]
        exact run_bad (L := ⟨R, T, ps, ss⟩) ((oP3.parts (by omega) hsm).ext (.app .refl)) hsv1 hcS ((oT3.rows (by omega)).app) hT1.2 (s := ⟨rb, lo, hi, false⟩) (by unfold sgOk; simp only; omega)
      obtain ⟨v', h', a1, a2, a3, a4, a5, a6⟩ := ((oS3.app (T := [sgB' ⟨rb, lo, hi, bb⟩])).app (T := [rowE encS 56 [⟨rb, lo, hi, bb⟩] 0])).appendRX (P := prog) (x := .slice (some ⟨G.length + 1, 0, 0⟩) 1 1) (m := [⟨rb, lo, hi, bb⟩]) (base := base) (t := 23) (Rows.own (get_eq (by simp; omega)) rfl (by simp)) Fc.el23 encS_sc (by omega) (by simp; omega) (by simp) (by simp; omega)
      have kp : KeepO encS 56 _ h' := a6
      have gL4 := kp.box (i := h.length + 1) (get_app (get_app gG3))
      rw [sgB'] at a1
      simp only [List.length_append, List.length_cons, List.length_nil] at a3
      have bs1 : ∀ {lit : Bool} {A : Heap}, bsA prog lit A 23 1 [(0, .agg [.int .i64 rb, .int .i64 lo, .int .i64 hi, .bool bb])] = some (.slice (some ⟨A.length, 0, 0⟩) 1 1, A ++ [rowE encS 56 [⟨rb, lo, hi, bb⟩] 0]) := fun {lit A} => bsS1 (s := ⟨rb, lo, hi, bb⟩)
      have hsp := @Nat.succ_ne_zero; repeat' (first | simp (disch := first | exact dschE36 | fail) only [go_sem, ↓reduceIte, hsp, r77, q0, q8, q9, q10, q14, q76, p0, p3, p8, p9, p10, p25, gG3, hl3, eb, bs1, a1, gL4] | refine WP_drw ?_ | refine cnd_intro (fun hsp => ?_) fun hsp => ?_)
      have oP4 := ((oP3.ext (.app (t := [sgB' ⟨rb, lo, hi, bb⟩]) .refl)).ext (.app (t := [rowE encS 56 [⟨rb, lo, hi, bb⟩] 0]) .refl)).mapH (H' := h') (fun _ _ y => kp.own y (by decide)) (fun _ _ y => kp.own y (by decide))
      have oT4 := kp.own (oT3.app.app) (by decide)
      refine ⟨by (repeat first | exact Agree.refl | assumption | refine Agree.put rfl ?_ | refine Agree.put0 ?_ | refine Agree.sub rfl (by assumption) ?_), by omega, ss ++ [⟨rb, lo, hi, bb⟩], v', k2 + 1 + 1 + 1, by omega, (a4 _ (by simp) x3.app.app).set (by simp), rfl, oP4.setBox gL4, a2.setBox gL4, oT4.setBox gL4, by simp [hsl], fun s hs => ?_, by omega⟩
      rcases List.mem_append.1 hs with hs | hs
      · exact hss s hs
      · rw [List.mem_singleton] at hs
        subst hs
        exact ⟨hs0, ebb⟩
    · rintro fr2 G hA2 ⟨r77, ss, sv, k2, hk2, xG, gG, oPG, oSG, oTG, hsl, hss, hGl⟩
      have q0 := hA2 0 rfl
      have q8 := hA2 8 rfl
      have q9 := hA2 9 rfl
      have q10 := hA2 10 rfl
      have q14 := hA2 14 rfl
      have q76 := hA2 76 rfl
      try simp (disch := first | exact dschE36 | fail) only [go_sem, ↓reduceIte] at q0 q8 q9 q10 q14 q76
      have hltj : ((m : Int) < (m : Int)) = False := eq_false (by omega)
      have hsv1 := oSG.one
      have hpv1 := oPG.one
      have gR : G[h.length]? = some (lmB 0 0 (.slice none 0 0) (.slice none 0 0)) := xG.get (by omega) (by simp)
      have hsp := @Nat.succ_ne_zero; repeat' (first | simp (disch := first | exact dschE36 | fail) only [go_sem, ↓reduceIte, hsp, r77, q0, q8, q9, q10, q14, q76, p0, p3, p8, p9, p10, p25, hltj, gG, gR] | refine WP_drw ?_ | refine cnd_intro (fun hsp => ?_) fun hsp => ?_)
      have x4 : SpE h id v silk k2 (G.set h.length (lmB R T pv sv)) := Ext.set (xG.low hid) (by simp)
      have hss2 : ∀ s ∈ ss, sgtOk R T s := fun s hs => (hss s hs).1
      refine ⟨⟨R, T, ps, ss⟩, t, k2, pv, sv, w1, by omega, x4, rfl, ?_, (oSG.setBox gR).low (by omega), (oTG.setBox gR).low (by omega), chkM_of (by simp only; omega) (by simp only; omega) (by simp only; omega) (by simp only; omega) hps hss2, ⟨hT1, fun i hi => ?_⟩, by simp only; omega, by simp only; omega, by simp only; omega, by simp only; omega⟩
      · exact (oPG.setBox gR).low (by omega)
      · have hm := sgtI_mem (upto_mem.1 hi)
        have e1 : (⟨R, T, ps, ss⟩ : Lom).ss = ss := rfl
        rw [← badB_iff (L := ⟨R, T, ps, ss⟩) hT1.2]
        have := (hss _ hm).2
        unfold badI
        rw [show badB ⟨R, T, ps, ss⟩ t (sgtI ⟨R, T, ps, ss⟩ i) = (sgtI ⟨R, T, ps, ss⟩ i).bad from this.symm]
        rfl
end Go.AM
/-
  What the statements out of numbers begin with.
-/
namespace Go.AM
open Go.Proofs.Tryz
attribute [-go_sem] put_ne put_same
attribute [local go_sem ↓] put_if
theorem prtOk_of {L : Lom} (hc : chkM L = 0) : ∀ p ∈ L.ps, prtOk L.R p := (chkM_ok hc).2.2.2.2.1
theorem lomOk_of {L : Lom} (hc : chkM L = 0) : LomOk L := by
  obtain ⟨k1, k2, k3, k4, k5, k6⟩ := chkM_ok hc
  refine ⟨fun p hp => small_rise (prtOk_of hc p hp), by omega, by omega, fun p hp => by have := k5 p hp; omega, fun p hp => ?_⟩
  have := k5 p hp
  have := nodup_len (rise_pair this.2.2.2.2) this.2.2.2.1
  omega
/-- A loom that was made, with its truth, on a heap. -/
structure MadeAt (H : Heap) (L : Lom) (t : List Brk) (pv sv tv : AVal) : Prop where
  hP : Parts H pv L.ps
  hS : Rows encS H sv L.ss
  hT : Rows encB H tv t
  oT : Own encB 75 0 H tv t
  hc : chkM L = 0
  ok : LomOk L
  xp : XpA L t
theorem MadeAt.ext {H H' : Heap} {L : Lom} {t : List Brk} {pv sv tv : AVal} (x : MadeAt H L t pv sv tv) (e : Ext H H') : MadeAt H' L t pv sv tv := ⟨x.hP.ext e, x.hS.ext e, x.hT.ext e, x.oT.ext e, x.hc, x.ok, x.xp⟩
theorem MadeAt.lom {H : Heap} {L : Lom} {t : List Brk} {pv sv tv : AVal} (x : MadeAt H L t pv sv tv) : LomAt H (lomV L.R L.T pv sv) L := ⟨pv, sv, rfl, x.hP, x.hS⟩
theorem run_start {base : Nat} {h : Heap} {v : AVal} {silk : List Int} {T0 P0 S0 : Int} (hb : base ≤ h.length) (hB : Bytes h v silk) (hT0 : 1 ≤ T0 ∧ T0 ≤ 12) (hP0 : 1 ≤ P0 ∧ P0 ≤ 6) (hS0 : 0 ≤ S0 ∧ S0 ≤ 10) :
    ∃ H L t pv sv tv, callL prog raw base (.fn 60 [] []) [.ptr (some ⟨h.length, 0, 0⟩), .int .i64 T0, .int .i64 P0, .int .i64 S0] (h ++ [spB v silk 0]) = some (.tuple [lomV L.R L.T pv sv, tv], H) ∧ Ext h H ∧ MadeAt H L t pv sv tv ∧ L.R ≤ 4 ∧ L.T ≤ T0 ∧ L.ps.length ≤ P0 ∧ L.ss.length ≤ S0 := by
  have hS : SpAt (h ++ [spB v silk 0]) h.length v silk 0 := SpAt.new hB rfl
  obtain ⟨w, H, e, L, t, k', pv, sv, tv, hk, xH, rfl, oP, oS, oT, hc, hx, b1, b2, b3, b4⟩ := run_made (base := base) (T0 := T0) (P0 := P0) (S0 := S0) (by simp; omega) hS (by omega) hT0 hP0 hS0
  have ok := lomOk_of hc
  have htl := truth_len hx.1
  refine ⟨H, L, t, pv, sv, tv, e, ?_, ⟨oP.parts (by omega) ok.1, oS.rows (by omega), oT.rows (by omega), oT.low (Nat.zero_le _), hc, ok, hx⟩, b1, b2, b3, b4⟩
  unfold SpE at xH
  rw [List.set_append_right _ _ (Nat.le_refl _)] at xH
  exact (Ext.app .refl).trans xH
theorem getD_mem' {α : Type} {l : List α} {d : α} {i : Nat} (h : i < l.length) : l.getD i d ∈ l := List.mem_of_getElem? (getD_some h)
end Go.AM
