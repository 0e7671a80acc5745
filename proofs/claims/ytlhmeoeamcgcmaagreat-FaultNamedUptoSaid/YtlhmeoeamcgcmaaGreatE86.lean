/-
  FaultNamed: helpers.
-/
import Derived.Test.YtlhmeoeamcgcmaaGreatKN
import Derived.Test.YtlhmeoeamcgcmaaGreatE80
import Derived.Test.YtlhmeoeamcgcmaaGreatE64
import Derived.Test.YtlhmeoeamcgcmaaGreatE72
import Derived.Test.YtlhmeoeamcgcmaaGreatE81
import Derived.Test.YtlhmeoeamcgcmaaGreatW8
set_option linter.unusedSimpArgs false
set_option linter.unusedVariables false
namespace Go.AM
open Go.Proofs.Tryz
attribute [-go_sem] put_ne put_same
attribute [local go_sem ↓] put_if
/-- A part is put in another one's place. -/
theorem OwnQ.put {b : Nat} {H : Heap} {pv w : AVal} {ps : List Prt} {p : Prt} {k base : Nat} (x : OwnQ b H pv ps) (hw : Own encI 3 b H w p.rib) (hk : k < ps.length) (hb : base ≤ b) :
    ∃ a r, indexAddrA prog 22 pv (.int .i64 (k : Int)) = some (.ptr (some ⟨a, r, k * 4⟩)) ∧ ∃ B B', H[a]? = some B ∧ (∀ {K : ABlk → Heap}, stQ base a (some B) r (k * 4) [w, .int .i64 p.each, .int .i64 p.ph, .bool p.wv] K = some (K B')) ∧
      OwnQ b (H.set a B') pv (ps.set k p) ∧ b ≤ a ∧ (∃ l u, B = rowE encP 81 l u) := by
  obtain ⟨vs, h1, h2, h3⟩ := x
  rcases id h1 with ⟨rfl, rfl⟩ | ⟨a, u, rfl, g, hba, hp⟩
  · simp at h2; omega
  · have o1 := hw.one
    have ec : encP.cells ⟨w, p.each, p.ph, p.wv⟩ = [w, .int .i64 p.each, .int .i64 p.ph, .bool p.wv] := by simp [encP, norm_one o1]
    refine ⟨a, u, ?_, _, rowE encP 81 (vs.set k ⟨w, p.each, p.ph, p.wv⟩) u, g, ?_, ?_, hba, _, _, rfl⟩
    · rw [adr_sl Fc.el22 Fc.ar22 (by omega) (by omega), Int.toNat_natCast, Nat.zero_add]
    · intro K
      rw [← ec]
      exact stQ_rowE (E := encP) (by omega) (encP_sc _) (by omega)
    · refine ⟨vs.set k ⟨w, p.each, p.ph, p.wv⟩, .inr ⟨a, u, by rw [List.length_set], by rw [List.getElem?_set_self (lt_of_get g)], hba, by rw [List.length_set]; exact hp⟩, by rw [List.length_set, List.length_set, h2], fun i y q g1 g2 => ?_⟩
      by_cases hik : i = k
      · subst hik
        rw [List.getElem?_set_self (by omega)] at g1 g2
        cases g1; cases g2
        exact ⟨.inl (hw.setRow g (by decide)), rfl, rfl, rfl⟩
      · rw [List.getElem?_set_ne (fun e => hik e.symm)] at g1 g2
        exact ⟨(h3 i y q g1 g2).1.setRow g (by decide), (h3 i y q g1 g2).2⟩
theorem OwnQ.setRow {α : Type} {E : Enc α} {e : TypeId} {b a ver : Nat} {H : Heap} {pv : AVal} {ps : List Prt} {l : List α} {k : ABlk} (x : OwnQ b H pv ps) (hg : H[a]? = some (rowE E e l ver)) (h1 : 81 ≠ e) (h2 : 3 ≠ e) : OwnQ b (H.set a k) pv ps :=
  x.mapH (fun _ _ y => y.setRow hg h1) fun _ _ y => y.setRow hg h2
/-- A part, and its ribbons. -/
theorem Parts.at0 {h : Heap} {pv : AVal} {ps : List Prt} {k : Nat} {p : Prt} (hP : Parts h pv ps) (hp : ps[k]? = some p) : ∃ a r, indexAddrA prog 22 pv (.int .i64 (k : Int)) = some a ∧ (∀ H, Ext h H → loadP prog H 81 a = some (.agg [r, .int .i64 p.each, .int .i64 p.ph, .bool p.wv])) ∧ Ints h r p.rib ∧ fieldAddrA prog 81 a 0 = some a ∧ (∀ H, Ext h H → loadP prog H 36 a = some r) := by
  obtain ⟨vs, hR, hvl, h3⟩ := hP
  have hkl : k < ps.length := (List.getElem?_eq_some_iff.1 hp).1
  have hx : vs[k]? = some vs[k] := List.getElem?_eq_getElem (by omega)
  obtain ⟨q1, q2, q3, q4⟩ := h3 k _ _ hx hp
  have had := hR.addr (P := prog) (i := (k : Int)) Fc.el22 Fc.ar22 (by omega) (by omega)
  rw [Int.toNat_natCast] at had
  refine ⟨_, vs[k].v, had, fun H e => ?_, q1, elAdr_field (P := prog) (i := k) (o := 0) (off := 0) (q := false) (n := 1) hR (by omega) (by kernel_rfl) (by decide), fun H e => ?_⟩
  · rw [(hR.ext e).load Fc.ty81 hx]
    show some (AVal.agg [norm vs[k].v, .int .i64 vs[k].each, .int .i64 vs[k].ph, .bool vs[k].wv]) = _
    rw [norm_one q1.one, q2, q3, q4]
  · rw [(hR.ext e).cell Fc.ty36 hx (o := 0) (a := vs[k].v) (by simp [encP, norm_one q1.one])]
/-! ### Orders as maps -/
theorem nodup_inj {l : List Int} (hn : l.Nodup) {i j : Nat} (hi : i < l.length) (hj : j < l.length) (e : l[i] = l[j]) : i = j := by
  rcases Nat.lt_trichotomy i j with q | q | q
  · exact absurd e (List.pairwise_iff_getElem.1 hn i j hi hj q)
  · exact q
  · exact absurd e.symm (List.pairwise_iff_getElem.1 hn j i hj hi q)
theorem bij_perm {l : List Int} {n : Nat} (hp : l.Perm (upto n)) : Bij (n : Int) (fun i => l.getD i.toNat 0) (fun k => (l.idxOf k : Nat)) := by
  have hn : l.Nodup := hp.nodup_iff.2 ((upto_sorted n).imp fun h => by omega)
  have hl : l.length = n := by rw [hp.length_eq, upto_len]
  refine ⟨fun i hi => ?_, fun k hk => ?_⟩
  · have hil : i.toNat < l.length := by omega
    have e : l.getD i.toNat 0 = l[i.toNat] := by rw [List.getD_eq_getElem?_getD, List.getElem?_eq_getElem hil]; rfl
    have hm : l[i.toNat] ∈ upto n := hp.mem_iff.1 (List.getElem_mem hil)
    refine ⟨by simp only [e]; exact upto_mem.1 hm, ?_⟩
    simp only [e]
    have h1 : l.idxOf l[i.toNat] < l.length := List.idxOf_lt_length_iff.2 (List.getElem_mem hil)
    have h2 : l[l.idxOf l[i.toNat]] = l[i.toNat] := List.getElem_idxOf h1
    have := nodup_inj hn h1 hil h2
    omega
  · have hm : k ∈ l := hp.mem_iff.2 (upto_mem.2 hk)
    have h1 : l.idxOf k < l.length := List.idxOf_lt_length_iff.2 hm
    refine ⟨by omega, ?_⟩
    simp only [Int.toNat_natCast]
    rw [List.getD_eq_getElem?_getD, List.getElem?_eq_getElem h1]
    exact List.getElem_idxOf h1
theorem perm_at {l : List Int} {n i : Nat} (hp : l.Perm (upto n)) (hi : i < n) : ∃ k : Nat, k < n ∧ l.getD i 0 = (k : Int) ∧ (l.idxOf (k : Int)) = i := by
  obtain ⟨h1, h2⟩ := (bij_perm hp).to (i : Int) (by omega)
  simp only [Int.toNat_natCast] at h1 h2
  obtain ⟨k, ek⟩ := Int.eq_ofNat_of_zero_le h1.1
  rw [ek] at h1 h2 ⊢
  exact ⟨k, by omega, rfl, by omega⟩
/-- Ribbons with other numbers, sorted. -/
def rnR (ro rib : List Int) : List Int := srtL (rib.map fun r => ro.getD r.toNat 0)
theorem rnR_mem {ro rib : List Int} {x : Int} : x ∈ rnR ro rib ↔ ∃ y ∈ rib, x = ro.getD y.toNat 0 := by
  unfold rnR
  rw [srtL_perm.mem_iff, List.mem_map]
  exact ⟨fun ⟨a, b, c⟩ => ⟨a, b, c.symm⟩, fun ⟨a, b, c⟩ => ⟨a, b, c.symm⟩⟩
theorem rnR_len {ro rib : List Int} : (rnR ro rib).length = rib.length := by unfold rnR; rw [srtL_len, List.length_map]
theorem rnR_rise {ro rib : List Int} {R : Nat} (hp : ro.Perm (upto R)) (hr : ∀ x ∈ rib, 0 ≤ x ∧ x ≤ (R : Int) - 1) (hs : rib.Pairwise (· < ·)) : (rnR ro rib).Pairwise (· < ·) := by
  have h2 : (rnR ro rib).Pairwise (· ≠ ·) := by
    unfold rnR
    rw [srtL_perm.pairwise_iff (fun {a b} h => Ne.symm h), List.pairwise_map]
    refine hs.imp_of_mem fun {a b} ha hb hab e => ?_
    have := (bij_perm hp).inj (i := a) (k := b) (by have := hr a ha; omega) (by have := hr b hb; omega) e
    omega
  exact (srtL_sorted.and h2).imp fun ⟨a, b⟩ => by omega
def rnP (ro : List Int) (p : Prt) : Prt := ⟨rnR ro p.rib, p.each, p.ph, p.wv⟩
def rnS (ro : List Int) (s : Sgt) : Sgt := ⟨ro.getD s.rib.toNat 0, s.lo, s.hi, s.bad⟩
theorem prtOk_rn {ro : List Int} {R : Int} {p : Prt} (hp : ro.Perm (upto R.toNat)) (hR : 0 ≤ R) (h : prtOk R p) : prtOk R (rnP ro p) := by
  obtain ⟨h1, h2, h3, h4, h5⟩ := h
  refine ⟨by show 0 < (rnR ro p.rib).length; rw [rnR_len]; exact h1, h2, h3, fun x hx => ?_, riseB_of (rnR_rise hp (fun x hx => by have := h4 x hx; omega) (rise_pair h5))⟩
  obtain ⟨y, hy, rfl⟩ := rnR_mem.1 hx
  have h4' := h4 y hy
  have := ((bij_perm hp).to y (by omega)).1
  omega
theorem sgtOk_rn {ro : List Int} {R T : Int} {s : Sgt} (hp : ro.Perm (upto R.toNat)) (hR : 0 ≤ R) (h : sgtOk R T s) : sgtOk R T (rnS ro s) := by
  obtain ⟨h1, h2⟩ := h
  have := ((bij_perm hp).to s.rib (by omega)).1
  exact ⟨by show 0 ≤ ro.getD s.rib.toNat 0 ∧ _; simp only [rnS]; omega, h2⟩
/-- What the loom with other numbers is. -/
theorem named_ren {L : Lom} {po ro so : List Int} {ps : List Prt} {ss : List Sgt} (hc : chkM L = 0) (hp : po.Perm (upto L.ps.length)) (hr : ro.Perm (upto L.R.toNat)) (hs : so.Perm (upto L.ss.length)) (lp : ps.length = L.ps.length) (ls : ss.length = L.ss.length)
    (fp : ∀ i, i < L.ps.length → ps.getD (po.getD i 0).toNat prt0 = rnP ro (L.ps.getD i prt0)) (fs : ∀ i, i < L.ss.length → ss.getD (so.getD i 0).toNat sgt0 = rnS ro (L.ss.getD i sgt0)) :
    chkM ⟨L.R, L.T, ps, ss⟩ = 0 ∧ Ren L ⟨L.R, L.T, ps, ss⟩ (fun i => po.getD i.toNat 0) (fun k => (po.idxOf k : Nat)) (fun i => ro.getD i.toNat 0) (fun k => (ro.idxOf k : Nat)) (fun i => so.getD i.toNat 0) (fun k => (so.idxOf k : Nat)) := by
  obtain ⟨k1, k2, k3, k4, k5, k6⟩ := chkM_ok hc
  have bR := bij_perm hr
  rw [Int.toNat_of_nonneg (by omega)] at bR
  refine ⟨chkM_of (L := ⟨L.R, L.T, ps, ss⟩) k1 k2 (by rw [lp]; exact k3) (by rw [ls]; exact k4) (fun p hpm => ?_) (fun s hsm => ?_), ⟨rfl, rfl, lp, ls, bij_perm hp, bR, bij_perm hs, fun i hi x hx => ?_, fun i hi => ?_, fun i hi => ?_, fun i hi => ?_⟩⟩
  · obtain ⟨k, hk, rfl⟩ := List.getElem_of_mem hpm
    have hk' : k < L.ps.length := Nat.lt_of_lt_of_eq hk lp
    obtain ⟨h1, h2⟩ := (bij_perm hp).fro (k : Int) (by omega)
    obtain ⟨i, ei⟩ := Int.eq_ofNat_of_zero_le h1.1
    rw [ei] at h1 h2
    simp only [Int.toNat_natCast] at h2
    have hil : i < L.ps.length := by omega
    have := fp i hil
    rw [h2, Int.toNat_natCast, getD_at hk] at this
    rw [this]
    exact prtOk_rn hr (show 0 ≤ L.R by omega) (k5 _ (getD_mem' hil))
  · obtain ⟨k, hk, rfl⟩ := List.getElem_of_mem hsm
    have hk' : k < L.ss.length := Nat.lt_of_lt_of_eq hk ls
    obtain ⟨h1, h2⟩ := (bij_perm hs).fro (k : Int) (by omega)
    obtain ⟨i, ei⟩ := Int.eq_ofNat_of_zero_le h1.1
    rw [ei] at h1 h2
    simp only [Int.toNat_natCast] at h2
    have hil : i < L.ss.length := by omega
    have := fs i hil
    rw [h2, Int.toNat_natCast, getD_at hk] at this
    rw [this]
    exact sgtOk_rn hr (show 0 ≤ L.R by omega) (k6 _ (getD_mem' hil))
  · have := (k5 _ (getD_mem' (d := prt0) (show i.toNat < L.ps.length by omega))).2.2.2.1 x hx
    omega
  · have := (k6 _ (getD_mem' (d := sgt0) (show i.toNat < L.ss.length by omega))).1
    unfold sgtI
    omega
  · have := fp i.toNat (by omega)
    simp only [this]
    exact ⟨rfl, rfl, rfl, fun x => rnR_mem⟩
  · exact fs i.toNat (by omega)
theorem SpE.old' {H h' : Heap} {v : AVal} {silk : List Int} {k0 k : Nat} (x : SpE (H ++ [spB v silk k0]) H.length v silk k h') : Ext H h' := by
  unfold SpE at x
  rw [List.set_append_right _ _ (Nat.le_refl _)] at x
  exact (Ext.app .refl).trans x
theorem SpE.on {H h' : Heap} {v : AVal} {silk : List Int} {id k : Nat} {G : Heap} (x : SpE H id v silk k h') (e : Ext G H) (hi : G.length ≤ id) : Ext G h' := (e.set hi).trans x
theorem wvr_small {L : Lom} (hc : chkM L = 0) {t : List Brk} (ht : XpA L t) : Small (wvrM L).1 := by
  have k4 := (chkM_ok hc).2.2.2.1
  have h1 := wvrM_len (L := L)
  have h2 : (deskA L).1.length ≤ L.ss.length := by
    rw [deskA_bad]
    have := List.length_filter_le (badI L) (upto L.ss.length)
    rwa [upto_len] at this
  exact ⟨by omega, fun x hx => by have := ((wvrM_mem hc ht).2 x).1 hx; omega⟩
theorem perm_small {l : List Int} {n : Nat} (hp : l.Perm (upto n)) (hn : n ≤ 1000) : Small l := by
  refine ⟨by rw [hp.length_eq, upto_len]; omega, fun x hx => ?_⟩
  have := upto_mem.1 (hp.mem_iff.1 hx)
  omega
theorem ownE_ints {b : Nat} {H : Heap} {v : AVal} {l : List Int} (x : OwnE encI 3 b H v l) (hs : Small l) : Ints H v l := (x.rows (by have := hs.1; omega)).ints hs.2
theorem cvW {n : Int} (h : 0 ≤ n ∧ n ≤ 65535) : convA prog 3 119 (.int .u16 n) = some (.int .i64 n) := by
  simp only [convA, underlying119, Fc.ik3]
  rw [wrap64 (by omega) (by omega)]
theorem Rows.refsLo {α : Type} {E : Enc α} {H : Heap} {v : AVal} {l : List α} (hR : Rows E H v l) : refsLow H.length v := by
  rcases hR.2 with ⟨rfl, _⟩ | ⟨rfl, _⟩ | ⟨r, k, c, e, row, ro, rfl, h1, _⟩
  · exact refsLow_nil
  · rfl
  · exact refsLow_slice (lt_of_get h1)
theorem perm_set {α : Type} {d : α} {f : Nat → α} {po : List Int} {n i k : Nat} {ps : List α} (hpo : po.Perm (upto n)) (hi : i < n) (hk : po.getD i 0 = (k : Int)) (hl : ps.length = n) (hps : ∀ j, j < i → ps.getD (po.getD j 0).toNat d = f j) :
    ∀ j, j < i + 1 → (ps.set k (f i)).getD (po.getD j 0).toNat d = f j := fun j hj => by
  obtain ⟨k', h1, h2, h3⟩ := perm_at hpo (i := j) (by omega)
  obtain ⟨k2, g1, g2, g3⟩ := perm_at hpo hi
  rw [h2, Int.toNat_natCast]
  rw [hk] at g2
  have ek : k = k2 := by omega
  subst ek
  by_cases e : j = i
  · subst e
    rw [hk] at h2
    have : k' = k := by omega
    subst this
    rw [List.getD_eq_getElem?_getD, List.getElem?_set_self (by omega)]; rfl
  · have hne : k ≠ k' := fun q => by rw [q] at g3; omega
    rw [List.getD_eq_getElem?_getD, List.getElem?_set_ne hne, ← List.getD_eq_getElem?_getD]
    have := hps j (by omega)
    rwa [h2, Int.toNat_natCast] at this
end Go.AM
/-
  FaultNamed, walked.
-/
namespace Go.AM
open Go.Proofs.Tryz
theorem dschE87 {p : Prop} (h : p := by first | exact Nat.ne_of_beq_eq_false rfl | assumption | (apply asOne; (first | exact One.int | exact One.bool | assumption | exact Ints.one (by assumption) | exact Rows.one (by assumption) | exact Own.one (by assumption) | exact One.lit ⟨rfl, rfl, rfl⟩)) | (apply asSp; (repeat first | assumption | apply SpAt.set | (refine SpAt.new ?_ (by (first | rfl | (simp only [List.length_append, List.length_cons, List.length_nil, List.length_set]; done) | (simp only [List.length_append, List.length_cons, List.length_nil, List.length_set]; omega)))) | apply SpAt.app | apply Bytes.app); done) | (apply asBytes; (repeat first | assumption | apply Bytes.app); done) | (apply asInts; (repeat first | assumption | exact ints_nil | apply Ints.app); done) | (apply asRows; (repeat first | assumption | exact Rows.nil | apply Rows.app); done) | (apply asScal; (first | apply allS1 | apply allS2 | apply allS3 | apply allS4) <;> (first | exact One.int | exact One.bool | assumption | exact Ints.one (by assumption) | exact Rows.one (by assumption) | exact Own.one (by assumption) | exact One.lit ⟨rfl, rfl, rfl⟩)) | exact litT rfl | exact litF rfl | omega | (simp only [List.length_append, List.length_cons, List.length_nil, List.length_set, List.length_reverse]; first | done | omega) | fail) : p := h
attribute [-go_sem] put_ne put_same
attribute [local go_sem ↓] put_if
theorem stE87 {base : Nat} {l : List Oper} {s : St} {Q : AExit → St → Prop} : WP prog raw base (.region 3 l.toArray true) s Q = WPS prog raw base (.region 3 l.toArray true) s Q := WP_stop
attribute [local go_sem ↓ 3000] stE87
set_option maxRecDepth 100000 in
set_option maxHeartbeats 4000000 in
theorem run_FaultNamed {base : Nat} {h : Heap} {v0 v1 : AVal} {l0 l1 : List Int} {n1 : Int} (hB0 : Bytes h v0 l0) (hB1 : Bytes h v1 l1) (q1 : 0 ≤ n1 ∧ n1 ≤ 65535) :
    callL prog raw base (.fn 10 [] []) [v0, v1, .int .u16 n1] h = some (.bool true, h) := by
  obtain ⟨H1, L, tt, pv, sv, tv, e1, x1, M1, b1, b2, b3, b4⟩ := run_start (base := h.length) (T0 := 10) (P0 := 5) (S0 := 8) (Nat.le_refl _) hB0 (by omega) (by omega) (by omega)
  obtain ⟨k1, k2, k3, k4, k5, k6⟩ := chkM_ok M1.hc
  have hp1 := M1.hP.one
  have hs1 := M1.hS.one
  have ht1 := M1.oT.one
  have hv1 := hB1.one
  have hl1 := x1.len
  have hw0 := run_wound (base := h.length) hB0
  obtain ⟨G1, eG1⟩ : ∃ G1, G1 = H1 ++ [lmB L.R L.T pv sv] := ⟨_, rfl⟩
  have xG1 : Ext H1 G1 := by rw [eG1]; exact .app .refl
  have gl1 : G1[H1.length]? = some (lmB L.R L.T pv sv) := by rw [eG1]; exact get_eq rfl
  have hG1 : G1.length = H1.length + 1 := by rw [eG1]; simp
  have xhG := x1.trans xG1
  have hw1 := run_wound (base := h.length) (hB1.ext xhG)
  obtain ⟨K0, eK0⟩ : ∃ K0, K0 = G1 ++ [spB v1 l1 0] := ⟨_, rfl⟩
  have hK0 : K0.length = G1.length + 1 := by rw [eK0]; simp
  have xK0 : Ext G1 K0 := by rw [eK0]; exact .app .refl
  have hS0 : SpAt K0 G1.length v1 l1 0 := by rw [eK0]; exact SpAt.new (hB1.ext xhG) rfl
  obtain ⟨w1, K1, eo1, y1, po, oo1, hpo⟩ := run_order (base := h.length) (n := L.ps.length) (by omega) hS0 (by omega) (by omega)
  have xK1 : Ext G1 K1 := by rw [eK0] at y1; exact y1.old'
  have hS1 := y1.at hS0
  have hy1 := y1.len
  obtain ⟨w2, K2, eo2, y2, ro, oo2, hro⟩ := run_order (base := h.length) (n := L.R.toNat) (by omega) hS1 (by omega) (by omega)
  rw [Int.toNat_of_nonneg (by omega)] at eo2
  have xK2 : Ext G1 K2 := y2.on xK1 (Nat.le_refl _)
  have hS2 := y2.at hS1
  have hy2 := y2.len
  obtain ⟨w3, K3, eo3, y3, so, oo3, hso⟩ := run_order (base := h.length) (n := L.ss.length) (by omega) hS2 (by omega) (by omega)
  have xK3 : Ext G1 K3 := y3.on xK2 (Nat.le_refl _)
  have hy3 := y3.len
  have oo12 := ((oo1.setBox (k := spB v1 l1 (0 + L.ps.length + L.R.toNat)) hS1.1).ext y2)
  have oo13 := ((oo12.setBox (k := spB v1 l1 (0 + L.ps.length + L.R.toNat + L.ss.length)) hS2.1).ext y3)
  have oo23 := ((oo2.setBox (k := spB v1 l1 (0 + L.ps.length + L.R.toNat + L.ss.length)) hS2.1).ext y3)
  have i1 := ownE_ints oo13 (perm_small hpo (by omega))
  have i2 := ownE_ints oo23 (perm_small hro (by omega))
  have i3 := ownE_ints oo3 (perm_small hso (by omega))
  have o1 := oo1.one
  have o2 := oo2.one
  have o3 := oo3.one
  have lpo : po.length = L.ps.length := by rw [hpo.length_eq, upto_len]
  have lro : ro.length = L.R.toNat := by rw [hro.length_eq, upto_len]
  have lso : so.length = L.ss.length := by rw [hso.length_eq, upto_len]
  have gk0 := xK0.get gl1
  have gk1 := xK1.get gl1
  have gk2 := xK2.get gl1
  have gk3 := xK3.get gl1
  have M3 := (M1.ext xG1).ext xK3
  have lP : ∀ {H : Heap}, Ext G1 H → lenOpA prog H 22 pv = some (.int .i64 (L.ps.length : Int)) := fun {H} e => ((M1.ext xG1).ext e).hP.len
  have lS : ∀ {H : Heap}, Ext G1 H → lenOpA prog H 23 sv = some (.int .i64 (L.ss.length : Int)) := fun {H} e => ((M1.ext xG1).ext e).hS.len (P := prog) Fc.el23
  have lP0 := lP xK0
  have lS2 := lS xK2
  obtain ⟨_, K4, e4, x4, pv2, sv2, rfl, oQ, oS⟩ := run_own (base := h.length) (by omega) M3.lom (by omega) (by omega) M1.ok.2.2.2.2
  have op2 := oQ.one
  have os2 := oS.one
  obtain ⟨K5, eK5⟩ : ∃ K5, K5 = K4 ++ [lmB L.R L.T pv2 sv2] := ⟨_, rfl⟩
  have x5 : Ext K4 K5 := by rw [eK5]; exact .app .refl
  have hx4 := x4.len
  have hK5 : K5.length = K4.length + 1 := by rw [eK5]; simp
  have g5 : K5[K4.length]? = some (lmB L.R L.T pv2 sv2) := by rw [eK5]; exact get_eq rfl
  have i5 := i1.ext (x4.trans x5)
  unfold lmB at eG1 gl1 gk0 gk1 gk2 gk3 eK5 g5
  refine callL_run func10 rfl rfl ?_
  have hsp := @Nat.succ_ne_zero; repeat' (first | simp (disch := first | exact dschE87 | fail) only [go_sem, ↓reduceIte, hsp, hw0, e1, ← eG1, hw1, ← eK0] | refine WP_drw ?_ | refine cnd_intro (fun hsp => ?_) fun hsp => ?_)
  refine WPS_go ?_
  refine WP_wild [⟨7, 3, 54, ⟨H1.length, 0, 0⟩, .int .i64 L.R, 8⟩, ⟨11, 23, 58, ⟨H1.length, 0, 3⟩, sv, 13⟩] (by kernel_rfl) (by kernel_rfl) (by kernel_rfl) ⟨refsLow_int, ((M1.ext xG1).ext xK0).hS.refsLo, trivial⟩ fun K hK => ?_
  iterate 17
    rw [TRS_cons]
    refine ⟨by first | (simp (disch := first | exact dschE87 | fail) only [go_sem, ↓reduceIte, gk0, gk1, gk2, lP0, lS2, eo1, eo2, eo3, ldsQ_cons, ldsQ_nil, if_true, Nat.reduceLeDiff]; done) | exact trivial, ?_⟩
    simp (disch := first | exact dschE87 | fail) only [go_sem, ↓reduceIte, gk0, gk1, gk2, lP0, lS2, eo1, eo2, eo3]
  rw [TRS_nil]
  refine ⟨by first | (simp (disch := first | exact dschE87 | fail) only [go_sem, ↓reduceIte, gk0, gk1, gk2, lP0, lS2, eo1, eo2, eo3, ldsQ_cons, ldsQ_nil, if_true, Nat.reduceLeDiff]; done) | exact trivial, ?_⟩
  subst hK
  have hsp := @Nat.succ_ne_zero; repeat' (first | simp (disch := first | exact dschE87 | fail) only [go_sem, ↓reduceIte, hsp, gk3, e4, ← eK5] | refine WP_drw ?_ | refine cnd_intro (fun hsp => ?_) fun hsp => ?_)
  refine WP_count [(14, 18), (66, 106)] 0 L.ps.length (Nat.zero_le _) (fun _ i fr h' => fr 66 = .int .i64 (i : Int) ∧ ∃ ps : List Prt, ps.length = L.ps.length ∧ (∀ j, j < i → ps.getD (po.getD j 0).toNat prt0 = rnP ro (L.ps.getD j prt0)) ∧ OwnQ K3.length h' pv2 ps ∧ OwnE encS 56 K3.length h' sv2 L.ss ∧ Ext K3 h' ∧ h'[K4.length]? = some (lmB L.R L.T pv2 sv2)) ?_ ?_ ?_
  · exact ⟨by (simp (disch := first | exact dschE87 | fail) only [go_sem, ↓reduceIte, Int.natCast_zero]; first | done | rfl), L.ps, rfl, fun j hj => by omega, oQ.ext x5, oS.ext x5, x4.trans x5, g5⟩
  · rintro i fr H hi0 hi hA ⟨p66, ps, lps, fps, oQH, oSH, xH, gH⟩
    have p2 := hA 2 rfl
    have p6 := hA 6 rfl
    have p7 := hA 7 rfl
    have p10 := hA 10 rfl
    have p11 := hA 11 rfl
    have p12 := hA 12 rfl
    have p13 := hA 13 rfl
    have p64 := hA 64 rfl
    have p65 := hA 65 rfl
    try simp (disch := first | exact dschE87 | fail) only [go_sem, ↓reduceIte] at p2 p6 p7 p10 p11 p12 p13 p64 p65
    
    have hlt : ((i : Int) < (po.length : Int)) = True := eq_true (by omega)
    have MH := M3.ext xH
    have hxH := xH.len
    obtain ⟨q, eq⟩ : ∃ q, q = L.ps.getD i prt0 := ⟨_, rfl⟩
    have hq : L.ps[i]? = some q := by rw [eq]; exact getD_some hi
    have okq : prtOk L.R q := k5 q (List.mem_of_getElem? hq)
    obtain ⟨a1, r1, ad1, ld1, ir1, fa1, lr1⟩ := MH.hP.at0 hq
    obtain ⟨k, hk, ek, -⟩ := perm_at hpo hi
    have iH := i1.ext xH
    have gl := xH.get gk3
    have or1 := ir1.one
    have d0 := ld1 H .refl
    have d2 : ∀ {T : Heap}, loadP prog (H ++ T) 36 a1 = some r1 := fun {T} => lr1 _ (.app .refl)
    have lrib := nodup_len (rise_pair okq.2.2.2.2) okq.2.2.2.1
    have hsp := @Nat.succ_ne_zero; repeat' (first | simp (disch := first | exact dschE87 | fail) only [go_sem, ↓reduceIte, hsp, p2, p6, p7, p10, p11, p12, p13, p64, p65, p66, hlt, ek, gl, ad1, d0, fa1, d2] | refine WP_drw ?_ | refine cnd_intro (fun hsp => ?_) fun hsp => ?_)
    refine WP_count [(18, 18), (84, 97)] 0 q.rib.length (Nat.zero_le _) (fun _ j fr h' => fr 84 = .int .i64 (j : Int) ∧ ∃ w, h'[H.length]? = some (prB w q.each q.ph q.wv) ∧ Own encI 3 (H.length + 1) h' w ((q.rib.take j).map fun r => ro.getD r.toNat 0) ∧ Ext H h' ∧ H.length + 1 ≤ h'.length) ?_ ?_ ?_
    · exact ⟨by (simp (disch := first | exact dschE87 | fail) only [go_sem, ↓reduceIte, Int.natCast_zero]; first | done | rfl), .slice none 0 0, get_eq rfl, Own.nil, .app .refl, by simp⟩
    · rintro j fr2 H2 hj0 hj hB ⟨c84, w, gW, oW, xW, hW⟩
      have c2 := hB 2 rfl
      have c6 := hB 6 rfl
      have c7 := hB 7 rfl
      have c10 := hB 10 rfl
      have c11 := hB 11 rfl
      have c12 := hB 12 rfl
      have c13 := hB 13 rfl
      have c15 := hB 15 rfl
      have c16 := hB 16 rfl
      have c64 := hB 64 rfl
      have c65 := hB 65 rfl
      have c66 := hB 66 rfl
      have c82 := hB 82 rfl
      have c83 := hB 83 rfl
      try simp (disch := first | exact dschE87 | fail) only [go_sem, ↓reduceIte, p2, p6, p7, p10, p11, p12, p13, p64, p65, p66] at c2 c6 c7 c10 c11 c12 c13 c15 c16 c64 c65 c66 c82 c83
      have hxW := xW.len
      
      have hlt2 : ((j : Int) < (q.rib.length : Int)) = True := eq_true (by omega)
      obtain ⟨r, er⟩ : ∃ r, q.rib.getD j 0 = r := ⟨_, rfl⟩
      have hr : 0 ≤ r ∧ r ≤ L.R - 1 := by rw [← er]; exact okq.2.2.2.1 _ (getD_mem hj)
      have hr0 : 0 ≤ r := hr.1
      have hrl : r < (ro.length : Int) := by omega
      have hrn : r.toNat < ro.length := by omega
      obtain ⟨y, ey⟩ : ∃ y, ro.getD r.toNat 0 = y := ⟨_, rfl⟩
      have i2H := i2.ext (xH.trans xW)
      have irH := ir1.ext xW
      obtain ⟨w', H', a1', a2', a3', a4', a5', a6'⟩ := oW.append1X (P := prog) (y := y) (base := h.length) (t := 36) rfl rfl Fc.el36 encI_sc (by have := xH.len; omega) hW (by rw [List.length_map, List.length_take]; omega)
      have kp : KeepO encI 3 H2 H' := a6'
      have g2 := kp.box gW
      have ow := oW.one
      have hsp := @Nat.succ_ne_zero; repeat' (first | simp (disch := first | exact dschE87 | fail) only [go_sem, ↓reduceIte, hsp, c2, c6, c7, c10, c11, c12, c13, c15, c16, c64, c65, c66, c82, c83, c84, p2, p6, p7, p10, p11, p12, p13, p64, p65, p66, hlt2, er, ey, gW, prB, a1', g2] | refine WP_drw ?_ | refine cnd_intro (fun hsp => ?_) fun hsp => ?_)
      refine ⟨by (repeat first | exact Agree.refl | assumption | refine Agree.put rfl ?_ | refine Agree.put0 ?_ | refine Agree.sub rfl (by assumption) ?_), by omega, w', rfl, ?_, (a4' _ (by omega) xW).set (by omega), by omega⟩
      rw [List.take_add_one, List.getElem?_eq_getElem hj, Option.toList, List.map_append, List.map_cons, List.map_nil, ← getD_at (d := 0) hj, er, ey]
      exact a2'.setBox g2
    · rintro fr2 H2 hB ⟨c84, w, gW, oW, xW, hW⟩
      have c2 := hB 2 rfl
      have c6 := hB 6 rfl
      have c7 := hB 7 rfl
      have c10 := hB 10 rfl
      have c11 := hB 11 rfl
      have c12 := hB 12 rfl
      have c13 := hB 13 rfl
      have c15 := hB 15 rfl
      have c16 := hB 16 rfl
      have c64 := hB 64 rfl
      have c65 := hB 65 rfl
      have c66 := hB 66 rfl
      have c82 := hB 82 rfl
      have c83 := hB 83 rfl
      try simp (disch := first | exact dschE87 | fail) only [go_sem, ↓reduceIte, p2, p6, p7, p10, p11, p12, p13, p64, p65, p66] at c2 c6 c7 c10 c11 c12 c13 c15 c16 c64 c65 c66 c82 c83
      have hxW := xW.len
      
      have hlt2 : ((q.rib.length : Int) < (q.rib.length : Int)) = False := eq_false (by omega)
      rw [List.take_length] at oW
      have ow := oW.one
      have hl0 := okq.1
      rcases id oW with ⟨_, e⟩ | ⟨wid, wvr, ew, gw, hwid, hwl⟩
      · have := congrArg List.length e
        rw [List.length_map, List.length_nil] at this; omega
      · have gs : H2[wid]? = some (srB (q.rib.map fun r => ro.getD r.toNat 0) 3 wvr) := by rw [gw, rowE, flat_encI]
        have es := run_sort (base := h.length) gs (by rw [List.length_map]; omega)
        rw [← ew] at es
        obtain ⟨H3, eH3⟩ : ∃ H3, H3 = H2.set wid (srB (srtL (q.rib.map fun r => ro.getD r.toNat 0)) 3 wvr) := ⟨_, rfl⟩
        rw [← eH3] at es
        have x3 : Ext H H3 := by rw [eH3]; exact xW.set (by omega)
        have g3 : H3[H.length]? = some (prB w q.each q.ph q.wv) := by rw [eH3, List.getElem?_set_ne (by omega)]; exact gW
        have oW3 : Own encI 3 (H.length + 1) H3 w (rnR ro q.rib) := by
          refine .inr ⟨wid, wvr, ?_, ?_, hwid, by rw [rnR_len]; exact hl0⟩
          · rw [rnR_len]; rw [List.length_map] at ew; exact ew
          · rw [eH3, List.getElem?_set_self (lt_of_get gw), rowE, flat_encI]; rfl
        have gH3 := x3.get gH
        have hKH := xH.len
        obtain ⟨a, u, ad2, B, B', gB, stB, oQ4, hba, lB, uB, eB⟩ := (oQH.ext x3).put (base := h.length) (p := rnP ro q) (k := k) (oW3.low (by omega)) (by omega) (by omega)
        have hne : a ≠ K4.length := by
          rintro rfl
          rw [gH3, eB] at gB
          simp [rowE, lmB] at gB
        simp only [rnP] at stB
        have gH3' := gH3
        unfold lmB at gH3'
        have hsp := @Nat.succ_ne_zero; repeat' (first | simp (disch := first | exact dschE87 | fail) only [go_sem, ↓reduceIte, hsp, c2, c6, c7, c10, c11, c12, c13, c15, c16, c64, c65, c66, c82, c83, c84, p2, p6, p7, p10, p11, p12, p13, p64, p65, p66, hlt2, gW, prB, es, g3, gH3', ad2, gB, stB] | refine WP_drw ?_ | refine cnd_intro (fun hsp => ?_) fun hsp => ?_)
        rw [eB] at gB
        exact ⟨by (repeat first | exact Agree.refl | assumption | refine Agree.put rfl ?_ | refine Agree.put0 ?_ | refine Agree.sub rfl (by assumption) ?_), by omega, ps.set k (rnP ro q), by rw [List.length_set]; exact lps, by rw [eq]; exact perm_set (f := fun j => rnP ro (L.ps.getD j prt0)) hpo hi ek lps fps, oQ4, (oSH.ext x3).setRow gB (by decide), (xH.trans x3).set hba⟩
  · rintro fr H hA ⟨p66, ps, lps, fps, oQH, oSH, xH, gH⟩
    have p2 := hA 2 rfl
    have p6 := hA 6 rfl
    have p7 := hA 7 rfl
    have p10 := hA 10 rfl
    have p11 := hA 11 rfl
    have p12 := hA 12 rfl
    have p13 := hA 13 rfl
    have p64 := hA 64 rfl
    have p65 := hA 65 rfl
    try simp (disch := first | exact dschE87 | fail) only [go_sem, ↓reduceIte] at p2 p6 p7 p10 p11 p12 p13 p64 p65
    
    have hlt : ((L.ps.length : Int) < (po.length : Int)) = False := eq_false (by omega)
    have i3H := i3.ext xH
    have hsp := @Nat.succ_ne_zero; repeat' (first | simp (disch := first | exact dschE87 | fail) only [go_sem, ↓reduceIte, hsp, p2, p6, p7, p10, p11, p12, p13, p64, p65, p66, hlt] | refine WP_drw ?_ | refine cnd_intro (fun hsp => ?_) fun hsp => ?_)
    refine WP_count [(19, 20), (109, 137)] 0 L.ss.length (Nat.zero_le _) (fun _ i fr h' => fr 109 = .int .i64 (i : Int) ∧ ∃ ss : List Sgt, ss.length = L.ss.length ∧ (∀ j, j < i → ss.getD (so.getD j 0).toNat sgt0 = rnS ro (L.ss.getD j sgt0)) ∧ OwnQ K3.length h' pv2 ps ∧ OwnE encS 56 K3.length h' sv2 ss ∧ Ext K3 h' ∧ h'[K4.length]? = some (lmB L.R L.T pv2 sv2)) ?_ ?_ ?_
    · exact ⟨by (simp (disch := first | exact dschE87 | fail) only [go_sem, ↓reduceIte, Int.natCast_zero]; first | done | rfl), L.ss, rfl, fun j hj => by omega, oQH, oSH, xH, gH⟩
    · rintro i fr2 H2 hi0 hi hB ⟨c109, ss, lss, fss, oQ2, oS2, xH2, gH2⟩
      have c2 := hB 2 rfl
      have c6 := hB 6 rfl
      have c7 := hB 7 rfl
      have c10 := hB 10 rfl
      have c11 := hB 11 rfl
      have c12 := hB 12 rfl
      have c13 := hB 13 rfl
      have c107 := hB 107 rfl
      have c108 := hB 108 rfl
      try simp (disch := first | exact dschE87 | fail) only [go_sem, ↓reduceIte, p2, p6, p7, p10, p11, p12, p13] at c2 c6 c7 c10 c11 c12 c13 c107 c108
      have hxH2 := xH2.len
      
      have hlt2 : ((i : Int) < (so.length : Int)) = True := eq_true (by omega)
      obtain ⟨x, ex⟩ : ∃ x, x = L.ss.getD i sgt0 := ⟨_, rfl⟩
      have hx : L.ss[i]? = some x := by rw [ex]; exact getD_some hi
      have okx : sgtOk L.R L.T x := k6 x (List.mem_of_getElem? hx)
      obtain ⟨k, hk, ek, -⟩ := perm_at hso hi
      have hxr0 : 0 ≤ x.rib := okx.1.1
      have hxrl : x.rib < (ro.length : Int) := by have := okx.1.2; omega
      have hxrn : x.rib.toNat < ro.length := by omega
      obtain ⟨y, ey⟩ : ∃ y, ro.getD x.rib.toNat 0 = y := ⟨_, rfl⟩
      rcases oS2 with (⟨_, e⟩ | ⟨sid, sver, esv, gS, hsid, hsl⟩) | ⟨_, e⟩
      · rw [e] at lss; simp at lss; omega
      · have hne : sid ≠ K4.length := by
          rintro rfl
          rw [gH2] at gS
          simp [rowE, lmB] at gS
        obtain ⟨H3, eH3⟩ : ∃ H3, H3 = H2.set sid (rowE encS 56 (ss.set k x) sver) := ⟨_, rfl⟩
        obtain ⟨H4, eH4⟩ : ∃ H4, H4 = H3.set sid (rowE encS 56 ((ss.set k x).set k (rnS ro x)) sver) := ⟨_, rfl⟩
        have eH42 : H4 = H2.set sid (rowE encS 56 (ss.set k (rnS ro x)) sver) := by rw [eH4, eH3, List.set_set, List.set_set]
        have xH3 : Ext K3 H3 := by rw [eH3]; exact xH2.set hsid
        have gS3 : H3[sid]? = some (rowE encS 56 (ss.set k x) sver) := by rw [eH3, List.getElem?_set_self (lt_of_get gS)]
        have gH3 : H3[K4.length]? = some (lmB L.R L.T pv2 sv2) := by rw [eH3, List.getElem?_set_ne hne]; exact gH2
        have gl2 := xH2.get gk3
        have gl3 := xH3.get gk3
        have M2 := M3.ext xH2
        have M4 := M3.ext xH3
        have i2H := i2.ext xH3
        have i3H2 := i3.ext xH2
        have adx : ∀ {H : Heap}, Ext K3 H → indexAddrA prog 23 sv (.int .i64 (i : Int)) = some (elAdr sv encS.z i 0) := fun {H} e => by
          have := (M3.ext e).hS.addr (P := prog) (i := (i : Int)) Fc.el23 Fc.ar23 (by omega) (by omega)
          rwa [Int.toNat_natCast] at this
        have ad1 := adx xH2
        have d1 : loadP prog H2 56 (elAdr sv encS.z i 0) = some (.agg [.int .i64 x.rib, .int .i64 x.lo, .int .i64 x.hi, .bool x.bad]) := M2.hS.load (P := prog) Fc.ty56 hx
        have f1 : fieldAddrA prog 56 (elAdr sv encS.z i 0) 0 = some (elAdr sv encS.z i 0) := elAdr_field (P := prog) (i := i) (o := 0) (off := 0) (q := false) (n := 1) M4.hS hi (by kernel_rfl) (by decide)
        have d2 : loadP prog H3 3 (elAdr sv encS.z i 0) = some (.int .i64 x.rib) := M4.hS.cell (P := prog) Fc.ty3 hx (o := 0) (a := .int .i64 x.rib) rfl
        have ad2 : indexAddrA prog 23 sv2 (.int .i64 (k : Int)) = some (.ptr (some ⟨sid, sver, k * 4⟩)) := by
          rw [esv, adr_sl Fc.el23 Fc.ar23 (by omega) (by omega), Int.toNat_natCast, Nat.zero_add]
        have st1 : ∀ {K : ABlk → Heap}, stQ h.length sid (some (rowE encS 56 ss sver)) sver (k * 4) [.int .i64 x.rib, .int .i64 x.lo, .int .i64 x.hi, .bool x.bad] K = some (K (rowE encS 56 (ss.set k x) sver)) := fun {K} => stQ_rowE (E := encS) (by omega) (encS_sc _) (by omega)
        have st2 : ∀ {K : ABlk → Heap}, stQ h.length sid (some (rowE encS 56 (ss.set k x) sver)) sver (k * 4 + 0) [.int .i64 y] K = some (K (rowE encS 56 ((ss.set k x).set k (rnS ro x)) sver)) := fun {K} => stQ_cellE (E := encS) (x := x) (by rw [List.getElem?_set_self (by omega)]) (by decide) (by rw [← ey]; rfl) rfl (by omega)
        have st2' := fun K => st2 (K := K)
        simp only [Nat.add_zero] at st2'
        have gH2' := gH2
        have gH3' := gH3
        unfold lmB at gH2' gH3'
        have hsp := @Nat.succ_ne_zero; repeat' (first | simp (disch := first | exact dschE87 | fail) only [go_sem, ↓reduceIte, hsp, c2, c6, c7, c10, c11, c12, c13, c107, c108, c109, p2, p6, p7, p10, p11, p12, p13, p64, p65, p66, hlt2, ek, gl2, gl3, gH2', ad1, d1, ad2, gS, st1, ← eH3, gH3', f1, d2, ey, gS3, st2, st2', ← eH4] | refine WP_drw ?_ | refine cnd_intro (fun hsp => ?_) fun hsp => ?_)
        exact ⟨by (repeat first | exact Agree.refl | assumption | refine Agree.put rfl ?_ | refine Agree.put0 ?_ | refine Agree.sub rfl (by assumption) ?_), by omega, ss.set k (rnS ro x), by rw [List.length_set]; exact lss, by rw [ex]; exact perm_set (f := fun j => rnS ro (L.ss.getD j sgt0)) hso hi ek lss fss, by rw [eH42]; exact oQ2.setRow gS (by decide) (by decide), .inl (.inr ⟨sid, sver, by rw [List.length_set]; exact esv, by rw [eH42, List.getElem?_set_self (lt_of_get gS)], hsid, by rw [List.length_set]; omega⟩), by rw [eH42]; exact xH2.set hsid, by rw [eH42, List.getElem?_set_ne hne]; exact gH2⟩
      · rw [e] at lss; simp at lss; omega
    · rintro fr2 H2 hB ⟨c109, ss, lss, fss, oQ2, oS2, xH2, gH2⟩
      have c2 := hB 2 rfl
      have c6 := hB 6 rfl
      have c7 := hB 7 rfl
      have c10 := hB 10 rfl
      have c11 := hB 11 rfl
      have c12 := hB 12 rfl
      have c13 := hB 13 rfl
      have c107 := hB 107 rfl
      have c108 := hB 108 rfl
      try simp (disch := first | exact dschE87 | fail) only [go_sem, ↓reduceIte, p2, p6, p7, p10, p11, p12, p13] at c2 c6 c7 c10 c11 c12 c13 c107 c108
      have hxH2 := xH2.len
      
      have hlt2 : ((L.ss.length : Int) < (so.length : Int)) = False := eq_false (by omega)
      obtain ⟨hc2, rn⟩ := named_ren M1.hc hpo hro hso lps lss fps fss
      obtain ⟨L2, eL2⟩ : ∃ L2, L2 = (⟨L.R, L.T, ps, ss⟩ : Lom) := ⟨_, rfl⟩
      rw [← eL2] at hc2 rn
      have M2 := M3.ext xH2
      have hok2 := lomOk_of hc2
      have lom2 : LomAt H2 (lomV L.R L.T pv2 sv2) L2 := by
        rw [eL2] at hok2 ⊢
        exact ⟨pv2, sv2, rfl, oQ2.parts (by omega) hok2.1, oS2.rows (by omega)⟩
      have xp2 := xp_mv rn M1.xp
      have hKH := xH2.len
      have hb2 : h.length ≤ H2.length := by omega
      have cn1 := fun base => run_count (base := base) M2.lom M1.ok
      have cn2 := fun base => run_count (base := base) lom2 hok2
      rw [← cnt_ren rn M1.hc hc2] at cn2
      obtain ⟨_, _, _, ecn⟩ := cntM_truths M1.hc
      have ecn2 : (cntM L).2 = 0 := by rw [ecn]
      rw [ecn2] at cn1 cn2
      have hf1 := fewM_truth M1.hc M1.xp
      have hf2 := fewM_truth hc2 xp2
      have hw1' := wvrM_mem M1.hc M1.xp
      have hw2' := wvrM_mem hc2 xp2
      have hm1 := mstM_mem M1.hc M1.xp
      have hm2 := mstM_mem hc2 xp2
      obtain ⟨_, F1, f1, z1, u1, rfl, p1⟩ := run_fewest (base := h.length) hb2 M2.lom M1.ok
      have hz1 := z1.len
      obtain ⟨_, F2, f2, z2, u2, rfl, p2⟩ := run_fewest (base := h.length) (by omega) (lom2.ext z1) hok2
      have hz2 := z2.len
      obtain ⟨_, F3, f3, z3, u3, rfl, p3⟩ := run_weavers (base := h.length) (by omega) (M2.lom.ext (z1.trans z2)) M1.ok
      have hz3 := z3.len
      obtain ⟨_, F4, f4, z4, u4, rfl, p4⟩ := run_weavers (base := h.length) (by omega) (lom2.ext ((z1.trans z2).trans z3)) hok2
      have hz4 := z4.len
      obtain ⟨_, F5, f5, z5, u5, rfl, p5⟩ := run_must (base := h.length) (by omega) (M2.lom.ext (((z1.trans z2).trans z3).trans z4)) M1.ok
      have hz5 := z5.len
      obtain ⟨_, F6, f6, z6, u6, rfl, p6⟩ := run_must (base := h.length) (by omega) (lom2.ext ((((z1.trans z2).trans z3).trans z4).trans z5)) hok2
      rw [hf1.1] at f1
      rw [hf2.1] at f2
      rw [hw1'.1] at f3
      rw [hw2'.1] at f4
      rw [hm1.1] at f5
      rw [hm2.1] at f6
      have z26 := ((((z1.trans z2).trans z3).trans z4).trans z5).trans z6
      have t0 := xH2.get gk3
      have t1 := z1.get t0
      have t2 := z2.get t1
      have t3 := z3.get t2
      have t4 := z4.get t3
      have t5 := z5.get t4
      have t6 := z6.get t5
      unfold lmB at gH2
      have s1 := z1.get gH2
      have s2 := z2.get s1
      have s3 := z3.get s2
      have s4 := z4.get s3
      have s5 := z5.get s4
      have s6 := z6.get s5
      have fl1 := truth_len hf1.2.1.1
      have fl2 := truth_len hf2.2.1.1
      have c2a : lenOpA prog F2 60 u1 = some (.int .i64 ((fewM L).1.length : Int)) := own_len (p1.ext z2) Fc.el60 (by omega)
      have hlp2 : L2.ps.length = L.ps.length := rn.hp
      have c2b : lenOpA prog F2 60 u2 = some (.int .i64 ((fewM L).1.length : Int)) := by rw [few_ren rn M1.hc hc2 M1.xp]; exact own_len p2 Fc.el60 (by omega)
      have sw1 := wvr_small M1.hc M1.xp
      have sw2 := wvr_small hc2 xp2
      have sm1 := (lasts_small (L := L) (k := 0)).2.2.1
      have sm2 := (lasts_small (L := L2) (k := 0)).2.2.1
      have w3 := (own_ints p3 sw1).ext ((z4.trans z5).trans z6)
      have w4 := (own_ints p4 sw2).ext (z5.trans z6)
      have w5 := (own_ints p5 sm1).ext z6
      have w6 := own_ints p6 sm2
      have c6a : lenOpA prog F6 36 u3 = some (.int .i64 ((wvrM L).1.length : Int)) := lenI w3
      have c6b : lenOpA prog F6 36 u4 = some (.int .i64 ((wvrM L).1.length : Int)) := by rw [wvr_ren rn M1.hc hc2 M1.xp]; exact lenI w4
      have c6c : lenOpA prog F6 36 u5 = some (.int .i64 ((mstM L).1.length : Int)) := lenI w5
      have c6d : lenOpA prog F6 36 u6 = some (.int .i64 ((mstM L).1.length : Int)) := by rw [mst_ren rn M1.hc hc2 M1.xp]; exact lenI w6
      have ou1 := p1.one
      have ou2 := p2.one
      have ou3 := p3.one
      have ou4 := p4.one
      have ou5 := p5.one
      have ou6 := p6.one
      have i1F := (i1.ext xH2).ext z26
      have i3F := (i3.ext xH2).ext z26
      clear lP lS lP0 lS2
      have sw1l := sw1.1
      have sm1l := sm1.1
      unfold lmB at *
      have hsp := @Nat.succ_ne_zero; repeat' (first | simp (disch := first | exact dschE87 | fail) only [go_sem, ↓reduceIte, hsp, c2, c6, c7, c10, c11, c12, c13, c107, c108, c109, p2, p6, p7, p10, p11, p12, p13, p64, p65, p66, hlt2, t0, gH2, cn1, cn2, f1, t1, f2, s1, c2a, c2b, t2, f3, s3, f4, t4, f5, s5, f6, c6a, c6b, c6c, c6d, s2, t3, s4, t5, eq_self, not_true, decide_false] | refine WP_drw ?_ | refine cnd_intro (fun hsp => ?_) fun hsp => ?_)
      refine WP_count [(6, 6), (34, 34), (234, 255)] 0 (wvrM L).1.length (Nat.zero_le _) (fun H0 j fr h' => fr 234 = .int .i64 (j : Int) ∧ h' = H0) ?_ ?_ ?_
      · exact ⟨by (simp (disch := first | exact dschE87 | fail) only [go_sem, ↓reduceIte, Int.natCast_zero]; first | done | rfl), rfl⟩
      · rintro j fr3 K3 hj0 hj hA3 ⟨d234, eK3⟩
        subst eK3
        have d2 := hA3 2 rfl
        have d7 := hA3 7 rfl
        have d10 := hA3 10 rfl
        have d12 := hA3 12 rfl
        have d13 := hA3 13 rfl
        have d29 := hA3 29 rfl
        have d30 := hA3 30 rfl
        have d31 := hA3 31 rfl
        have d32 := hA3 32 rfl
        have d232 := hA3 232 rfl
        have d233 := hA3 233 rfl
        try simp (disch := first | exact dschE87 | fail) only [go_sem, ↓reduceIte, c2, c7, c10, c12, c13] at d2 d7 d10 d12 d13 d29 d30 d31 d32 d232 d233
        
        have hlt3 : ((j : Int) < ((wvrM L).1.length : Int)) = True := eq_true (by omega)
        obtain ⟨a, ea⟩ : ∃ a, (wvrM L).1.getD j 0 = a := ⟨_, rfl⟩
        have ham : a ∈ (wvrM L).1 := by rw [← ea]; exact getD_mem hj
        have har := ((hw1'.2 a).1 ham).1.1
        have hal : a < (so.length : Int) := by omega
        have ha0 := har.1
        have han : a.toNat < so.length := by omega
        have u1 : (a < 0) = False := eq_false (by omega)
        have u2 : (a ≥ (so.length : Int)) = False := eq_false (by omega)
        have cY := fun base => run_contains (base := base) (x := so.getD a.toNat 0) w4
        have tm : (so.getD a.toNat 0 ∈ (wvrM L2).1) = True := eq_true (wvr_mv rn M1.hc hc2 M1.xp ham)
        have hsp := @Nat.succ_ne_zero; repeat' (first | simp (disch := first | exact dschE87 | fail) only [go_sem, ↓reduceIte, hsp, d2, d7, d10, d12, d13, d29, d30, d31, d32, d232, d233, d234, c2, c6, c7, c10, c11, c12, c13, c107, c108, c109, hlt3, ea, u1, u2, cY, tm, decide_true, Bool.not_true] | refine WP_drw ?_ | refine cnd_intro (fun hsp => ?_) fun hsp => ?_)
        exact ⟨by (repeat first | exact Agree.refl | assumption | refine Agree.put rfl ?_ | refine Agree.put0 ?_ | refine Agree.sub rfl (by assumption) ?_), by omega⟩
      · rintro fr3 K3 hA3 ⟨d234, eK3⟩
        subst eK3
        have d2 := hA3 2 rfl
        have d7 := hA3 7 rfl
        have d10 := hA3 10 rfl
        have d12 := hA3 12 rfl
        have d13 := hA3 13 rfl
        have d29 := hA3 29 rfl
        have d30 := hA3 30 rfl
        have d31 := hA3 31 rfl
        have d32 := hA3 32 rfl
        have d232 := hA3 232 rfl
        have d233 := hA3 233 rfl
        try simp (disch := first | exact dschE87 | fail) only [go_sem, ↓reduceIte, c2, c7, c10, c12, c13] at d2 d7 d10 d12 d13 d29 d30 d31 d32 d232 d233
        
        have hlt3 : (((wvrM L).1.length : Int) < ((wvrM L).1.length : Int)) = False := eq_false (by omega)
        have hsp := @Nat.succ_ne_zero; repeat' (first | simp (disch := first | exact dschE87 | fail) only [go_sem, ↓reduceIte, hsp, d2, d7, d10, d12, d13, d29, d30, d31, d32, d232, d233, d234, c2, c6, c7, c10, c11, c12, c13, c107, c108, c109, hlt3, c6c] | refine WP_drw ?_ | refine cnd_intro (fun hsp => ?_) fun hsp => ?_)
        refine WP_count [(6, 6), (36, 36), (258, 279)] 0 (mstM L).1.length (Nat.zero_le _) (fun H0 j fr h' => fr 258 = .int .i64 (j : Int) ∧ h' = H0) ?_ ?_ ?_
        · exact ⟨by (simp (disch := first | exact dschE87 | fail) only [go_sem, ↓reduceIte, Int.natCast_zero]; first | done | rfl), rfl⟩
        · rintro j fr4 K4 hj0 hj hA4 ⟨y258, eK4⟩
          subst eK4
          have y2 := hA4 2 rfl
          have y7 := hA4 7 rfl
          have y10 := hA4 10 rfl
          have y13 := hA4 13 rfl
          have y29 := hA4 29 rfl
          have y32 := hA4 32 rfl
          have y256 := hA4 256 rfl
          have y257 := hA4 257 rfl
          try simp (disch := first | exact dschE87 | fail) only [go_sem, ↓reduceIte, d2, d7, d10, d13, d29, d32] at y2 y7 y10 y13 y29 y32 y256 y257
          
          have hlt3 : ((j : Int) < ((mstM L).1.length : Int)) = True := eq_true (by omega)
          obtain ⟨a, ea⟩ : ∃ a, (mstM L).1.getD j 0 = a := ⟨_, rfl⟩
          have ham : a ∈ (mstM L).1 := by rw [← ea]; exact getD_mem hj
          have har := ((hm1.2 a).1 ham).1
          have hal : a < (po.length : Int) := by omega
          have ha0 := har.1
          have han : a.toNat < po.length := by omega
          have u1 : (a < 0) = False := eq_false (by omega)
          have u2 : (a ≥ (po.length : Int)) = False := eq_false (by omega)
          have cY := fun base => run_contains (base := base) (x := po.getD a.toNat 0) w6
          have tm : (po.getD a.toNat 0 ∈ (mstM L2).1) = True := eq_true (mst_mv rn M1.hc hc2 M1.xp ham)
          have hsp := @Nat.succ_ne_zero; repeat' (first | simp (disch := first | exact dschE87 | fail) only [go_sem, ↓reduceIte, hsp, y2, y7, y10, y13, y29, y32, y256, y257, y258, d2, d7, d10, d12, d13, d29, d30, d31, d32, d232, d233, d234, hlt3, ea, u1, u2, cY, tm, decide_true, Bool.not_true] | refine WP_drw ?_ | refine cnd_intro (fun hsp => ?_) fun hsp => ?_)
          exact ⟨by (repeat first | exact Agree.refl | assumption | refine Agree.put rfl ?_ | refine Agree.put0 ?_ | refine Agree.sub rfl (by assumption) ?_), by omega⟩
        · rintro fr4 K4 hA4 ⟨y258, eK4⟩
          subst eK4
          have y2 := hA4 2 rfl
          have y7 := hA4 7 rfl
          have y10 := hA4 10 rfl
          have y13 := hA4 13 rfl
          have y29 := hA4 29 rfl
          have y32 := hA4 32 rfl
          have y256 := hA4 256 rfl
          have y257 := hA4 257 rfl
          try simp (disch := first | exact dschE87 | fail) only [go_sem, ↓reduceIte, d2, d7, d10, d13, d29, d32] at y2 y7 y10 y13 y29 y32 y256 y257
          
          have hlt3 : (((mstM L).1.length : Int) < ((mstM L).1.length : Int)) = False := eq_false (by omega)
          obtain ⟨P, eP⟩ : ∃ P, P = n1.tmod 1001 := ⟨_, rfl⟩
          have rP : 0 ≤ P ∧ P ≤ 1000 := by
            have a1 := Int.tmod_nonneg 1001 q1.1
            have a2 := Int.tmod_lt_of_pos n1 (b := 1001) (by omega)
            rw [eP]; omega
          have cw := cvW q1
          have rm : binA prog .rem 3 (.int .i64 n1) (.int .i64 1001) = some (.int .i64 P) := by rw [bin_rem (by omega), eP]
          have wl : (wvrM L).1.length ≤ 10 := by
            have a1 := wvrM_len (L := L)
            have a2 : (deskA L).1.length ≤ L.ss.length := by
              rw [deskA_bad]
              have := List.length_filter_le (badI L) (upto L.ss.length)
              rwa [upto_len] at this
            omega
          have fv1 : finM L P = (P * ((wvrM L).1.length : Int), 0) := by unfold finM; rw [if_neg (by simp [M1.hc]), if_neg (fun q => q rP), if_neg (by simp [hw1'.1])]
          have fv2 : finM L2 P = (P * ((wvrM L).1.length : Int), 0) := by unfold finM; rw [if_neg (by simp [hc2]), if_neg (fun q => q rP), if_neg (by simp [hw2'.1]), wvr_ren rn M1.hc hc2 M1.xp]
          have fn1 := fun base => run_fine (base := base) (p := P) (M2.lom.ext z26) M1.ok
          have fn2 := fun base => run_fine (base := base) (p := P) (lom2.ext z26) hok2
          rw [fv1] at fn1
          rw [fv2] at fn2
          have mb : P * ((wvrM L).1.length : Int) ≤ 1000 * 10 := Int.mul_le_mul rP.2 (by omega) (by omega) (by decide)
          have m0 : 0 ≤ P * ((wvrM L).1.length : Int) := Int.mul_nonneg rP.1 (by omega)
          have ml : binA prog .mul 3 (.int .i64 P) (.int .i64 ((wvrM L).1.length : Int)) = some (.int .i64 (P * ((wvrM L).1.length : Int))) := by rw [bin_mul, wrap64 (by omega) (by omega)]
          have hsp := @Nat.succ_ne_zero; repeat' (first | simp (disch := first | exact dschE87 | fail) only [go_sem, ↓reduceIte, hsp, y2, y7, y10, y13, y29, y32, y256, y257, y258, d2, d7, d10, d12, d13, d29, d30, d31, d32, d232, d233, d234, c2, c6, c7, c10, c11, c12, c13, c107, c108, c109, hlt3, cw, rm, t6, s6, fn1, fn2, c6a, ml, run_awake, eq_self, decide_true] | refine WP_drw ?_ | refine cnd_intro (fun hsp => ?_) fun hsp => ?_)
          exact fB rfl ((((x1.trans xG1).trans xK3).trans xH2).trans z26)
end Go.AM
