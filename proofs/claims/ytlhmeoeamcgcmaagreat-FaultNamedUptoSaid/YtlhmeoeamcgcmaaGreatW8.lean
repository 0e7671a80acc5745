/-
  Plain theory: looms whose parts, ribbons and sights have other numbers.
-/
import Derived.Test.YtlhmeoeamcgcmaaGreatWJ
set_option linter.unusedSimpArgs false
set_option linter.unusedVariables false
namespace Go.AM
/-- The numbers below n, to and fro. -/
structure Bij (n : Int) (p q : Int → Int) : Prop where
  to : ∀ i, 0 ≤ i ∧ i < n → (0 ≤ p i ∧ p i < n) ∧ q (p i) = i
  fro : ∀ i, 0 ≤ i ∧ i < n → (0 ≤ q i ∧ q i < n) ∧ p (q i) = i
theorem Bij.symm {n : Int} {p q : Int → Int} (x : Bij n p q) : Bij n q p := ⟨x.fro, x.to⟩
theorem Bij.inj {n : Int} {p q : Int → Int} (x : Bij n p q) {i k : Int} (hi : 0 ≤ i ∧ i < n) (hk : 0 ≤ k ∧ k < n) (e : p i = p k) : i = k := by
  rw [← (x.to i hi).2, e, (x.to k hk).2]
structure Ren (L M : Lom) (p q r w s u : Int → Int) : Prop where
  hT : M.T = L.T
  hR : M.R = L.R
  hp : M.ps.length = L.ps.length
  hs : M.ss.length = L.ss.length
  pq : Bij (L.ps.length : Int) p q
  rw : Bij L.R r w
  su : Bij (L.ss.length : Int) s u
  rib : ∀ i, 0 ≤ i ∧ i < (L.ps.length : Int) → ∀ x ∈ (L.ps.getD i.toNat prt0).rib, 0 ≤ x ∧ x < L.R
  srib : ∀ i, 0 ≤ i ∧ i < (L.ss.length : Int) → 0 ≤ (sgtI L i).rib ∧ (sgtI L i).rib < L.R
  part : ∀ i, 0 ≤ i ∧ i < (L.ps.length : Int) → (M.ps.getD (p i).toNat prt0).each = (L.ps.getD i.toNat prt0).each ∧ (M.ps.getD (p i).toNat prt0).ph = (L.ps.getD i.toNat prt0).ph ∧ (M.ps.getD (p i).toNat prt0).wv = (L.ps.getD i.toNat prt0).wv ∧
    ∀ x, x ∈ (M.ps.getD (p i).toNat prt0).rib ↔ ∃ y ∈ (L.ps.getD i.toNat prt0).rib, x = r y
  sgt : ∀ i, 0 ≤ i ∧ i < (L.ss.length : Int) → sgtI M (s i) = ⟨r (sgtI L i).rib, (sgtI L i).lo, (sgtI L i).hi, (sgtI L i).bad⟩
section
variable {L M : Lom} {p q r w s u : Int → Int}
theorem Ren.symm (x : Ren L M p q r w s u) : Ren M L q p w r u s where
  hT := x.hT.symm
  hR := x.hR.symm
  hp := x.hp.symm
  hs := x.hs.symm
  pq := by rw [x.hp]; exact x.pq.symm
  rw := by rw [x.hR]; exact x.rw.symm
  su := by rw [x.hs]; exact x.su.symm
  rib := by
    intro k hk y hy
    rw [x.hp] at hk
    obtain ⟨h1, h2⟩ := x.pq.fro k hk
    have := (x.part _ h1).2.2.2 y
    rw [h2] at this
    obtain ⟨z, hz, rfl⟩ := this.1 hy
    rw [x.hR]
    exact (x.rw.to z (x.rib _ h1 z hz)).1
  srib := by
    intro k hk
    rw [x.hs] at hk
    obtain ⟨h1, h2⟩ := x.su.fro k hk
    have := x.sgt _ h1
    rw [h2] at this
    rw [this, x.hR]
    exact (x.rw.to _ (x.srib _ h1)).1
  part := by
    intro k hk
    rw [x.hp] at hk
    obtain ⟨h1, h2⟩ := x.pq.fro k hk
    obtain ⟨a, b, c, d⟩ := x.part _ h1
    rw [h2] at a b c d
    refine ⟨a.symm, b.symm, c.symm, fun y => ⟨fun hy => ⟨r y, (d _).2 ⟨y, hy, rfl⟩, ((x.rw.to y (x.rib _ h1 y hy)).2).symm⟩, ?_⟩⟩
    rintro ⟨z, hz, rfl⟩
    obtain ⟨y, hy, rfl⟩ := (d z).1 hz
    rw [(x.rw.to y (x.rib _ h1 y hy)).2]
    exact hy
  sgt := by
    intro k hk
    rw [x.hs] at hk
    obtain ⟨h1, h2⟩ := x.su.fro k hk
    have := x.sgt _ h1
    rw [h2] at this
    rw [this]
    simp only [(x.rw.to _ (x.srib _ h1)).2]
def mvB (p : Int → Int) (b : Brk) : Brk := (p b.1, b.2.1, b.2.2)
def mvT (p : Int → Int) (t : List Brk) : List Brk := (t.map (mvB p)).mergeSort fun a b => decide (a.1 ≤ b.1)
theorem mvT_mem {t : List Brk} {b : Brk} : b ∈ mvT p t ↔ ∃ c ∈ t, mvB p c = b := by
  unfold mvT
  rw [(List.mergeSort_perm ..).mem_iff, List.mem_map]
theorem mvT_len {t : List Brk} : (mvT p t).length = t.length := by
  unfold mvT
  rw [(List.mergeSort_perm ..).length_eq, List.length_map]
theorem prtOf_mv (x : Ren L M p q r w s u) {b : Brk} (hb : brkOk L b) : (prtOf M (mvB p b)).each = (prtOf L b).each ∧ (prtOf M (mvB p b)).ph = (prtOf L b).ph ∧ (prtOf M (mvB p b)).wv = (prtOf L b).wv ∧ ∀ y, y ∈ (prtOf M (mvB p b)).rib ↔ ∃ z ∈ (prtOf L b).rib, y = r z :=
  x.part b.1 ⟨hb.1, hb.2.1⟩
theorem brkOk_mv (x : Ren L M p q r w s u) {b : Brk} (hb : brkOk L b) : brkOk M (mvB p b) := by
  obtain ⟨h1, h2, h3⟩ := hb
  have := (x.pq.to b.1 ⟨h1, h2⟩).1
  unfold brkOk mvB
  rw [x.hp, x.hT]
  exact ⟨this.1, this.2, h3⟩
theorem tch_mv (x : Ren L M p q r w s u) {b : Brk} (hb : brkOk L b) {i : Int} (hi : 0 ≤ i ∧ i < (L.ss.length : Int)) : tch M (mvB p b) (sgtI M (s i)) ↔ tch L b (sgtI L i) := by
  obtain ⟨h1, h2, h3, h4⟩ := prtOf_mv x hb
  unfold tch
  rw [x.sgt i hi, h1, h2, h4]
  refine and_congr ⟨?_, fun h => ⟨_, h, rfl⟩⟩ Iff.rfl
  rintro ⟨z, hz, e⟩
  rw [x.rw.inj (x.srib i hi) (x.rib b.1 ⟨hb.1, hb.2.1⟩ z hz) e]
  exact hz
theorem bdT_mv (x : Ren L M p q r w s u) {t : List Brk} (ht : ∀ b ∈ t, brkOk L b) {i : Int} (hi : 0 ≤ i ∧ i < (L.ss.length : Int)) : bdT M (mvT p t) (sgtI M (s i)) ↔ bdT L t (sgtI L i) := by
  unfold bdT
  constructor
  · rintro ⟨b, hb, h⟩
    obtain ⟨c, hc, rfl⟩ := mvT_mem.1 hb
    exact ⟨c, hc, (tch_mv x (ht c hc) hi).1 h⟩
  · rintro ⟨c, hc, h⟩
    exact ⟨_, mvT_mem.2 ⟨c, hc, rfl⟩, (tch_mv x (ht c hc) hi).2 h⟩
theorem wvT_mv (x : Ren L M p q r w s u) {t : List Brk} (ht : ∀ b ∈ t, brkOk L b) {i : Int} (hi : 0 ≤ i ∧ i < (L.ss.length : Int)) : wvT M (mvT p t) (sgtI M (s i)) ↔ wvT L t (sgtI L i) := by
  unfold wvT
  constructor
  · rintro ⟨b, hb, h0, h⟩
    obtain ⟨c, hc, rfl⟩ := mvT_mem.1 hb
    exact ⟨c, hc, by rw [← (prtOf_mv x (ht c hc)).2.2.1]; exact h0, (tch_mv x (ht c hc) hi).1 h⟩
  · rintro ⟨c, hc, h0, h⟩
    exact ⟨_, mvT_mem.2 ⟨c, hc, rfl⟩, by rw [(prtOf_mv x (ht c hc)).2.2.1]; exact h0, (tch_mv x (ht c hc) hi).2 h⟩
theorem truOk_mv (x : Ren L M p q r w s u) {t : List Brk} (ht : truOk L t) : truOk M (mvT p t) := by
  refine ⟨?_, fun b hb => ?_⟩
  · have h1 : (mvT p t).Pairwise (fun a b => a.1 ≤ b.1) := by
      have := List.pairwise_mergeSort (le := fun a b : Brk => decide (a.1 ≤ b.1)) (fun a b c h1 h2 => by simp only [decide_eq_true_eq] at *; omega) (fun a b => by simp only [Bool.or_eq_true, decide_eq_true_eq]; omega) (t.map (mvB p))
      exact this.imp fun h => of_decide_eq_true h
    have h2 : (mvT p t).Pairwise (fun a b => a.1 ≠ b.1) := by
      unfold mvT
      rw [(List.mergeSort_perm ..).pairwise_iff (fun {a b} h => Ne.symm h), List.pairwise_map]
      refine ht.1.imp_of_mem fun {a b} ha hb hab e => ?_
      have := x.pq.inj ⟨(ht.2 a ha).1, (ht.2 a ha).2.1⟩ ⟨(ht.2 b hb).1, (ht.2 b hb).2.1⟩ e
      omega
    exact (h1.and h2).imp fun ⟨a, b⟩ => by omega
  · obtain ⟨c, hc, rfl⟩ := mvT_mem.1 hb
    exact brkOk_mv x (ht.2 c hc)
theorem badI_mv (x : Ren L M p q r w s u) {i : Int} (hi : 0 ≤ i ∧ i < (L.ss.length : Int)) : badI M (s i) = badI L i := by
  show (sgtI M (s i)).bad = (sgtI L i).bad
  rw [x.sgt i hi]
theorem xp_mv (x : Ren L M p q r w s u) {t : List Brk} (ht : XpA L t) : XpA M (mvT p t) := by
  refine ⟨truOk_mv x ht.1, fun k hk => ?_⟩
  rw [upto_mem, x.hs] at hk
  obtain ⟨h1, h2⟩ := x.su.fro k hk
  rw [← h2, bdT_mv x ht.1.2 h1, badI_mv x h1]
  exact ht.2 _ (upto_mem.2 h1)
/-- Truths of the same breaks are the same. -/
theorem tru_ext : ∀ {t v : List Brk}, t.Pairwise (fun a b => a.1 < b.1) → v.Pairwise (fun a b => a.1 < b.1) → (∀ b, b ∈ t ↔ b ∈ v) → t = v
  | [], [], _, _, _ => rfl
  | [], y :: m, _, _, h => by have := (h y).2 (by simp); cases this
  | x :: l, [], _, _, h => by have := (h x).1 (by simp); cases this
  | x :: l, y :: m, hl, hm, h => by
    have e : x = y := by
      rcases List.mem_cons.1 ((h x).1 (by simp)) with q | q
      · exact q
      · rcases List.mem_cons.1 ((h y).2 (by simp)) with r | r
        · exact r.symm
        · have := List.rel_of_pairwise_cons hm q
          have := List.rel_of_pairwise_cons hl r
          omega
    subst e
    congr 1
    refine tru_ext (List.pairwise_cons.1 hl).2 (List.pairwise_cons.1 hm).2 fun z => ⟨fun hz => ?_, fun hz => ?_⟩
    · rcases List.mem_cons.1 ((h z).1 (by simp [hz])) with q | q
      · have := List.rel_of_pairwise_cons hl hz
        rw [q] at this
        omega
      · exact q
    · rcases List.mem_cons.1 ((h z).2 (by simp [hz])) with q | q
      · have := List.rel_of_pairwise_cons hm hz
        rw [q] at this
        omega
      · exact q
theorem mv_mv (x : Ren L M p q r w s u) {t : List Brk} (ht : truOk L t) : mvT q (mvT p t) = t := by
  refine tru_ext (truOk_mv x.symm (truOk_mv x ht)).1 ht.1 fun b => ?_
  have e : ∀ c ∈ t, mvB q (mvB p c) = c := fun c hc => by
    unfold mvB
    simp only [(x.pq.to c.1 ⟨(ht.2 c hc).1, (ht.2 c hc).2.1⟩).2]
  rw [mvT_mem]
  constructor
  · rintro ⟨c, hc, rfl⟩
    obtain ⟨d, hd, rfl⟩ := mvT_mem.1 hc
    rw [e d hd]; exact hd
  · intro hb
    exact ⟨_, mvT_mem.2 ⟨b, hb, rfl⟩, e b hb⟩
theorem cnt_le (x : Ren L M p q r w s u) (hc : chkM L = 0) (hm : chkM M = 0) : (cntM L).1 ≤ (cntM M).1 := by
  obtain ⟨ts, n1, m1, e1⟩ := cntM_truths hc
  obtain ⟨us, n2, m2, e2⟩ := cntM_truths hm
  rw [e1, e2]
  have := pigeon (R := fun t v => mvT p t = v) n1 (t := us) (fun t ht => ⟨_, (m2 _).2 (xp_mv x ((m1 t).1 ht)), rfl⟩) (fun a ha c hc b _ h1 h2 => by
    rw [← mv_mv x ((m1 a).1 ha).1, h1, ← h2, mv_mv x ((m1 c).1 hc).1])
  show (ts.length : Int) ≤ (us.length : Int)
  omega
theorem cnt_ren (x : Ren L M p q r w s u) (hc : chkM L = 0) (hm : chkM M = 0) : cntM L = cntM M := by
  have h1 := cnt_le x hc hm
  have h2 := cnt_le x.symm hm hc
  obtain ⟨_, _, _, e1⟩ := cntM_truths hc
  obtain ⟨_, _, _, e2⟩ := cntM_truths hm
  refine Prod.ext (by omega) ?_
  rw [e1, e2]
theorem few_le (x : Ren L M p q r w s u) (hc : chkM L = 0) (hm : chkM M = 0) {t : List Brk} (ht : XpA L t) : (fewM M).1.length ≤ (fewM L).1.length := by
  obtain ⟨_, a, _⟩ := fewM_truth hc ht
  obtain ⟨_, _, b⟩ := fewM_truth hm (xp_mv x ht)
  have := b _ (xp_mv x a)
  rwa [mvT_len] at this
theorem few_ren (x : Ren L M p q r w s u) (hc : chkM L = 0) (hm : chkM M = 0) {t : List Brk} (ht : XpA L t) : (fewM L).1.length = (fewM M).1.length :=
  Nat.le_antisymm (few_le x.symm hm hc (xp_mv x ht)) (few_le x hc hm ht)
theorem mst_mv (x : Ren L M p q r w s u) (hc : chkM L = 0) (hm : chkM M = 0) {t : List Brk} (ht : XpA L t) {k : Int} (hk : k ∈ (mstM L).1) : p k ∈ (mstM M).1 := by
  obtain ⟨h1, h2⟩ := ((mstM_mem hc ht).2 k).1 hk
  refine ((mstM_mem hm (xp_mv x ht)).2 _).2 ⟨by rw [x.hp]; exact (x.pq.to k h1).1, fun v hv => ?_⟩
  obtain ⟨b, hb, e⟩ := h2 _ (xp_mv x.symm hv)
  obtain ⟨c, hc, rfl⟩ := mvT_mem.1 hb
  have hcv := hv.1.2 c hc
  have hr : 0 ≤ c.1 ∧ c.1 < (L.ps.length : Int) := ⟨hcv.1, by rw [← x.hp]; exact hcv.2.1⟩
  refine ⟨c, hc, ?_⟩
  rw [← e]
  exact ((x.pq.fro c.1 hr).2).symm
theorem wvr_mv (x : Ren L M p q r w s u) (hc : chkM L = 0) (hm : chkM M = 0) {t : List Brk} (ht : XpA L t) {i : Int} (hi : i ∈ (wvrM L).1) : s i ∈ (wvrM M).1 := by
  obtain ⟨⟨h1, h3⟩, h2⟩ := ((wvrM_mem hc ht).2 i).1 hi
  refine ((wvrM_mem hm (xp_mv x ht)).2 _).2 ⟨⟨by rw [x.hs]; exact (x.su.to i h1).1, by rw [badI_mv x h1]; exact h3⟩, fun v hv => ?_⟩
  have := (wvT_mv x.symm hv.1.2 (i := s i) (by rw [x.hs]; exact (x.su.to i h1).1)).1
  rw [(x.su.to i h1).2] at this
  exact this (h2 _ (xp_mv x.symm hv))
theorem selN_at {f : Nat → Bool} {g : Nat → Int} {x : Int} : ∀ {n : Nat}, x ∈ selN f g n → ∃ i, i < n ∧ x = g i
  | 0, h => by cases h
  | n + 1, h => by
    rw [selN, List.mem_append] at h
    rcases h with h | h
    · obtain ⟨i, h1, h2⟩ := selN_at h
      exact ⟨i, by omega, h2⟩
    · split at h
      · exact ⟨n, by omega, List.mem_singleton.1 h⟩
      · cases h
theorem selN_up {f : Nat → Bool} {g : Nat → Int} : ∀ {n : Nat}, (∀ i k, i < k → k < n → g i < g k) → (selN f g n).Pairwise (· < ·)
  | 0, _ => .nil
  | n + 1, h => by
    rw [selN, List.pairwise_append]
    refine ⟨selN_up fun i k h1 h2 => h i k h1 (by omega), by split <;> simp, fun a ha b hb => ?_⟩
    obtain ⟨i, h1, rfl⟩ := selN_at ha
    split at hb
    · rw [List.mem_singleton.1 hb]; exact h i n h1 (by omega)
    · cases hb
theorem mst_nodup : (mstM L).1.Nodup := by
  unfold mstM
  split
  · exact .nil
  · exact (selN_up fun i k h1 _ => by omega).imp fun h => by omega
theorem wvr_nodup : (wvrM L).1.Nodup := by
  unfold wvrM
  split
  · exact .nil
  · refine (selN_up fun i k h1 h2 => ?_).imp fun h => by omega
    have := List.pairwise_iff_getElem.1 (deskA_sorted (L := L)) i k (by omega) h2 h1
    rwa [List.getD_eq_getElem?_getD, List.getD_eq_getElem?_getD, List.getElem?_eq_getElem h2, List.getElem?_eq_getElem (by omega)]
theorem mst_le (x : Ren L M p q r w s u) (hc : chkM L = 0) (hm : chkM M = 0) {t : List Brk} (ht : XpA L t) : (mstM L).1.length ≤ (mstM M).1.length :=
  pigeon (R := fun a b => p a = b) mst_nodup (fun a ha => ⟨_, mst_mv x hc hm ht ha, rfl⟩) fun a ha c hb b _ h1 h2 =>
    x.pq.inj (((mstM_mem hc ht).2 a).1 ha).1 (((mstM_mem hc ht).2 c).1 hb).1 (h1.trans h2.symm)
theorem wvr_le (x : Ren L M p q r w s u) (hc : chkM L = 0) (hm : chkM M = 0) {t : List Brk} (ht : XpA L t) : (wvrM L).1.length ≤ (wvrM M).1.length :=
  pigeon (R := fun a b => s a = b) wvr_nodup (fun a ha => ⟨_, wvr_mv x hc hm ht ha, rfl⟩) fun a ha c hb b _ h1 h2 =>
    x.su.inj (((wvrM_mem hc ht).2 a).1 ha).1.1 (((wvrM_mem hc ht).2 c).1 hb).1.1 (h1.trans h2.symm)
theorem mst_ren (x : Ren L M p q r w s u) (hc : chkM L = 0) (hm : chkM M = 0) {t : List Brk} (ht : XpA L t) : (mstM L).1.length = (mstM M).1.length :=
  Nat.le_antisymm (mst_le x hc hm ht) (mst_le x.symm hm hc (xp_mv x ht))
theorem wvr_ren (x : Ren L M p q r w s u) (hc : chkM L = 0) (hm : chkM M = 0) {t : List Brk} (ht : XpA L t) : (wvrM L).1.length = (wvrM M).1.length :=
  Nat.le_antisymm (wvr_le x hc hm ht) (wvr_le x.symm hm hc (xp_mv x ht))
end
end Go.AM
