/-
  Contracts: short lists of integers are sorted in place (slices.Sort, at most 12 elements).
-/
import Derived.Test.YtlhmeoeamcgcmaaGreatK1
import Derived.Test.YtlhmeoeamcgcmaaGreatKJ
import Derived.Test.YtlhmeoeamcgcmaaGreatK7
set_option linter.unusedSimpArgs false
set_option linter.unusedVariables false
namespace Go.AM
open Go.Proofs.Tryz
theorem dschK8 {p : Prop} (h : p := by first | exact Nat.ne_of_beq_eq_false rfl | assumption | (apply asOne; (first | exact One.int | exact One.bool | assumption | exact Ints.one (by assumption) | exact Rows.one (by assumption) | exact Own.one (by assumption) | exact One.lit ⟨rfl, rfl, rfl⟩)) | (apply asInts; (repeat first | assumption | exact ints_nil | apply Ints.app); done) | (apply asRows; (repeat first | assumption | exact Rows.nil | apply Rows.app); done) | (apply asScal; (first | apply allS1 | apply allS2 | apply allS3 | apply allS4) <;> (first | exact One.int | exact One.bool | assumption | exact Ints.one (by assumption) | exact Rows.one (by assumption) | exact Own.one (by assumption) | exact One.lit ⟨rfl, rfl, rfl⟩)) | exact litT rfl | exact litF rfl | omega | (simp only [List.length_append, List.length_cons, List.length_nil, List.length_set, List.length_reverse]; first | done | omega) | fail) : p := h
attribute [-go_sem] put_ne put_same
attribute [local go_sem ↓] put_if
theorem ev_str {fr : AFrame} {s : ByteArray} : ev fr (.const (.string s)) = .str s := rfl
theorem ix_str {t : TypeId} {s : ByteArray} {k : IntKind} {n : Nat} (ha : arT prog t = none) (hs : strT prog t = true) : indexA prog t (.str s) (.int k (n : Int)) = (s[n]?).map fun b => .int .u8 b.toNat := by
  unfold indexA
  rw [ha]
  simp only [hs, true_and]
  rw [if_pos (by omega), Int.toNat_natCast]
/-! ### The length in bits -/
def lenT (n : Nat) : Nat := [0, 1, 2, 2, 3, 3, 3, 3, 4, 4, 4, 4, 4].getD n 0
theorem lenT_lt {n : Nat} : lenT n ≤ 4 := by
  by_cases h : n < 13
  · have : ∀ n : Fin 13, lenT n ≤ 4 := by decide
    exact this ⟨n, h⟩
  · unfold lenT
    rw [List.getD_eq_getElem?_getD, List.getElem?_eq_none (by simp; omega)]; decide
theorem len_key {k n : Nat} {s : ByteArray} {K : AVal → Prop} (h : s[n]? = some (UInt8.ofNat k)) (hk : k ≤ 4) (hK : K (.int .u8 (k : Int))) : bindv ((s[n]?).map fun b => AVal.int .u8 (b.toNat : Int)) K := by
  rw [h]
  simp only [Option.map_some, bindv_some]
  have : (UInt8.ofNat k).toNat = k := by rw [UInt8.toNat_ofNat']; exact Nat.mod_eq_of_lt (by omega)
  rw [this]
  exact hK
theorem run_len64 {base n : Nat} {h : Heap} (hn : n ≤ 12) : callL prog raw base (.fn 174 [] []) [.int .u64 (n : Int)] h = some (.int .i64 (lenT n : Int), h) := by
  have t1 : ((n : Int) ≥ 4294967296) = False := eq_false (by omega)
  have t2 : ((n : Int) ≥ 65536) = False := eq_false (by omega)
  have t3 : ((n : Int) ≥ 256) = False := eq_false (by omega)
  have c1 : convA prog 5 172 (.int .u64 (n : Int)) = some (.int .u8 (n : Int)) := by
    simp only [convA, underlying172, Fc.ik5]
    have e : (n : Int) % 2 ^ 8 = n := Int.emod_eq_of_lt (by omega) (by omega)
    simp only [IntKind.wrap, IntKind.signed, IntKind.bits, Bool.false_eq_true, Bool.false_and, if_false, e]
  have c2 : ∀ k : Nat, k ≤ 4 → convA prog 3 5 (.int .u8 (k : Int)) = some (.int .i64 (k : Int)) := fun k hk => by
    simp only [convA, underlying5, Fc.ik3]
    rw [wrap64 (by omega) (by omega)]
  have hl := lenT_lt (n := n)
  have c3 := c2 (lenT n) hl
  have ix := fun (s : ByteArray) (k : IntKind) => ix_str (t := 9) (s := s) (k := k) (n := n) Fc.ar9 (by kernel_rfl)
  refine callL_run func174 rfl rfl ?_
  have hsp := @Nat.succ_ne_zero; repeat' (first | simp (disch := first | exact dschK8 | fail) only [go_sem, ↓reduceIte, hsp, t1, t2, t3, c1, ev_str, ix] | refine WP_drw ?_ | refine cnd_intro (fun hsp => ?_) fun hsp => ?_)
  refine len_key (k := lenT n) ?_ hl ?_
  · rcases (by omega : n = 0 ∨ n = 1 ∨ n = 2 ∨ n = 3 ∨ n = 4 ∨ n = 5 ∨ n = 6 ∨ n = 7 ∨ n = 8 ∨ n = 9 ∨ n = 10 ∨ n = 11 ∨ n = 12) with e | e | e | e | e | e | e | e | e | e | e | e | e <;> subst e <;> kernel_rfl
  · have hsp := @Nat.succ_ne_zero; repeat' (first | simp (disch := first | exact dschK8 | fail) only [go_sem, ↓reduceIte, hsp, c3] | refine WP_drw ?_ | refine cnd_intro (fun hsp => ?_) fun hsp => ?_)
    exact fI (by omega)
theorem run_len {base n : Nat} {h : Heap} (hn : n ≤ 12) : callL prog raw base (.fn 134 [] []) [.int .u64 (n : Int)] h = some (.int .i64 (lenT n : Int), h) := by
  have e := fun base => run_len64 (base := base) (h := h) hn
  refine callL_run func134 rfl rfl ?_
  have hsp := @Nat.succ_ne_zero; repeat' (first | simp (disch := first | exact dschK8 | fail) only [go_sem, ↓reduceIte, hsp, e] | refine WP_drw ?_ | refine cnd_intro (fun hsp => ?_) fun hsp => ?_)
  exact fI rfl
/-! ### Insertion -/
/-- Sorted up to i, but for what comes before j. -/
def Srt (m : List Int) (i j : Nat) : Prop := ∀ a b, a < b → b ≤ i → b ≠ j → m.getD a 0 ≤ m.getD b 0
def swp (m : List Int) (j : Nat) : List Int := (m.set (j + 1) (m.getD j 0)).set j (m.getD (j + 1) 0)
theorem getD_setI {l : List Int} {i j : Nat} {b : Int} (hi : i < l.length) : (l.set i b).getD j 0 = if i = j then b else l.getD j 0 := by
  rw [List.getD_eq_getElem?_getD, List.getElem?_set, List.getD_eq_getElem?_getD]
  by_cases e : i = j
  · subst e; simp [hi]
  · simp [e]
theorem swp_get {m : List Int} {j k : Nat} (hj : j + 1 < m.length) : (swp m j).getD k 0 = if k = j then m.getD (j + 1) 0 else if k = j + 1 then m.getD j 0 else m.getD k 0 := by
  unfold swp
  rw [getD_setI (by simp; omega), getD_setI (by omega)]
  repeat' split
  all_goals first | rfl | (exfalso; omega)
theorem swp_perm {m : List Int} {j : Nat} (hj : j + 1 < m.length) : (swp m j).Perm m := by
  have e : m = m.take j ++ m.getD j 0 :: m.getD (j + 1) 0 :: m.drop (j + 2) := by
    conv => lhs; rw [← List.take_append_drop j m]
    congr 1
    rw [List.drop_eq_getElem_cons (by omega), List.drop_eq_getElem_cons hj]
    congr 1
    · rw [List.getD_eq_getElem?_getD, List.getElem?_eq_getElem (by omega)]; rfl
    · congr 1
      rw [List.getD_eq_getElem?_getD, List.getElem?_eq_getElem hj]; rfl
  have e2 : swp m j = m.take j ++ m.getD (j + 1) 0 :: m.getD j 0 :: m.drop (j + 2) := by
    unfold swp
    generalize m.getD j 0 = x at *
    generalize m.getD (j + 1) 0 = y at *
    have hl : (m.take j).length = j := by rw [List.length_take]; omega
    conv => lhs; rw [e]
    rw [List.set_append_right _ _ (by omega), hl, show j + 1 - j = 1 by omega, List.set_append_right _ _ (by omega), hl, Nat.sub_self]
    rfl
  rw [e2]
  conv => rhs; rw [e]
  exact List.Perm.append_left _ (List.Perm.swap ..)
theorem Srt.swap {m : List Int} {i j : Nat} (h : Srt m i (j + 1)) (hj : j + 1 ≤ i) (hi : i < m.length) (hlt : m.getD (j + 1) 0 < m.getD j 0) : Srt (swp m j) i j := by
  intro a b hab hb hne
  rw [swp_get (by omega), swp_get (by omega), if_neg hne]
  by_cases b1 : b = j + 1
  · subst b1
    rw [if_pos rfl]
    by_cases a1 : a = j
    · rw [if_pos a1]; omega
    · rw [if_neg a1, if_neg (by omega)]
      exact h a j (by omega) (by omega) (by omega)
  · rw [if_neg b1]
    by_cases a1 : a = j
    · rw [if_pos a1]; exact h (j + 1) b (by omega) hb b1
    · rw [if_neg a1]
      by_cases a2 : a = j + 1
      · rw [if_pos a2]; exact h j b (by omega) hb b1
      · rw [if_neg a2]; exact h a b hab hb b1
theorem Srt.done {m : List Int} {i j : Nat} (h : Srt m i j) (hj : j = 0 ∨ m.getD (j - 1) 0 ≤ m.getD j 0) (hi : j ≤ i) : ∀ a b, a < b → b ≤ i → m.getD a 0 ≤ m.getD b 0 := fun a b hab hb => by
  by_cases e : b = j
  · subst e
    rcases hj with hj | hj
    · omega
    · by_cases e2 : a = b - 1
      · rw [e2]; exact hj
      · exact Int.le_trans (h a (b - 1) (by omega) (by omega) (by omega)) hj
  · exact h a b hab hb e
abbrev srB (m : List Int) (e : TypeId) (ver : Nat) : ABlk := ⟨.cells (ints m) e true false, ver⟩
/-- A list of integers, sorted. -/
def srtL (l : List Int) : List Int := l.mergeSort fun a b => decide (a ≤ b)
theorem srtL_perm {l : List Int} : (srtL l).Perm l := List.mergeSort_perm ..
theorem srtL_sorted {l : List Int} : (srtL l).Pairwise (· ≤ ·) := by
  have := List.pairwise_mergeSort (le := fun a b : Int => decide (a ≤ b)) (fun a b c h1 h2 => by simp only [decide_eq_true_eq] at *; omega) (fun a b => by simp only [Bool.or_eq_true, decide_eq_true_eq]; omega) l
  exact this.imp fun h => of_decide_eq_true h
theorem srtL_len {l : List Int} : (srtL l).length = l.length := srtL_perm.length_eq
theorem srtL_eq {l m : List Int} (hp : m.Perm l) (hs : m.Pairwise (· ≤ ·)) : m = srtL l :=
  (hp.trans srtL_perm.symm).eq_of_pairwise (fun a b _ _ h1 h2 => Int.le_antisymm h1 h2) hs srtL_sorted
theorem sorted_of {m : List Int} (h : ∀ a b, a < b → b < m.length → m.getD a 0 ≤ m.getD b 0) : m.Pairwise (· ≤ ·) := by
  rw [List.pairwise_iff_getElem]
  intro i j hi hj hij
  have := h i j hij hj
  rwa [List.getD_eq_getElem?_getD, List.getD_eq_getElem?_getD, List.getElem?_eq_getElem hi, List.getElem?_eq_getElem hj] at this
set_option maxHeartbeats 400000 in
theorem run_insertion {base id ver : Nat} {e : TypeId} {h : Heap} {l : List Int} (hg : h[id]? = some (srB l e ver)) (hl : l.length ≤ 12) :
    callL prog raw base (.fn 164 [] []) [.slice (some ⟨id, ver, 0⟩) l.length l.length, .int .i64 0, .int .i64 (l.length : Int)] h = some (.tuple [], h.set id (srB (srtL l) e ver)) := by
  have gs : ∀ m, (h.set id (srB m e ver))[id]? = some (srB m e ver) := fun m => by rw [List.getElem?_set_self (lt_of_get hg)]
  have ss : ∀ m m', (h.set id (srB m e ver)).set id (srB m' e ver) = h.set id (srB m' e ver) := fun m m' => List.set_set ..
  have h0 : h.set id (srB l e ver) = h := set_id hg
  have hend : ∀ {H : Heap}, H = h.set id (srB (srtL l) e ver) → compact h.length (.tuple []) H = some (.tuple [], h.set id (srB (srtL l) e ver)) := by
    rintro _ rfl
    have e : h.length = (h.set id (srB (srtL l) e ver)).length := by simp
    rw [e]
    exact compact_plain' rfl
  have hid := lt_of_get hg
  refine callL_run func164 rfl rfl ?_
  have hsp := @Nat.succ_ne_zero; repeat' (first | simp (disch := first | exact dschK8 | fail) only [go_sem, ↓reduceIte, hsp] | refine WP_drw ?_ | refine cnd_intro (fun hsp => ?_) fun hsp => ?_)
  refine WP_count [(6, 48)] 1 (max 1 l.length) (by omega) (fun _ i fr h' => fr 6 = .int .i64 (i : Int) ∧ ∃ m : List Int, h' = h.set id (srB m e ver) ∧ m.Perm l ∧ ∀ a b, a < b → b < i → m.getD a 0 ≤ m.getD b 0) ?_ ?_ ?_
  · exact ⟨by (simp (disch := first | exact dschK8 | fail) only [go_sem, ↓reduceIte, Int.natCast_zero]; first | done | rfl), l, h0.symm, .refl _, fun a b h1 h2 => by omega⟩
  · rintro i fr H hi0 hi hA ⟨p6, m, rfl, hm, hs⟩
    have p0 := hA 0 rfl
    have p1 := hA 1 rfl
    have p2 := hA 2 rfl
    try simp (disch := first | exact dschK8 | fail) only [go_sem, ↓reduceIte] at p0 p1 p2
    
    have hlt : ((i : Int) < (l.length : Int)) = True := eq_true (by omega)
    have hml := hm.length_eq
    have hsp := @Nat.succ_ne_zero; repeat' (first | simp (disch := first | exact dschK8 | fail) only [go_sem, ↓reduceIte, hsp, p0, p1, p2, p6, hlt] | refine WP_drw ?_ | refine cnd_intro (fun hsp => ?_) fun hsp => ?_)
    refine WP_cmeet [(7, 48)] 0 i (Nat.zero_le _) (fun _ k fr h' => fr 7 = .int .i64 ((i - k : Nat) : Int) ∧ ∃ m : List Int, h' = h.set id (srB m e ver) ∧ m.Perm l ∧ Srt m i (i - k)) (fun fr h' => ∃ m : List Int, h' = h.set id (srB m e ver) ∧ m.Perm l ∧ ∀ a b, a < b → b < i + 1 → m.getD a 0 ≤ m.getD b 0) ?_ ?_ ?_ ?_
    · exact ⟨by (simp (disch := first | exact dschK8 | fail) only [go_sem, ↓reduceIte, Nat.sub_zero, p6]; first | done | rfl), m, rfl, hm, fun a b h1 h2 h3 => hs a b h1 (by omega)⟩
    · rintro k fr2 H2 hk0 hk hB ⟨q7, m2, eH2, hm2, hs2⟩
      have q0 := hB 0 rfl
      have q1 := hB 1 rfl
      have q2 := hB 2 rfl
      have q6 := hB 6 rfl
      try simp (disch := first | exact dschK8 | fail) only [go_sem, ↓reduceIte, p0, p1, p2, p6] at q0 q1 q2 q6
      
      obtain ⟨j, ej⟩ : ∃ j, i - k = j + 1 := ⟨i - k - 1, by omega⟩
      rw [ej] at hs2 q7
      have hml2 := hm2.length_eq
      have hgt : (((j + 1 : Nat) : Int) > 0) = True := eq_true (by omega)
      have ejj : ((j + 1 : Nat) : Int) - 1 = (j : Int) := by omega
      have g2 : H2[id]? = some ⟨.cells (ints m2) e true false, ver⟩ := by rw [eH2]; exact gs m2
      have hj1 : j + 1 < l.length := by omega
      have a1 : indexAddrA prog 36 (.slice (some ⟨id, ver, 0⟩) l.length l.length) (.int .i64 ((j + 1 : Nat) : Int)) = some (.ptr (some ⟨id, ver, j + 1⟩)) := by
        rw [adr_sl Fc.el36 Fc.ar36 (by omega) (by omega), Int.toNat_natCast, Nat.mul_one, Nat.zero_add]
      have a2 : indexAddrA prog 36 (.slice (some ⟨id, ver, 0⟩) l.length l.length) (.int .i64 (j : Int)) = some (.ptr (some ⟨id, ver, j⟩)) := by
        rw [adr_sl Fc.el36 Fc.ar36 (by omega) (by omega), Int.toNat_natCast, Nat.mul_one, Nat.zero_add]
      have d1 : loadP prog H2 3 (.ptr (some ⟨id, ver, j + 1⟩)) = some (.int .i64 (m2.getD (j + 1) 0)) := by
        rw [load_eq, Fc.ty3, g2]; exact ldB_ints (by omega)
      have d2 : loadP prog H2 3 (.ptr (some ⟨id, ver, j⟩)) = some (.int .i64 (m2.getD j 0)) := by
        rw [load_eq, Fc.ty3, g2]; exact ldB_ints (by omega)
      by_cases c1 : m2.getD (j + 1) 0 < m2.getD j 0
      · have t1 : (m2.getD (j + 1) 0 < m2.getD j 0) = True := eq_true c1
        have st1 : ∀ {K : ABlk → Heap}, stQ h.length id (some ⟨.cells (ints m2) e true false, ver⟩) ver (j + 1) [.int .i64 (m2.getD j 0)] K = some (K ⟨.cells (ints (m2.set (j + 1) (m2.getD j 0))) e true false, ver⟩) := fun {K} => stQ_ints (by omega)
        have st2 : ∀ {K : ABlk → Heap}, stQ h.length id (some ⟨.cells (ints (m2.set (j + 1) (m2.getD j 0))) e true false, ver⟩) ver j [.int .i64 (m2.getD (j + 1) 0)] K = some (K ⟨.cells (ints (swp m2 j)) e true false, ver⟩) := fun {K} => stQ_ints (by simp; omega)
        obtain ⟨H3, eH3⟩ : ∃ H3, H3 = H2.set id ⟨.cells (ints (m2.set (j + 1) (m2.getD j 0))) e true false, ver⟩ := ⟨_, rfl⟩
        have g3 : H3[id]? = some ⟨.cells (ints (m2.set (j + 1) (m2.getD j 0))) e true false, ver⟩ := by rw [eH3, List.getElem?_set_self (lt_of_get g2)]
        have hsp := @Nat.succ_ne_zero; repeat' (first | simp (disch := first | exact dschK8 | fail) only [go_sem, ↓reduceIte, hsp, q0, q1, q2, q6, q7, p0, p1, p2, p6, hgt, ejj, a1, a2, d1, d2, run_less, t1, g2, st1, ← eH3, g3, st2] | refine WP_drw ?_ | refine cnd_intro (fun hsp => ?_) fun hsp => ?_)
        refine ⟨by (repeat first | exact Agree.refl | assumption | refine Agree.put rfl ?_ | refine Agree.put0 ?_ | refine Agree.sub rfl (by assumption) ?_), by omega, swp m2 j, by rw [eH3, eH2, List.set_set, List.set_set], (swp_perm (by omega)).trans hm2, ?_⟩
        rw [show i - (k + 1) = j by omega]
        exact hs2.swap (by omega) (by omega) c1
      · have t1 : (m2.getD (j + 1) 0 < m2.getD j 0) = False := eq_false c1
        have hsp := @Nat.succ_ne_zero; repeat' (first | simp (disch := first | exact dschK8 | fail) only [go_sem, ↓reduceIte, hsp, q0, q1, q2, q6, q7, p0, p1, p2, p6, hgt, ejj, a1, a2, d1, d2, run_less, t1] | refine WP_drw ?_ | refine cnd_intro (fun hsp => ?_) fun hsp => ?_)
        refine ⟨by (repeat first | exact Agree.refl | assumption | refine Agree.put rfl ?_ | refine Agree.put0 ?_ | refine Agree.sub rfl (by assumption) ?_), m2, eH2, hm2, fun a b h1 h2 => hs2.done (.inr (by rw [Nat.add_sub_cancel]; omega)) (by omega) a b h1 (by omega)⟩
    · rintro fr2 H2 hB ⟨q7, m2, rfl, hm2, hs2⟩
      have q0 := hB 0 rfl
      have q1 := hB 1 rfl
      have q2 := hB 2 rfl
      have q6 := hB 6 rfl
      try simp (disch := first | exact dschK8 | fail) only [go_sem, ↓reduceIte, p0, p1, p2, p6] at q0 q1 q2 q6
      
      rw [Nat.sub_self] at q7 hs2
      have t0 : ((0 : Int) > 0) = False := eq_false (by omega)
      have t00 : (((0 : Nat) : Int) > 0) = False := eq_false (by omega)
      have hsp := @Nat.succ_ne_zero; repeat' (first | simp (disch := first | exact dschK8 | fail) only [go_sem, ↓reduceIte, hsp, q0, q1, q2, q6, q7, p0, p1, p2, p6, t0, t00] | refine WP_drw ?_ | refine cnd_intro (fun hsp => ?_) fun hsp => ?_)
      exact ⟨by (repeat first | exact Agree.refl | assumption | refine Agree.put rfl ?_ | refine Agree.put0 ?_ | refine Agree.sub rfl (by assumption) ?_), m2, rfl, hm2, fun a b h1 h2 => hs2.done (.inl rfl) (by omega) a b h1 (by omega)⟩
    · rintro fr2 H2 hB ⟨m2, rfl, hm2, hs2⟩
      have q0 := hB 0 rfl
      have q1 := hB 1 rfl
      have q2 := hB 2 rfl
      have q6 := hB 6 rfl
      try simp (disch := first | exact dschK8 | fail) only [go_sem, ↓reduceIte, p0, p1, p2, p6] at q0 q1 q2 q6
      have hsp := @Nat.succ_ne_zero; repeat' (first | simp (disch := first | exact dschK8 | fail) only [go_sem, ↓reduceIte, hsp, q0, q1, q2, q6, p0, p1, p2, p6] | refine WP_drw ?_ | refine cnd_intro (fun hsp => ?_) fun hsp => ?_)
      exact ⟨by (repeat first | exact Agree.refl | assumption | refine Agree.put rfl ?_ | refine Agree.put0 ?_ | refine Agree.sub rfl (by assumption) ?_), by omega, m2, rfl, hm2, hs2⟩
  · rintro fr H hA ⟨p6, m, rfl, hm, hs⟩
    have p0 := hA 0 rfl
    have p1 := hA 1 rfl
    have p2 := hA 2 rfl
    try simp (disch := first | exact dschK8 | fail) only [go_sem, ↓reduceIte] at p0 p1 p2
    
    have hlt : (((max 1 l.length : Nat) : Int) < (l.length : Int)) = False := eq_false (by omega)
    have hml := hm.length_eq
    have hsp := @Nat.succ_ne_zero; repeat' (first | simp (disch := first | exact dschK8 | fail) only [go_sem, ↓reduceIte, hsp, p0, p1, p2, p6, hlt] | refine WP_drw ?_ | refine cnd_intro (fun hsp => ?_) fun hsp => ?_)
    refine hend ?_
    rw [srtL_eq hm (sorted_of fun a b h1 h2 => hs a b h1 (by omega))]
theorem run_pdq {base id ver k : Nat} {e : TypeId} {h : Heap} {l : List Int} (hg : h[id]? = some (srB l e ver)) (hl : l.length ≤ 12) :
    callL prog raw base (.fn 133 [] []) [.slice (some ⟨id, ver, 0⟩) l.length l.length, .int .i64 0, .int .i64 (l.length : Int), .int .i64 (k : Int)] h = some (.tuple [], h.set id (srB (srtL l) e ver)) := by
  have hend : ∀ {H : Heap}, H = h.set id (srB (srtL l) e ver) → compact h.length (.tuple []) H = some (.tuple [], h.set id (srB (srtL l) e ver)) := by
    rintro _ rfl
    have e : h.length = (h.set id (srB (srtL l) e ver)).length := by simp
    rw [e]
    exact compact_plain' rfl
  have hlt : ((l.length : Int) - 0 ≤ 12) = True := eq_true (by omega)
  have hlt2 : ((l.length : Int) ≤ 12) = True := eq_true (by omega)
  have hi := fun base => run_insertion (base := base) hg hl
  refine callL_run func133 rfl rfl ?_
  have hsp := @Nat.succ_ne_zero; repeat' (first | simp (disch := first | exact dschK8 | fail) only [go_sem, ↓reduceIte, hsp] | refine WP_drw ?_ | refine cnd_intro (fun hsp => ?_) fun hsp => ?_)
  rw [WP_loop1]
  have hsp := @Nat.succ_ne_zero; repeat' (first | simp (disch := first | exact dschK8 | fail) only [go_sem, ↓reduceIte, hsp, hlt, hlt2, hi, Int.sub_zero] | refine WP_drw ?_ | refine cnd_intro (fun hsp => ?_) fun hsp => ?_)
  exact hend rfl
/-- slices.Sort. -/
theorem run_sort {base id ver : Nat} {h : Heap} {l : List Int} (hg : h[id]? = some (srB l 3 ver)) (hl : l.length ≤ 12) :
    callL prog raw base (.fn 61 [] []) [.slice (some ⟨id, ver, 0⟩) l.length l.length] h = some (.tuple [], h.set id (srB (srtL l) 3 ver)) := by
  have hend : ∀ {H : Heap}, H = h.set id (srB (srtL l) 3 ver) → compact h.length (.tuple []) H = some (.tuple [], h.set id (srB (srtL l) 3 ver)) := by
    rintro _ rfl
    have e : h.length = (h.set id (srB (srtL l) 3 ver)).length := by simp
    rw [e]
    exact compact_plain' rfl
  have c1 : convA prog 191 3 (.int .i64 (l.length : Int)) = some (.int .u64 (l.length : Int)) := by
    simp only [convA, underlying3, Fc.ik191, wrapU]
    rw [Nat.mod_eq_of_lt (by omega)]
  have e1 := fun base => run_len (base := base) (h := h) hl
  have e2 := fun base => run_pdq (base := base) (k := lenT l.length) hg hl
  refine callL_run func61 rfl rfl ?_
  have hsp := @Nat.succ_ne_zero; repeat' (first | simp (disch := first | exact dschK8 | fail) only [go_sem, ↓reduceIte, hsp, c1, e1, e2] | refine WP_drw ?_ | refine cnd_intro (fun hsp => ?_) fun hsp => ?_)
  exact hend rfl
end Go.AM
