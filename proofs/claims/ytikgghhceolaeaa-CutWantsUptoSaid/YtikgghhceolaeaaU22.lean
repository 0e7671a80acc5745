/-
  Contracts: arrays that are compared; a ribbon without one want (without).
-/
import Derived.Test.YtikgghhceolaeaaU21
import Derived.Test.YtikgghhceolaeaaU20
set_option linter.unusedSimpArgs false
set_option linter.unusedVariables false
namespace Go.AM
open Go.Proofs.Try
theorem dschN46 {p : Prop} (h : p := by first | exact Nat.ne_of_beq_eq_false rfl | assumption | (apply asOne; (first | exact One.int | exact One.bool | assumption | exact Ints.one (by assumption) | exact Rows.one (by assumption) | exact Own.one (by assumption) | exact One.lit ⟨rfl, rfl, rfl⟩)) | (apply asInts; (repeat first | assumption | exact ints_nil | apply Ints.app); done) | (apply asRows; (repeat first | assumption | exact Rows.nil | apply Rows.app); done) | (apply asScal; (first | apply allS1 | apply allS2 | apply allS3 | apply allS4) <;> (first | exact One.int | exact One.bool | assumption | exact Ints.one (by assumption) | exact Rows.one (by assumption) | exact Own.one (by assumption) | exact One.lit ⟨rfl, rfl, rfl⟩)) | exact litT rfl | exact litF rfl | omega | (simp only [List.length_append, List.length_cons, List.length_nil, List.length_set, List.length_reverse]; first | done | omega) | fail) : p := h
attribute [-go_sem] put_ne put_same
attribute [local go_sem ↓] put_if
/-! ### Arrays -/
theorem eqI5 {x y : Int} : eqT prog 5 3 (.int .i64 x) (.int .i64 y) = some (decide (x = y)) := by
  by_cases h : x = y <;> simp [eqT, h]
theorem fold61 {a b : List Int} (ha : a.length = 61) (hb : b.length = 61) : ∀ l : List Nat, (∀ i ∈ l, i < 61) →
    l.foldr (fun i acc => match partQ (false, 1) (ints a) (i * (false, 1).2), partQ (false, 1) (ints b) (i * (false, 1).2) with
      | some x, some y => match eqT prog 5 3 x y with | some true => acc | r => r
      | _, _ => .none) (some true) = some (l.all fun i => decide (a.getD i 0 = b.getD i 0))
  | [], _ => rfl
  | i :: l, h => by
    have hi := h i (by simp)
    have e1 : partQ (false, 1) (ints a) (i * (false, 1).2) = some (.int .i64 (a.getD i 0)) := by
      simp only [partQ, Nat.mul_one]
      rw [if_neg (by simp)]
      exact ints_get (by omega)
    have e2 : partQ (false, 1) (ints b) (i * (false, 1).2) = some (.int .i64 (b.getD i 0)) := by
      simp only [partQ, Nat.mul_one]
      rw [if_neg (by simp)]
      exact ints_get (by omega)
    have e3 : eqT prog 5 3 (.int .i64 (a.getD i 0)) (.int .i64 (b.getD i 0)) = some (decide (a.getD i 0 = b.getD i 0)) := eqI5
    rw [List.foldr_cons, fold61 ha hb l (fun j hj => h j (by simp [hj])), e1, e2]
    simp only [e3, List.all_cons]
    cases decide (a.getD i 0 = b.getD i 0) <;> simp
theorem ne61 {a b : List Int} (ha : a.length = 61) (hb : b.length = 61) : binA prog .neq 136 (.agg (ints a)) (.agg (ints b)) = some (.bool (!(List.range 61).all fun i => decide (a.getD i 0 = b.getD i 0))) := by
  have hg : prog.eqGuardType prog.depth 136 = false := by kernel_rfl
  have ht : tyA prog 3 = some (false, 1) := Fc.ty3
  have hf := fold61 ha hb (List.range 61) (fun i hi => List.mem_range.1 hi)
  have he : eqT prog eqDepth 136 (.agg (ints a)) (.agg (ints b)) = some ((List.range 61).all fun i => decide (a.getD i 0 = b.getD i 0)) := by
    rw [← hf]
    unfold eqDepth
    rw [eqT.eq_def]
    simp only [underlying136, ht]
    generalize List.range 61 = l
    generalize eqT prog 5 3 = f
    rfl
  simp only [binA, hg, he]
  rfl
theorem ne_lt {a b : List Int} (h : a.getD 0 0 < b.getD 0 0) : (!(List.range 61).all fun i => decide (a.getD i 0 = b.getD i 0)) = true := by
  cases q : (List.range 61).all fun i => decide (a.getD i 0 = b.getD i 0) with
  | false => rfl
  | true =>
    have := of_decide_eq_true (List.all_eq_true.1 q 0 (by simp))
    omega
/-! ### Wants -/
section
variable {base id : Nat} {h : Heap} {m : List Wnt}
abbrev wB (m : List Wnt) : ABlk := rowE encW 49 m 0
theorem stW {o : Nat} {z : List Wnt} (hg : h[id]? = some (wB m)) (hb : base ≤ id) (ho : o + z.length ≤ m.length) : storeN base h ⟨id, 0, o * 5⟩ (flat encW z) = some (h.set id (wB (m.take o ++ z ++ m.drop (o + z.length)))) := by
  have e : flat encW m = flat encW (m.take o) ++ flat encW ((m.drop o).take z.length) ++ flat encW (m.drop (o + z.length)) := by
    rw [← flat_app, ← flat_app]
    congr 1
    rw [List.append_assoc, ← List.drop_drop, List.take_append_drop, List.take_append_drop]
  have hz : encW.z = 5 := rfl
  have hlo : (flat encW (m.take o)).length = o * 5 := by rw [flat_len, hz, List.length_take]; congr 1; omega
  have h1 := splice_mid (flat encW z) (flat encW (m.take o)) (flat encW ((m.drop o).take z.length)) (flat encW (m.drop (o + z.length))) (by rw [flat_len, flat_len, List.length_take, List.length_drop]; congr 1; omega)
  rw [← e, ← flat_app, ← flat_app, hlo] at h1
  have hle : o * 5 + z.length * 5 ≤ m.length * 5 := by omega
  rw [store_eq, hg]
  show stQ base id (some ⟨.cells (flat encW m) 49 true false, 0⟩) 0 (o * 5) (flat encW z) _ = _
  rw [stQ_ok (by rw [flat_len, flat_len, hz]; exact hle) (List.all_eq_true.2 fun x hx => by
    obtain ⟨w, _, hw⟩ := List.mem_flatMap.1 hx
    exact List.all_eq_true.1 (encW_sc w) x hw) hb, h1]
  rfl
theorem slW_to {n k : Nat} {hi : Int} (h0 : 0 ≤ hi) (h1 : hi ≤ k) : sliceA prog 23 (.slice (some ⟨id, 0, 0⟩) n k) none (some (.int .i64 hi)) none = some (.slice (some ⟨id, 0, 0⟩) hi.toNat k) := by
  have e1 : hi ≤ (k : Int) := h1
  simp [sliceA, Fc.ar23, Fc.el23, optB, boundA, ARef.add, h0, e1]
theorem slW_from {n k : Nat} {lo : Int} (h0 : 0 ≤ lo) (h1 : lo ≤ n) (h2 : n ≤ k) : sliceA prog 23 (.slice (some ⟨id, 0, 0⟩) n k) (some (.int .i64 lo)) none none = some (.slice (some ⟨id, 0, lo.toNat * 5⟩) (n - lo.toNat) (k - lo.toNat)) := by
  have e1 : lo ≤ (n : Int) := h1
  simp [sliceA, Fc.ar23, Fc.el23, optB, boundA, ARef.add, h0, e1]
theorem slW_two {n k : Nat} {lo hi : Int} (h0 : 0 ≤ lo) (h1 : lo ≤ hi) (h2 : hi ≤ k) : sliceA prog 23 (.slice (some ⟨id, 0, 0⟩) n k) (some (.int .i64 lo)) (some (.int .i64 hi)) none = some (.slice (some ⟨id, 0, lo.toNat * 5⟩) (hi.toNat - lo.toNat) (k - lo.toNat)) := by
  simp only [sliceA, Fc.ar23, Fc.el23, optB, boundI (show 0 ≤ hi by omega) h2, boundI h0 (show lo ≤ (hi.toNat : Int) by omega)]
  simp [ARef.add]
theorem slW_three {n k : Nat} {lo hi mx : Int} (h0 : 0 ≤ lo) (h1 : lo ≤ hi) (h2 : hi ≤ mx) (h3 : mx ≤ k) : ∃ v, sliceA prog 23 (.slice (some ⟨id, 0, 0⟩) n k) (some (.int .i64 lo)) (some (.int .i64 hi)) (some (.int .i64 mx)) = some v := by
  simp only [sliceA, Fc.ar23, Fc.el23, optB, boundI (show 0 ≤ mx by omega) h3, boundI (show 0 ≤ hi by omega) (show hi ≤ (mx.toNat : Int) by omega), boundI h0 (show lo ≤ (hi.toNat : Int) by omega)]
  exact ⟨_, rfl⟩
def wnt0 : Wnt := ⟨0, 0, 0, 0, 0⟩
/-- slices.Delete, of one want. -/
theorem run_deleteW {l : List Wnt} {i : Nat} (hg : h[id]? = some (wB l)) (hb : base ≤ id) (hi : i < l.length) (hl : l.length ≤ 1000) :
    Ret prog raw base (.fn 67 [] []) [.slice (some ⟨id, 0, 0⟩) l.length l.length, .int .i64 (i : Int), .int .i64 ((i : Int) + 1)] h (fun w H => w = .slice (some ⟨id, 0, 0⟩) (l.length - 1) l.length ∧ H = h.set id (wB (l.eraseIdx i ++ [wnt0]))) := by
  obtain ⟨n, en⟩ : ∃ n, l.length = n := ⟨_, rfl⟩
  rw [en] at hi hl ⊢
  have hid := lt_of_get hg
  obtain ⟨v3, e3⟩ := slW_three (id := id) (n := n) (k := n) (lo := (i : Int)) (hi := (i : Int) + 1) (mx := (n : Int)) (by omega) (by omega) (by omega) (by omega)
  have t1 : ((i : Int) = (i : Int) + 1) = False := eq_false (by omega)
  have s1 := slW_to (id := id) (n := n) (k := n) (hi := (i : Int)) (by omega) (by omega)
  have s2 := slW_from (id := id) (n := n) (k := n) (lo := (i : Int) + 1) (by omega) (by omega) (by omega)
  rw [Int.toNat_natCast] at s1
  rw [show ((i : Int) + 1).toNat = i + 1 by omega] at s2
  obtain ⟨m, em⟩ : ∃ m, m = l.eraseIdx i ++ l.drop (n - 1) := ⟨_, rfl⟩
  have hel : (l.eraseIdx i).length = n - 1 := by rw [List.length_eraseIdx, if_pos (by omega)]; omega
  have hml : m.length = n := by rw [em, List.length_append, hel, List.length_drop]; omega
  have hld : (l.drop (i + 1)).length = n - (i + 1) := by rw [List.length_drop, en]
  have hRd : Rows encW h (.slice (some ⟨id, 0, (i + 1) * 5⟩) (n - (i + 1)) (n - (i + 1))) (l.drop (i + 1)) := by
    refine ⟨by omega, .inr (.inr ⟨⟨id, 0, (i + 1) * 5⟩, n - (i + 1), flat encW l, 49, true, false, by rw [hld], hg, ?_, ?_, by omega⟩)⟩
    · have e : flat encW l = flat encW (l.take (i + 1)) ++ flat encW (l.drop (i + 1)) := by rw [← flat_app, List.take_append_drop]
      have hlo : (flat encW (l.take (i + 1))).length = (i + 1) * 5 := by
        rw [flat_len, List.length_take, Nat.min_eq_left (by omega)]; rfl
      show ((flat encW l).drop ((i + 1) * 5)).take _ = _
      rw [e, ← hlo, List.drop_left, List.take_of_length_le (by rw [flat_len]; exact Nat.le_refl _)]
    · rw [hld, flat_len, show encW.z = 5 from rfl]; simp only; omega
  have hfn := hRd.firstN
  rw [hld, show encW.z = 5 from rfl] at hfn
  have hap : appendA prog base h 23 (.slice (some ⟨id, 0, 0⟩) i n) (.slice (some ⟨id, 0, (i + 1) * 5⟩) (n - (i + 1)) (n - (i + 1))) = some (.slice (some ⟨id, 0, 0⟩) (n - 1) n, h.set id (wB m)) := by
    have hsc : (flat encW (l.drop (i + 1))).all AVal.scalar = true := List.all_eq_true.2 fun x hx => by
      obtain ⟨w, _, hw⟩ := List.mem_flatMap.1 hx
      exact List.all_eq_true.1 (encW_sc w) x hw
    simp only [appendA, Fc.el23, lenA, hfn, hsc, if_true]
    rw [if_pos (by omega)]
    have : (ARef.mk id 0 0).add (i * 5) = ⟨id, 0, i * 5⟩ := by simp [ARef.add]
    rw [this, stW hg hb (by rw [hld]; omega)]
    simp only [hld]
    rw [show i + (n - (i + 1)) = n - 1 by omega, ← List.eraseIdx_eq_take_drop_succ, em]
  obtain ⟨G, eG⟩ : ∃ G, G = h.set id (wB m) := ⟨_, rfl⟩
  rw [← eG] at hap
  have gG : G[id]? = some (wB m) := by rw [eG, List.getElem?_set_self hid]
  have s3 := slW_two (id := id) (n := n - 1) (k := n) (lo := ((n - 1 : Nat) : Int)) (hi := (n : Int)) (by omega) (by omega) (by omega)
  rw [Int.toNat_natCast, Int.toNat_natCast, show n - (n - 1) = 1 by omega] at s3
  have hcl : clearA prog base G 23 (.slice (some ⟨id, 0, (n - 1) * 5⟩) 1 1) = some (.tuple [], G.set id (wB (l.eraseIdx i ++ [wnt0]))) := by
    have hs := stW (z := [wnt0]) (o := n - 1) gG hb (by simp; omega)
    have e : m.take (n - 1) ++ [wnt0] ++ m.drop (n - 1 + [wnt0].length) = l.eraseIdx i ++ [wnt0] := by
      rw [em, List.take_left' hel, List.drop_of_length_le (by simp [hel]; omega), List.append_nil]
    rw [e] at hs
    have hr : repCells [AVal.int .i64 0, .int .i64 0, .int .i64 0, .int .i64 0, .int .i64 0] (0 + 1) = flat encW [wnt0] := rfl
    simp only [clearA, Fc.el23, hr, hs]
  refine ret_raw func67 rfl (by kernel_rfl) ?_
  have hsp := @Nat.succ_ne_zero; repeat' (first | simp (disch := first | exact dschN46 | fail) only [go_sem, ↓reduceIte, hsp, e3, t1, s1, s2, hap, s3, hcl] | refine WP_drw ?_ | refine cnd_intro (fun hsp => ?_) fun hsp => ?_)
  rw [eG, List.set_set]
end
set_option maxRecDepth 100000 in
set_option maxHeartbeats 4000000 in
theorem run_without {base : Nat} {h : Heap} {v : AVal} {R : Rib} {k : Nat} (hb : base ≤ h.length) (hA : RibAt h v R) (hR : RibOk R) (hk : k < R.W.length) :
    Ret prog raw base (.fn 116 [] []) [v, .int .i64 (k : Int)] h (fun w H => Ext h H ∧ RibAt H w (witR R k)) := by
  have hAe := fun H (e : Ext h H) => hA.ext e
  obtain ⟨fv, wv, rfl, hF, hW⟩ := hA
  have o1 := hF.one
  have o2 := hW.one
  have hnW := hR.nW
  obtain ⟨G0, eG0⟩ : ∃ G0, G0 = h ++ [ribB R.L fv wv] ++ [ribB 0 (.slice none 0 0) (.slice none 0 0)] := ⟨_, rfl⟩
  have x0 : Ext h G0 := by rw [eG0]; exact .app (.app .refl)
  have g0 : G0[h.length]? = some (ribB R.L fv wv) := by rw [eG0]; exact get_app (get_eq rfl)
  have g00 : G0[h.length + 1]? = some (ribB 0 (.slice none 0 0) (.slice none 0 0)) := by rw [eG0]; exact get_eq (by simp)
  have l0 : G0.length = h.length + 2 := by rw [eG0]; simp
  obtain ⟨w1, H1, e1, x1, -, hne⟩ := run_cloneW (base := base) (hW.ext x0) (by omega)
  obtain ⟨rfl, eH1⟩ := hne (fun q => by rw [q] at hk; simp at hk)
  have l1 : H1.length = G0.length + 1 := by rw [eH1]; simp
  have gw : H1[G0.length]? = some (wB R.W) := by rw [eH1]; exact get_eq rfl
  obtain ⟨_, H2, e2, rfl, eH2⟩ := run_deleteW (base := base) gw (by omega) hk (by omega)
  have l2 : H2.length = H1.length := by rw [eH2, List.length_set]
  have g1 := x1.get g0
  have g2 : H2[h.length]? = some (ribB R.L fv wv) := by rw [eH2, List.getElem?_set_ne (by omega)]; exact g1
  have g3 : H2[h.length + 1]? = some (ribB 0 (.slice none 0 0) (.slice none 0 0)) := by rw [eH2, List.getElem?_set_ne (by omega)]; exact x1.get g00
  have gw2 : H2[G0.length]? = some (wB (R.W.eraseIdx k ++ [wnt0])) := by rw [eH2, List.getElem?_set_self (by omega)]
  have xH2 : Ext h H2 := by rw [eH2]; exact (x0.trans x1).set (by omega)
  have hel : (R.W.eraseIdx k).length = R.W.length - 1 := by rw [List.length_eraseIdx, if_pos hk]
  unfold ribB at eG0 g0 g1 g2 g3
  refine ret_raw func116 rfl (by kernel_rfl) ?_
  have hsp := @Nat.succ_ne_zero; repeat' (first | simp (disch := first | exact dschN46 | fail) only [go_sem, ↓reduceIte, hsp, ← eG0, g0, e1, g1, e2, g2, g3] | refine WP_drw ?_ | refine cnd_intro (fun hsp => ?_) fun hsp => ?_)
  obtain ⟨Y, eY⟩ : ∃ Y, Y = (List.set H2 h.length ⟨.cells [.int .i64 R.L, fv, .slice (some ⟨G0.length, 0, 0⟩) (R.W.length - 1) R.W.length] 25 false false, 0⟩).set (h.length + 1) ⟨.cells [.int .i64 R.L, fv, .slice (some ⟨G0.length, 0, 0⟩) (R.W.length - 1) R.W.length] 25 false false, 0⟩ := ⟨_, rfl⟩
  have xf : Ext h Y := by rw [eY]; exact (xH2.set (Nat.le_refl _)).set (by omega)
  have gY : Y[G0.length]? = some (wB (R.W.eraseIdx k ++ [wnt0])) := by rw [eY, List.getElem?_set_ne (by omega), List.getElem?_set_ne (by omega)]; exact gw2
  rw [← eY]
  refine ⟨xf, fv, _, rfl, hF.ext xf, ?_⟩
  show Rows encW Y _ (R.W.eraseIdx k)
  refine ⟨by omega, .inr (.inr ⟨⟨G0.length, 0, 0⟩, R.W.length, flat encW (R.W.eraseIdx k ++ [wnt0]), 49, true, false, by rw [hel], gY, ?_, ?_, by omega⟩)⟩
  · show ((flat encW (R.W.eraseIdx k ++ [wnt0])).drop 0).take _ = _
    rw [List.drop_zero, flat_app, ← flat_len, List.take_left]
  · rw [flat_len, List.length_append, Nat.add_mul]; simp only; omega
end Go.AM
/-
  Contracts: the wants without which less is earned (Needed).
-/
namespace Go.AM
open Go.Proofs.Try
theorem dschN47 {p : Prop} (h : p := by first | exact Nat.ne_of_beq_eq_false rfl | assumption | (apply asOne; (first | exact One.int | exact One.bool | assumption | exact Ints.one (by assumption) | exact Rows.one (by assumption) | exact Own.one (by assumption) | exact One.lit ⟨rfl, rfl, rfl⟩)) | (apply asInts; (repeat first | assumption | exact ints_nil | apply Ints.app); done) | (apply asRows; (repeat first | assumption | exact Rows.nil | apply Rows.app); done) | (apply asScal; (first | apply allS1 | apply allS2 | apply allS3 | apply allS4) <;> (first | exact One.int | exact One.bool | assumption | exact Ints.one (by assumption) | exact Rows.one (by assumption) | exact Own.one (by assumption) | exact One.lit ⟨rfl, rfl, rfl⟩)) | exact litT rfl | exact litF rfl | omega | (simp only [List.length_append, List.length_cons, List.length_nil, List.length_set, List.length_reverse]; first | done | omega) | fail) : p := h
attribute [-go_sem] put_ne put_same
attribute [local go_sem ↓] put_if
def nedE (R : Rib) : List Int := if chkR R ≠ 0 then [] else nedL R
def nedN (R : Rib) (n : Nat) : List Int := (upto n).filter fun k => decide (valD (witR R k.toNat) 0 < valD R 0)
theorem nedN_succ {R : Rib} {n : Nat} : nedN R (n + 1) = nedN R n ++ if valD (witR R n) 0 < valD R 0 then [(n : Int)] else [] := by
  unfold nedN
  rw [upto_succ, List.filter_append, List.filter_cons, List.filter_nil, Int.toNat_natCast]
  by_cases c : valD (witR R n) 0 < valD R 0
  · rw [decide_eq_true c, if_pos rfl, if_pos c]
  · rw [decide_eq_false c, if_neg (by simp), if_neg c]
theorem nedN_len {R : Rib} {n : Nat} : (nedN R n).length ≤ n := by
  unfold nedN
  exact Nat.le_trans (List.length_filter_le _ _) (by rw [upto_len]; exact Nat.le_refl _)
set_option maxRecDepth 100000 in
set_option maxHeartbeats 4000000 in
theorem run_Needed {base : Nat} {h : Heap} {v : AVal} {R : Rib} (hb : base ≤ h.length) (hA : RibAt h v R) (hsm : R.F.length ≤ 1048576) :
    Ret prog raw base (.fn 61 [] []) [v] h (fun w H => Ext h H ∧ ∃ u, w = .tuple [u, .int .i64 (chkR R)] ∧ Own encI 3 h.length H u (nedE R)) := by
  have hAe := fun H (e : Ext h H) => hA.ext e
  obtain ⟨fv, wv, rfl, hF, hW⟩ := hA
  have o1 := hF.one
  have o2 := hW.one
  obtain ⟨G0, eG0⟩ : ∃ G0, G0 = h ++ [ribB R.L fv wv] := ⟨_, rfl⟩
  have x0 : Ext h G0 := by rw [eG0]; exact .app .refl
  have g0 : G0[h.length]? = some (ribB R.L fv wv) := by rw [eG0]; exact get_eq rfl
  have l0 : G0.length = h.length + 1 := by rw [eG0]; simp
  obtain ⟨w1, H1, e1, x1, r1, r2⟩ := run_opened (base := base) (h := G0) (by omega) (hAe G0 x0) hsm
  have l1 := x1.len
  have xx := x0.trans x1
  have p0 := x1.get g0
  unfold ribB at eG0 g0
  by_cases c0 : chkR R = 0
  · obtain ⟨id, rfl, hid, hD⟩ := r2 c0
    have hR := chkR_iff.1 c0
    have hL := hR.L
    have hnW := hR.nW
    have hm := fun base => run_made (base := base) hD hR
    have hz : zer61.length = 61 := by decide
    have ml := mdS_len (R := R) (x := 0)
    have mv := mdS_at (R := R) (x := 0) (y := 0) (by omega) (Nat.le_refl _)
    obtain ⟨H2, eH2⟩ : ∃ H2, H2 = H1 ++ [valBk (mdS R 0)] := ⟨_, rfl⟩
    have x2 : Ext H1 H2 := by rw [eH2]; exact .app .refl
    have l2 : H2.length = H1.length + 1 := by rw [eH2]; simp
    have gq : H2[H1.length]? = some (valBk (mdS R 0)) := by rw [eH2]; exact get_eq rfl
    have stV := stV61 (base := base) (id := H1.length) (H := H1 ++ [valBk zer61]) (l := mdS R 0) (m := zer61) (get_eq rfl) ml hz
    rw [set_eq rfl, ← eH2] at stV
    have re : nedE R = nedN R R.W.length := by unfold nedE; rw [if_neg (fun q => q c0)]; rfl
    rw [re, c0]
    have hn := (hW.ext (xx.trans x2)).len (P := prog) Fc.el23
    have p2 := x2.get p0
    unfold ribB at p0 p2
    unfold valBk zer61 at stV
    refine ret_raw func61 rfl (by kernel_rfl) ?_
    have hsp := @Nat.succ_ne_zero; repeat' (first | simp (disch := first | exact dschN47 | fail) only [go_sem, ↓reduceIte, hsp, ← eG0, g0, e1, eq_self, hm, stV, p2, hn] | refine WP_drw ?_ | refine cnd_intro (fun hsp => ?_) fun hsp => ?_)
    refine WP_count [(7, 9), (23, 45)] 0 R.W.length (Nat.zero_le _) (fun _ k fr K => fr 23 = .int .i64 (k : Int) ∧ Ext H2 K ∧ ∃ w, fr 7 = w ∧ Own encI 3 H2.length K w (nedN R k)) ?_ ?_ ?_
    · exact ⟨by (simp (disch := first | exact dschN47 | fail) only [go_sem, ↓reduceIte, Int.natCast_zero]; first | done | rfl), .refl, .slice none 0 0, by (simp (disch := first | exact dschN47 | fail) only [go_sem, ↓reduceIte, Int.natCast_zero]; first | done | rfl), Own.nil⟩
    · rintro k fr K hk0 hk hAg ⟨r23, xK, w, r7, oW⟩
      have q1 := hAg 1 rfl
      have q2 := hAg 2 rfl
      have q3 := hAg 3 rfl
      have q6 := hAg 6 rfl
      have q22 := hAg 22 rfl
      try simp (disch := first | exact dschN47 | fail) only [go_sem, ↓reduceIte] at q1 q2 q3 q6 q22
      have hlt : ((k : Int) < (R.W.length : Int)) = True := eq_true (by omega)
      have ow := oW.one
      have lK := xK.len
      have xh := (xx.trans x2).trans xK
      have pK := xK.get p2
      have qK := xK.get gq
      have hnl := nedN_len (R := R) (n := k)
      have hR2 := hR.wit k
      obtain ⟨wr, K1, f1, y1, aW⟩ := run_without (base := base) (h := K) (k := k) (by omega) (hAe K xh) hR hk
      have k1 := y1.len
      have aW' := aW
      obtain ⟨fw2, ww2, rfl, hF2, hW2⟩ := aW'
      have ofw2 := hF2.one
      have oww2 := hW2.one
      obtain ⟨_, K2, f2, y2, id2, rfl, hid2, hD2⟩ := run_worked (base := base) (h := K1) (by omega) aW hR2
      have k2 := y2.len
      have hm2 := fun base => run_made (base := base) hD2 hR2
      have ml2 := mdS_len (R := witR R k) (x := 0)
      have mv2 := mdS_at (R := witR R k) (x := 0) (y := 0) (by omega) (Nat.le_refl _)
      obtain ⟨K3, eK3⟩ : ∃ K3, K3 = K2 ++ [valBk (mdS (witR R k) 0)] := ⟨_, rfl⟩
      have y3 : Ext K2 K3 := by rw [eK3]; exact .app .refl
      have k3 : K3.length = K2.length + 1 := by rw [eK3]; simp
      have qK3 : K3[K2.length]? = some (valBk (mdS (witR R k) 0)) := by rw [eK3]; exact get_eq rfl
      have stW := stV61 (base := base) (id := K2.length) (H := K2 ++ [valBk zer61]) (l := mdS (witR R k) 0) (m := zer61) (get_eq rfl) ml2 hz
      rw [set_eq rfl, ← eK3] at stW
      have y13 := (y1.trans y2).trans y3
      have q13 := y13.get qK
      have ne := ne61 (a := mdS (witR R k) 0) (b := mdS R 0) ml2 ml
      have ldA := ldA61 (l := mdS R 0) (e := 136) (row := false) (ro := false) ml
      have ldB' := ldA61 (l := mdS (witR R k) 0) (e := 136) (row := false) (ro := false) ml2
      have ld0 : ∀ z, ldB (some (false, z)) (some (valBk (mdS R 0))) 0 0 = some (.int .i64 (valD R 0)) := fun z => by rw [← mv]; exact ldB_ints (by omega)
      have ld1 : ∀ z, ldB (some (false, z)) (some (valBk (mdS (witR R k) 0))) 0 0 = some (.int .i64 (valD (witR R k) 0)) := fun z => by rw [← mv2]; exact ldB_ints (by omega)
      have hsuc := nedN_succ (R := R) (n := k)
      unfold ribB at pK
      unfold valBk zer61 at stW
      unfold valBk at q13 qK3 ld0 ld1
      obtain ⟨a0, ea0⟩ : ∃ a0, a0 = valD R 0 := ⟨_, rfl⟩
      obtain ⟨a1, ea1⟩ : ∃ a1, a1 = valD (witR R k) 0 := ⟨_, rfl⟩
      by_cases c1 : a1 < a0
      · rw [ne_lt (by rw [mv, mv2, ← ea0, ← ea1]; exact c1)] at ne
        rw [← ea0] at ld0
        rw [← ea1] at ld1
        rw [← ea0, ← ea1, if_pos c1] at hsuc
        have t1 : (a1 < a0) = True := eq_true c1
        obtain ⟨w', K4, ea, oW', lW, eW, oneW⟩ := (oW.ext y13).append1 (P := prog) (y := (k : Int)) (a := .int .i64 (k : Int)) (base := base) (t := 22) rfl rfl Fc.el22 encI_sc (by omega) (by omega) (by omega)
        have hsp := @Nat.succ_ne_zero; repeat' (first | simp (disch := first | exact dschN47 | fail) only [go_sem, ↓reduceIte, hsp, r23, r7, q1, q2, q3, q6, q22, hlt, pK, f1, f2, hm2, stW, q13, qK3, ldA, ldB', ne, ld0, ld1, t1, ea] | refine WP_drw ?_ | refine cnd_intro (fun hsp => ?_) fun hsp => ?_)
        exact ⟨by (repeat first | exact Agree.refl | assumption | refine Agree.put rfl ?_ | refine Agree.put0 ?_ | refine Agree.sub rfl (by assumption) ?_), by omega, eW H2 (Nat.le_refl _) (xK.trans y13), w', rfl, by rw [hsuc]; exact oW'⟩
      · rw [← ea0] at ld0
        rw [← ea1] at ld1
        rw [← ea0, ← ea1, if_neg c1, List.append_nil] at hsuc
        have t1 : (a1 < a0) = False := eq_false c1
        obtain ⟨bb, ebb⟩ : ∃ bb, bb = (!(List.range 61).all fun i => decide ((mdS (witR R k) 0).getD i 0 = (mdS R 0).getD i 0)) := ⟨_, rfl⟩
        rw [← ebb] at ne
        cases bb with
        | false =>
          have hsp := @Nat.succ_ne_zero; repeat' (first | simp (disch := first | exact dschN47 | fail) only [go_sem, ↓reduceIte, hsp, r23, r7, q1, q2, q3, q6, q22, hlt, pK, f1, f2, hm2, stW, q13, qK3, ldA, ldB', ne] | refine WP_drw ?_ | refine cnd_intro (fun hsp => ?_) fun hsp => ?_)
          exact ⟨by (repeat first | exact Agree.refl | assumption | refine Agree.put rfl ?_ | refine Agree.put0 ?_ | refine Agree.sub rfl (by assumption) ?_), by omega, xK.trans y13, w, rfl, by rw [hsuc]; exact oW.ext y13⟩
        | true =>
          have hsp := @Nat.succ_ne_zero; repeat' (first | simp (disch := first | exact dschN47 | fail) only [go_sem, ↓reduceIte, hsp, r23, r7, q1, q2, q3, q6, q22, hlt, pK, f1, f2, hm2, stW, q13, qK3, ldA, ldB', ne, ld0, ld1, t1] | refine WP_drw ?_ | refine cnd_intro (fun hsp => ?_) fun hsp => ?_)
          exact ⟨by (repeat first | exact Agree.refl | assumption | refine Agree.put rfl ?_ | refine Agree.put0 ?_ | refine Agree.sub rfl (by assumption) ?_), by omega, xK.trans y13, w, rfl, by rw [hsuc]; exact oW.ext y13⟩
    · rintro fr K hAg ⟨r23, xK, w, r7, oW⟩
      have q1 := hAg 1 rfl
      have q2 := hAg 2 rfl
      have q3 := hAg 3 rfl
      have q6 := hAg 6 rfl
      have q22 := hAg 22 rfl
      try simp (disch := first | exact dschN47 | fail) only [go_sem, ↓reduceIte] at q1 q2 q3 q6 q22
      have hlt : ((R.W.length : Int) < (R.W.length : Int)) = False := eq_false (by omega)
      have ow := oW.one
      have hsp := @Nat.succ_ne_zero; repeat' (first | simp (disch := first | exact dschN47 | fail) only [go_sem, ↓reduceIte, hsp, r23, r7, q1, q2, q3, q6, q22, hlt] | refine WP_drw ?_ | refine cnd_intro (fun hsp => ?_) fun hsp => ?_)
      exact ⟨(xx.trans x2).trans xK, w, rfl, oW.low (by omega)⟩
  · have t0 : (chkR R = 0) = False := eq_false c0
    have r := r1 c0
    subst r
    have re : nedE R = [] := by unfold nedE; rw [if_pos c0]
    rw [re]
    refine ret_raw func61 rfl (by kernel_rfl) ?_
    have hsp := @Nat.succ_ne_zero; repeat' (first | simp (disch := first | exact dschN47 | fail) only [go_sem, ↓reduceIte, hsp, ← eG0, g0, e1, t0] | refine WP_drw ?_ | refine cnd_intro (fun hsp => ?_) fun hsp => ?_)
    exact ⟨xx, _, rfl, Own.nil⟩
end Go.AM
/-
  Contracts: whether values hold (holds).
-/
namespace Go.AM
open Go.Proofs.Try
attribute [-go_sem] put_ne put_same
attribute [local go_sem ↓] put_if
/-- No choice earns more than is said. -/
structure Hld (R : Rib) (V : List Int) : Prop where
  up : ∀ x, x < R.L.toNat → V.getD (x + 1) 0 ≤ V.getD x 0
  cut : ∀ x, x < R.L.toNat → ∀ c ∈ cutL R x, c.2.2 + V.getD c.2.1.toNat 0 ≤ V.getD x 0
  fin : 0 ≤ V.getD R.L.toNat 0
abbrev boB (b : Bool) : ABlk := ⟨.cells [.bool b] 4 false false, 0⟩
end Go.AM
/-
  Contracts: values that are given (valued), whether they hold (Holds), what they say (Bound).
-/
namespace Go.AM
open Go.Proofs.Try
attribute [-go_sem] put_ne put_same
attribute [local go_sem ↓] put_if
def padV (l : List Int) : List Int := l ++ List.replicate (61 - l.length) 0
def vldE (R : Rib) (l : List Int) : Int := if chkR R ≠ 0 then chkR R else if (l.length : Int) ≠ R.L + 1 then 2 else if ¬ (l.all fun y => decide (-10000 ≤ y ∧ y ≤ 10000)) = true then 3 else 0
end Go.AM
/-
  Contracts: whether values hold (Holds), what they say (Bound).
-/
namespace Go.AM
open Go.Proofs.Try
attribute [-go_sem] put_ne put_same
attribute [local go_sem ↓] put_if
noncomputable def hldB (R : Rib) (V : List Int) : Bool := @decide (Hld R V) (Classical.propDecidable _)
/-- What is said of values: whether they hold, the error, what they say. -/
noncomputable def hldE (R : Rib) (l : List Int) : Bool := decide (vldE R l = 0) && hldB R l
noncomputable def bndE (R : Rib) (l : List Int) : Int × Int := if vldE R l ≠ 0 then (0, vldE R l) else if hldB R l = true then (l.getD 0 0, 0) else (0, 8)
end Go.AM
/-
  The reference: what is earned from each position on (Made); whether values hold (Values, Holds).
-/
namespace Go.AM
open Go.Proofs.Try
theorem dschN43 {p : Prop} (h : p := by first | exact Nat.ne_of_beq_eq_false rfl | assumption | (apply asOne; (first | exact One.int | exact One.bool | assumption | exact Ints.one (by assumption) | exact Rows.one (by assumption) | exact Own.one (by assumption) | exact One.lit ⟨rfl, rfl, rfl⟩)) | (apply asInts; (repeat first | assumption | exact ints_nil | apply Ints.app); done) | (apply asRows; (repeat first | assumption | exact Rows.nil | apply Rows.app); done) | (apply asScal; (first | apply allS1 | apply allS2 | apply allS3 | apply allS4) <;> (first | exact One.int | exact One.bool | assumption | exact Ints.one (by assumption) | exact Rows.one (by assumption) | exact Own.one (by assumption) | exact One.lit ⟨rfl, rfl, rfl⟩)) | exact litT rfl | exact litF rfl | omega | (simp only [List.length_append, List.length_cons, List.length_nil, List.length_set, List.length_reverse]; first | done | omega) | fail) : p := h
attribute [-go_sem] put_ne put_same
attribute [local go_sem ↓] put_if
set_option maxRecDepth 100000 in
set_option maxHeartbeats 4000000 in
theorem run_rmade {base : Nat} {h : Heap} {v : AVal} {R : Rib} (hb : base ≤ h.length) (hA : RibAt h v R) (hR : RibOk R) :
    Ret prog raw base (.fn 69 [] []) [v] h (fun w H => Ext h H ∧ Own encI 3 h.length H w (lst (fun y => valD R y) (R.L.toNat + 1))) := by
  have hAe := fun H (e : Ext h H) => hA.ext e
  obtain ⟨fv, wv, rfl, hF, hW⟩ := hA
  have o1 := hF.one
  have o2 := hW.one
  have hL := hR.L
  obtain ⟨n, en⟩ := Int.eq_ofNat_of_zero_le (show 0 ≤ R.L by omega)
  have en' : R.L.toNat = n := by omega
  obtain ⟨G, eG⟩ : ∃ G, G = h ++ [rrbB R.L fv wv] := ⟨_, rfl⟩
  have xG : Ext h G := by rw [eG]; exact .app .refl
  have g0 : G[h.length]? = some (rrbB R.L fv wv) := by rw [eG]; exact get_eq rfl
  have lG : G.length = h.length + 1 := by rw [eG]; simp
  unfold rrbB at eG g0
  refine ret_raw func69 rfl (by kernel_rfl) ?_
  have hsp := @Nat.succ_ne_zero; repeat' (first | simp (disch := first | exact dschN43 | fail) only [go_sem, ↓reduceIte, hsp, ← eG] | refine WP_drw ?_ | refine cnd_intro (fun hsp => ?_) fun hsp => ?_)
  refine WP_count [(3, 22)] 0 (n + 1) (Nat.zero_le _) (fun _ x fr K => fr 4 = .int .i64 (x : Int) ∧ Ext G K ∧ ∃ w, fr 3 = w ∧ Own encI 3 G.length K w (lst (fun y => valD R y) x)) ?_ ?_ ?_
  · exact ⟨by (simp (disch := first | exact dschN43 | fail) only [go_sem, ↓reduceIte, Int.natCast_zero]; first | done | rfl), .refl, .slice none 0 0, by (simp (disch := first | exact dschN43 | fail) only [go_sem, ↓reduceIte, Int.natCast_zero]; first | done | rfl), Own.nil⟩
  · rintro x fr K hx0 hx hAg ⟨r4, xK, w, r3, oW⟩
    have q1 := hAg 1 rfl
    have q2 := hAg 2 rfl
    try simp (disch := first | exact dschN43 | fail) only [go_sem, ↓reduceIte] at q1 q2
    have hle : ((x : Int) ≤ R.L) = True := eq_true (by omega)
    have ow := oW.one
    have lK := xK.len
    have g0K := xK.get g0
    have he := fun base => run_earned (base := base) (f := x) (hAe K (xG.trans xK)) hR (by omega)
    obtain ⟨w', K2, ea, oW', lW, eW, oneW⟩ := oW.append1 (P := prog) (y := valD R x) (a := .int .i64 (valD R x)) (base := base) (t := 22) rfl rfl Fc.el22 encI_sc (by omega) (by omega) (by rw [lst_len]; omega)
    rw [← lst_succ] at oW'
    have hsp := @Nat.succ_ne_zero; repeat' (first | simp (disch := first | exact dschN43 | fail) only [go_sem, ↓reduceIte, hsp, r4, r3, q1, q2, g0K, hle, he, ea] | refine WP_drw ?_ | refine cnd_intro (fun hsp => ?_) fun hsp => ?_)
    exact ⟨by (repeat first | exact Agree.refl | assumption | refine Agree.put rfl ?_ | refine Agree.put0 ?_ | refine Agree.sub rfl (by assumption) ?_), by omega, eW G (Nat.le_refl _) xK, w', rfl, oW'⟩
  · rintro fr K hAg ⟨r4, xK, w, r3, oW⟩
    have q1 := hAg 1 rfl
    have q2 := hAg 2 rfl
    try simp (disch := first | exact dschN43 | fail) only [go_sem, ↓reduceIte] at q1 q2
    have hle : (((n + 1 : Nat) : Int) ≤ R.L) = False := eq_false (by omega)
    have ow := oW.one
    have g0K := xK.get g0
    have hsp := @Nat.succ_ne_zero; repeat' (first | simp (disch := first | exact dschN43 | fail) only [go_sem, ↓reduceIte, hsp, r4, r3, q1, q2, g0K, hle] | refine WP_drw ?_ | refine cnd_intro (fun hsp => ?_) fun hsp => ?_)
    exact ⟨xG.trans xK, by rw [en']; exact oW.low (by omega)⟩
end Go.AM
/-
  The reference: whether values hold (Holds).
-/
namespace Go.AM
open Go.Proofs.Try
attribute [-go_sem] put_ne put_same
attribute [local go_sem ↓] put_if
end Go.AM
/-
  Plain: what is earned before a position, in the reference's row.
-/
namespace Go.AM
theorem upS_M {n y : Nat} {s : List Int × List Int} {a c : Int} (h : UpK n s) (hy : y ≤ n) : (fun i => (upS s y a c).1.getD i 0) = rlx (fun i => s.1.getD i 0) y a := by
  have h1 := h.l1
  funext i
  unfold upS
  by_cases e : thB true (a, c) (s.1.getD y 0, s.2.getD y 0) = true
  · rw [if_pos e]
    have hle : s.1.getD y 0 ≤ a := by
      unfold thB at e
      simp only [Bool.true_and, Bool.or_eq_true, Bool.and_eq_true, decide_eq_true_eq] at e
      omega
    simp only
    rw [getD_setD (by omega)]
    unfold rlx
    by_cases q : i = y
    · rw [if_pos q, if_pos q]; exact (Int.max_eq_right hle).symm
    · rw [if_neg q, if_neg q]
  · rw [if_neg e]
    have hle : a ≤ s.1.getD y 0 := by
      unfold thB at e
      simp only [Bool.true_and, Bool.or_eq_true, Bool.and_eq_true, decide_eq_true_eq] at e
      omega
    unfold rlx
    by_cases q : i = y
    · rw [if_pos q, q]; exact (Int.max_eq_left hle).symm
    · rw [if_neg q]
section
variable {R : Rib} {x : Nat}
theorem upX_partM (hR : RibOk R) (hx : x < R.L.toNat) {s : List Int × List Int} (h : UpK R.L.toNat s) : ∀ (l : List (Ct × Int × Int)) (t : List Int × List Int) (K : Nat → Int), (∀ c ∈ l, c ∈ cutL R x) → UpK R.L.toNat t → t.1.getD x 0 = s.1.getD x 0 → t.2.getD x 0 = s.2.getD x 0 → (fun i => t.1.getD i 0) = K →
    (fun i => (l.foldl (upC x) t).1.getD i 0) = l.foldl (fun K' c => rlx K' c.2.1.toNat (s.1.getD x 0 + id c.2.2)) K
  | [], t, K, _, k, e1, e2, e3 => e3
  | c :: l, t, K, hl, k, e1, e2, e3 => by
    have hL := hR.L
    obtain ⟨hb, hf, hw0, hw1, w, hw, ht⟩ := cutL_b hR hx (hl c (by simp))
    have htb := takL_b hR (hR.W w (List.mem_of_getElem? hw)) hx ht
    have b1 := h.b1 x
    have b2 := h.b2 x
    obtain ⟨g1, g2, g3⟩ := k.one (y := c.2.1.toNat) (a := t.1.getD x 0 + c.2.2) (c := t.2.getD x 0 + 1) (by omega) (by omega) (by rw [e1]; omega) (by rw [e2]; omega)
    have g4 := g3 x (by omega)
    rw [List.foldl_cons, List.foldl_cons]
    refine upX_partM hR hx h l _ _ (fun d hd => hl d (by simp [hd])) g1 (g4.1.trans e1) (g4.2.trans e2) ?_
    show (fun i => (upS t c.2.1.toNat (t.1.getD x 0 + c.2.2) (t.2.getD x 0 + 1)).1.getD i 0) = _
    rw [upS_M k (by omega), e1, e3]
    rfl
theorem upN_M (hR : RibOk R) {f : Nat} : ∀ {n : Nat}, f + n ≤ R.L.toNat → (fun i => (upN R f n).1.getD i 0) = fwN R id n f (fun _ => 0)
  | 0, _ => by
    funext i
    simp only [upN, fwN, List.getD_eq_getElem?_getD, List.getElem?_replicate]; split <;> rfl
  | n + 1, h => by
    have ih := upN_M hR (f := f) (n := n) (by omega)
    obtain ⟨h1, -⟩ := upN_ok hR (f := f) (n := n) (by omega)
    have hL := hR.L
    have b1 := h1.b1 (f + n)
    have b2 := h1.b2 (f + n)
    have hx : f + n < R.L.toNat := by omega
    obtain ⟨g1, g2, g3⟩ := h1.one (y := f + n + 1) (a := (upN R f n).1.getD (f + n) 0) (c := (upN R f n).2.getD (f + n) 0) (by omega) (by omega) (by omega) (by omega)
    have g4 := g3 (f + n) (by omega)
    rw [fwN_succ, ← ih]
    exact upX_partM hR hx h1 (cutL R (f + n)) _ _ (fun _ q => q) g1 g4.1 g4.2 (upS_M h1 (by omega))
theorem upN_bef (hR : RibOk R) (hx : x ≤ R.L.toNat) : (upN R 0 R.L.toNat).1.getD x 0 = befD R x := by
  have := congrFun (upN_M hR (f := 0) (n := R.L.toNat) (by omega)) x
  rw [befD_fw hR hx hx (Nat.le_refl _)] at this
  exact this
end
end Go.AM
/-
  The reference: whether a best plan may use a want (Uses).
-/
namespace Go.AM
open Go.Proofs.Try
theorem dschN48 {p : Prop} (h : p := by first | exact Nat.ne_of_beq_eq_false rfl | assumption | (apply asOne; (first | exact One.int | exact One.bool | assumption | exact Ints.one (by assumption) | exact Rows.one (by assumption) | exact Own.one (by assumption) | exact One.lit ⟨rfl, rfl, rfl⟩)) | (apply asInts; (repeat first | assumption | exact ints_nil | apply Ints.app); done) | (apply asRows; (repeat first | assumption | exact Rows.nil | apply Rows.app); done) | (apply asScal; (first | apply allS1 | apply allS2 | apply allS3 | apply allS4) <;> (first | exact One.int | exact One.bool | assumption | exact Ints.one (by assumption) | exact Rows.one (by assumption) | exact Own.one (by assumption) | exact One.lit ⟨rfl, rfl, rfl⟩)) | exact litT rfl | exact litF rfl | omega | (simp only [List.length_append, List.length_cons, List.length_nil, List.length_set, List.length_reverse]; first | done | omega) | fail) : p := h
attribute [-go_sem] put_ne put_same
attribute [local go_sem ↓] put_if
set_option maxRecDepth 100000 in
set_option maxHeartbeats 4000000 in
theorem run_ruses {base : Nat} {h : Heap} {v : AVal} {R : Rib} {k : Int} (hA : RibAt h v R) (hR : RibOk R) :
    callL prog raw base (.fn 57 [] []) [v, .int .i64 k] h = some (.bool (decide (k ∈ usN R R.L.toNat)), h) := by
  have hAe := fun H (e : Ext h H) => hA.ext e
  obtain ⟨fv, wv, rfl, hF, hW⟩ := hA
  have o1 := hF.one
  have o2 := hW.one
  have hL := hR.L
  obtain ⟨n, en⟩ := Int.eq_ofNat_of_zero_le (show 0 ≤ R.L by omega)
  have en' : R.L.toNat = n := by omega
  obtain ⟨G, eG⟩ : ∃ G, G = h ++ [rrbB R.L fv wv] := ⟨_, rfl⟩
  have xG : Ext h G := by rw [eG]; exact .app .refl
  have g0 : G[h.length]? = some (rrbB R.L fv wv) := by rw [eG]; exact get_eq rfl
  have lG : G.length = h.length + 1 := by rw [eG]; simp
  obtain ⟨_, G1, e1, x1, u1, u2, rfl, oU1, oU2⟩ := run_up (base := h.length) (h := G) (f := 0) (by omega) (hAe G xG) hR (by omega)
  have l1 := x1.len
  have ou1 := oU1.one
  have ou2 := oU2.one
  obtain ⟨mv, G2, e2, x2, oM⟩ := run_rmade (base := h.length) (h := G1) (by omega) (hAe G1 (xG.trans x1)) hR
  have l2 := x2.len
  have omv := oM.one
  rw [Nat.sub_zero] at oU1
  rw [Int.natCast_zero] at e1
  obtain ⟨hu, -⟩ := upN_ok hR (f := 0) (n := R.L.toNat) (by omega)
  obtain ⟨P, eP⟩ : ∃ P, P = (upN R 0 R.L.toNat).1 := ⟨_, rfl⟩
  have hPl : P.length = n + 1 := by rw [eP, hu.l1, en']
  have hPx : ∀ x, x ≤ n → P.getD x 0 = befD R x := fun x hx => by rw [eP]; exact upN_bef hR (by omega)
  have hPb : ∀ x, 0 ≤ P.getD x 0 ∧ P.getD x 0 ≤ 100 * (x : Int) := fun x => by rw [eP]; exact hu.b1 x
  have sP : Small P := by rw [eP]; exact hu.s1 (by omega)
  rw [← eP] at oU1
  obtain ⟨Q, eQ⟩ : ∃ Q, Q = lst (fun y => valD R y) (R.L.toNat + 1) := ⟨_, rfl⟩
  have hQl : Q.length = n + 1 := by rw [eQ, lst_len, en']
  have hQx : ∀ x, x ≤ n → Q.getD x 0 = valD R x := fun x hx => by rw [eQ]; exact lst_get (by omega)
  have sQ : Small Q := by rw [eQ]; exact val_small hR (by omega)
  rw [← eQ] at oM
  have i1 := (own_ints oU1 sP).ext x2
  have i2 := own_ints oM sQ
  have g1 := x1.get g0
  have g2 := x2.get g1
  have xh2 := (xG.trans x1).trans x2
  unfold rrbB at eG g0 g1 g2
  refine callL_run func57 rfl rfl ?_
  have hsp := @Nat.succ_ne_zero; repeat' (first | simp (disch := first | exact dschN48 | fail) only [go_sem, ↓reduceIte, hsp, ← eG, g0, e1, g1, e2] | refine WP_drw ?_ | refine cnd_intro (fun hsp => ?_) fun hsp => ?_)
  refine WP_count [(4, 4), (8, 69)] 0 n (Nat.zero_le _) (fun _ x fr K => fr 8 = .int .i64 (x : Int) ∧ Ext G2 K ∧ ∀ y, y < x → ∀ c ∈ cutL R y, ¬ (useB R (befD R y) c = true ∧ c.1.w = k)) ?_ ?_ ?_
  · exact ⟨by (simp (disch := first | exact dschN48 | fail) only [go_sem, ↓reduceIte, Int.natCast_zero]; first | done | rfl), .refl, fun y hy => by omega⟩
  · rintro x fr K hx0 hx hAg ⟨r8, xK, hpre⟩
    have q1 := hAg 1 rfl
    have q2 := hAg 2 rfl
    have q5 := hAg 5 rfl
    have q7 := hAg 7 rfl
    try simp (disch := first | exact dschN48 | fail) only [go_sem, ↓reduceIte] at q1 q2 q5 q7
    have hlt : ((x : Int) < R.L) = True := eq_true (by omega)
    have hxl : x < R.L.toNat := by omega
    have g0K := xK.get g2
    have xh := xh2.trans xK
    have lK := xK.len
    obtain ⟨lw, K2, e3, x3, oA⟩ := run_rall (base := h.length) (h := K) (x := x) (by omega) (hAe K xh) hR hxl
    have olw := oA.one
    have x2h := xh.trans x3
    have hcl := cutL_len (x := x) hR
    have iP := oA.rows (by rw [List.length_map]; omega)
    have hlX := rct_len iP
    rw [List.length_map] at hlX
    have j1 := i1.ext (xK.trans x3)
    have j2 := i2.ext (xK.trans x3)
    have a1 := adrI (i := (x : Int)) (by omega) j1 (by omega)
    rw [Int.toNat_natCast] at a1
    have ldx := loadI j1 (i := x) (by omega)
    rw [hPx x (by omega)] at ldx
    have bP := hPb x
    rw [hPx x (by omega)] at bP
    have a0 := adrI (i := 0) (by omega) j2 (by omega)
    have ldz := loadI j2 (i := 0) (by omega)
    rw [hQx 0 (by omega)] at ldz
    rw [show (0 : Int).toNat = 0 from rfl] at a0
    have g02 := x3.get g0K
    have hsp := @Nat.succ_ne_zero; repeat' (first | simp (disch := first | exact dschN48 | fail) only [go_sem, ↓reduceIte, hsp, r8, q1, q2, q5, q7, g0K, hlt, e3] | refine WP_drw ?_ | refine cnd_intro (fun hsp => ?_) fun hsp => ?_)
    refine WP_count [(4, 4), (10, 69)] 0 (cutL R x).length (Nat.zero_le _) (fun _ j fr X => fr 10 = .int .i64 (j : Int) ∧ X = K2 ∧ ∀ c ∈ (cutL R x).take j, ¬ (useB R (befD R x) c = true ∧ c.1.w = k)) ?_ ?_ ?_
    · exact ⟨by (simp (disch := first | exact dschN48 | fail) only [go_sem, ↓reduceIte, Int.natCast_zero]; first | done | rfl), rfl, by simp⟩
    · rintro j fr2 X hj0 hj hA2 ⟨r10, rfl, hc0⟩
      have d1 := hA2 1 rfl
      have d2 := hA2 2 rfl
      have d5 := hA2 5 rfl
      have d7 := hA2 7 rfl
      have d8 := hA2 8 rfl
      have d9 := hA2 9 rfl
      try simp (disch := first | exact dschN48 | fail) only [go_sem, ↓reduceIte, q1, q2, q5, q7] at d1 d2 d5 d7 d8 d9
      have d8 := hA2 8 rfl
      simp (disch := first | exact dschN48 | fail) only [go_sem, ↓reduceIte, r8] at d8
      have hltj : ((j : Int) < ((cutL R x).length : Int)) = True := eq_true (by omega)
      obtain ⟨c, ec⟩ : ∃ c, c = (cutL R x)[j] := ⟨_, rfl⟩
      have hcj : (cutL R x)[j]? = some c := by rw [ec]; exact List.getElem?_eq_getElem hj
      have hcm := List.mem_of_getElem? hcj
      obtain ⟨hb', hf', hw0, hw1, w, hw, ht⟩ := cutL_b hR hxl hcm
      have htb := takL_b hR (hR.W w (List.mem_of_getElem? hw)) hxl ht
      have hjl : j < ((cutL R x).map (·.1)).length := by rw [List.length_map]; exact hj
      have hjc : ((cutL R x).map (·.1))[j]? = some c.1 := by rw [List.getElem?_map, hcj]; rfl
      have aj := rct_ad iP hjl
      have lj := rct_ld iP hjc
      have f0 := rct_f0 iP hjl
      have c0 := rct_l0 iP hjc
      have hal := fun base => run_allowed (base := base) (j := c.1.j) (hAe X x2h) hR hw hxl
      rw [ht, show ((c.1.w.toNat : Nat) : Int) = c.1.w by omega, ← hf'] at hal
      unfold allV at hal
      obtain ⟨e, ee⟩ : ∃ e, e = c.2.1.toNat := ⟨_, rfl⟩
      have b3 := adrI (i := c.2.1) (by omega) j2 (by omega)
      rw [← ee] at b3
      have f3 := loadI j2 (i := e) (by omega)
      rw [hQx e (by omega)] at f3
      have hub : useB R (befD R x) c = decide (befD R x + c.2.2 + valD R e = valD R 0) := by unfold useB; rw [← ee]
      have htk : (cutL R x).take (j + 1) = (cutL R x).take j ++ [c] := by rw [List.take_add_one, hcj]; rfl
      have vb := valD_bd hR (x := e)
      obtain ⟨be, ebe⟩ : ∃ be, be = befD R x := ⟨_, rfl⟩
      obtain ⟨ve, eve⟩ : ∃ ve, ve = valD R e := ⟨_, rfl⟩
      obtain ⟨v0, ev0⟩ : ∃ v0, v0 = valD R 0 := ⟨_, rfl⟩
      rw [← ebe, ← eve, ← ev0] at hub
      rw [← ebe] at ldx bP
      rw [← eve] at f3 vb
      rw [← ev0] at ldz
      have hno : ¬ (useB R (befD R x) c = true ∧ c.1.w = k) → ∀ z ∈ (cutL R x).take (j + 1), ¬ (useB R (befD R x) z = true ∧ z.1.w = k) := fun hn z hz => by
        rw [htk] at hz
        rcases List.mem_append.1 hz with q | q
        · exact hc0 z q
        · rw [List.mem_singleton.1 q]; exact hn
      rw [← ebe] at hno
      by_cases c1 : c.1.w = k
      · have t1 : (c.1.w = k) = True := eq_true c1
        by_cases c2 : be + c.2.2 + ve = v0
        · have t2 : (be + c.2.2 + ve = v0) = True := eq_true c2
          have hbt : decide (k ∈ usN R R.L.toNat) = true := decide_eq_true (usN_mem.2 ⟨x, hxl, c, hcm, by rw [← ebe, hub]; exact decide_eq_true c2, c1⟩)
          rw [hbt]
          have hsp := @Nat.succ_ne_zero; repeat' (first | simp (disch := first | exact dschN48 | fail) only [go_sem, ↓reduceIte, hsp, r10, d8, d1, d2, d5, d7, d8, d9, q1, q2, q5, q7, hlX, hltj, g02, aj, lj, f0, c0, hal, t1, a1, ldx, b3, f3, a0, ldz, t2] | refine WP_drw ?_ | refine cnd_intro (fun hsp => ?_) fun hsp => ?_)
          exact fB rfl x2h
        · have t2 : (be + c.2.2 + ve = v0) = False := eq_false c2
          have hsp := @Nat.succ_ne_zero; repeat' (first | simp (disch := first | exact dschN48 | fail) only [go_sem, ↓reduceIte, hsp, r10, d8, d1, d2, d5, d7, d8, d9, q1, q2, q5, q7, hlX, hltj, g02, aj, lj, f0, c0, hal, t1, a1, ldx, b3, f3, a0, ldz, t2] | refine WP_drw ?_ | refine cnd_intro (fun hsp => ?_) fun hsp => ?_)
          exact ⟨by (repeat first | exact Agree.refl | assumption | refine Agree.put rfl ?_ | refine Agree.put0 ?_ | refine Agree.sub rfl (by assumption) ?_), by omega, by rw [← ebe]; exact hno (fun q => by rw [hub] at q; exact c2 (of_decide_eq_true q.1))⟩
      · have t1 : (c.1.w = k) = False := eq_false c1
        have hsp := @Nat.succ_ne_zero; repeat' (first | simp (disch := first | exact dschN48 | fail) only [go_sem, ↓reduceIte, hsp, r10, d8, d1, d2, d5, d7, d8, d9, q1, q2, q5, q7, hlX, hltj, g02, aj, lj, f0, c0, hal, t1] | refine WP_drw ?_ | refine cnd_intro (fun hsp => ?_) fun hsp => ?_)
        exact ⟨by (repeat first | exact Agree.refl | assumption | refine Agree.put rfl ?_ | refine Agree.put0 ?_ | refine Agree.sub rfl (by assumption) ?_), by omega, by rw [← ebe]; exact hno (fun q => c1 q.2)⟩
    · rintro fr2 X hA2 ⟨r10, rfl, hc0⟩
      have d1 := hA2 1 rfl
      have d2 := hA2 2 rfl
      have d5 := hA2 5 rfl
      have d7 := hA2 7 rfl
      have d8 := hA2 8 rfl
      have d9 := hA2 9 rfl
      try simp (disch := first | exact dschN48 | fail) only [go_sem, ↓reduceIte, q1, q2, q5, q7] at d1 d2 d5 d7 d8 d9
      have d8 := hA2 8 rfl
      simp (disch := first | exact dschN48 | fail) only [go_sem, ↓reduceIte, r8] at d8
      have hltj : (((cutL R x).length : Int) < ((cutL R x).length : Int)) = False := eq_false (by omega)
      rw [List.take_length] at hc0
      have hsp := @Nat.succ_ne_zero; repeat' (first | simp (disch := first | exact dschN48 | fail) only [go_sem, ↓reduceIte, hsp, r10, d8, d1, d2, d5, d7, d8, d9, q1, q2, q5, q7, hlX, hltj] | refine WP_drw ?_ | refine cnd_intro (fun hsp => ?_) fun hsp => ?_)
      refine ⟨by (repeat first | exact Agree.refl | assumption | refine Agree.put rfl ?_ | refine Agree.put0 ?_ | refine Agree.sub rfl (by assumption) ?_), by omega, xK.trans x3, fun y hy => ?_⟩
      by_cases e : y = x
      · subst e; exact hc0
      · exact hpre y (by omega)
  · rintro fr K hAg ⟨r8, xK, hpre⟩
    have q1 := hAg 1 rfl
    have q2 := hAg 2 rfl
    have q5 := hAg 5 rfl
    have q7 := hAg 7 rfl
    try simp (disch := first | exact dschN48 | fail) only [go_sem, ↓reduceIte] at q1 q2 q5 q7
    have hlt : ((n : Int) < R.L) = False := eq_false (by omega)
    have g0K := xK.get g2
    have hbf : decide (k ∈ usN R R.L.toNat) = false := decide_eq_false fun q => by
      obtain ⟨x, hx, c, hc, q1, q2⟩ := usN_mem.1 q
      exact hpre x (by omega) c hc ⟨q1, q2⟩
    rw [hbf]
    have hsp := @Nat.succ_ne_zero; repeat' (first | simp (disch := first | exact dschN48 | fail) only [go_sem, ↓reduceIte, hsp, r8, q1, q2, q5, q7, g0K, hlt] | refine WP_drw ?_ | refine cnd_intro (fun hsp => ?_) fun hsp => ?_)
    exact fB rfl (xh2.trans xK)
end Go.AM
/-
  The reference: whether a want is needed (Needs), from which price on it is used (Raise).
-/
namespace Go.AM
open Go.Proofs.Try
theorem dschN49 {p : Prop} (h : p := by first | exact Nat.ne_of_beq_eq_false rfl | assumption | (apply asOne; (first | exact One.int | exact One.bool | assumption | exact Ints.one (by assumption) | exact Rows.one (by assumption) | exact Own.one (by assumption) | exact One.lit ⟨rfl, rfl, rfl⟩)) | (apply asInts; (repeat first | assumption | exact ints_nil | apply Ints.app); done) | (apply asRows; (repeat first | assumption | exact Rows.nil | apply Rows.app); done) | (apply asScal; (first | apply allS1 | apply allS2 | apply allS3 | apply allS4) <;> (first | exact One.int | exact One.bool | assumption | exact Ints.one (by assumption) | exact Rows.one (by assumption) | exact Own.one (by assumption) | exact One.lit ⟨rfl, rfl, rfl⟩)) | exact litT rfl | exact litF rfl | omega | (simp only [List.length_append, List.length_cons, List.length_nil, List.length_set, List.length_reverse]; first | done | omega) | fail) : p := h
attribute [-go_sem] put_ne put_same
attribute [local go_sem ↓] put_if
def lssN (R : Rib) (k i : Nat) : List Wnt := (R.W.take i).eraseIdx k
theorem lssN_succ {R : Rib} {k i : Nat} {w : Wnt} (hw : R.W[i]? = some w) : lssN R k (i + 1) = if i = k then lssN R k i else lssN R k i ++ [w] := by
  have hi := (List.getElem?_eq_some_iff.1 hw).1
  have hl : (R.W.take i).length = i := by rw [List.length_take]; omega
  have e : R.W.take (i + 1) = R.W.take i ++ [w] := by rw [List.take_add_one, hw]; rfl
  unfold lssN
  rw [e]
  by_cases c : i = k
  · rw [if_pos c, ← c, List.eraseIdx_append_of_length_le (by omega), hl, Nat.sub_self, List.eraseIdx_of_length_le (l := R.W.take i) (by omega)]
    simp
  · rw [if_neg c]
    by_cases d : k < i
    · rw [List.eraseIdx_append_of_lt_length (by omega)]
    · rw [List.eraseIdx_of_length_le (l := R.W.take i) (by omega), List.eraseIdx_of_length_le (by rw [List.length_append, hl, List.length_singleton]; omega)]
theorem lssN_len {R : Rib} {k i : Nat} : (lssN R k i).length ≤ i := by
  unfold lssN
  exact Nat.le_trans (List.length_eraseIdx_le _ _) (by rw [List.length_take]; omega)
set_option maxRecDepth 100000 in
set_option maxHeartbeats 4000000 in
theorem run_rneeds {base : Nat} {h : Heap} {v : AVal} {R : Rib} {k : Nat} (hA : RibAt h v R) (hR : RibOk R) :
    callL prog raw base (.fn 58 [] []) [v, .int .i64 (k : Int)] h = some (.bool (decide (valD (witR R k) 0 < valD R 0)), h) := by
  have hAe := fun H (e : Ext h H) => hA.ext e
  obtain ⟨fv, wv, rfl, hF, hW⟩ := hA
  have o1 := hF.one
  have o2 := hW.one
  have hnW := hR.nW
  obtain ⟨G0, eG0⟩ : ∃ G0, G0 = h ++ [rrbB R.L fv wv] := ⟨_, rfl⟩
  have x0 : Ext h G0 := by rw [eG0]; exact .app .refl
  have g0 : G0[h.length]? = some (rrbB R.L fv wv) := by rw [eG0]; exact get_eq rfl
  have l0 : G0.length = h.length + 1 := by rw [eG0]; simp
  obtain ⟨G, eG⟩ : ∃ G, G = G0 ++ [rrbB R.L fv (.slice none 0 0)] := ⟨_, rfl⟩
  have xG : Ext G0 G := by rw [eG]; exact .app .refl
  have g2 : G[G0.length]? = some (rrbB R.L fv (.slice none 0 0)) := by rw [eG]; exact get_eq rfl
  have lG : G.length = h.length + 2 := by rw [eG]; simp [l0]
  unfold rrbB at eG0 eG
  have g0' := g0
  unfold rrbB at g0'
  refine callL_run func58 rfl rfl ?_
  have hsp := @Nat.succ_ne_zero; repeat' (first | simp (disch := first | exact dschN49 | fail) only [go_sem, ↓reduceIte, hsp, ← eG0, g0', ← eG] | refine WP_drw ?_ | refine cnd_intro (fun hsp => ?_) fun hsp => ?_)
  refine WP_count [(6, 35)] 0 R.W.length (Nat.zero_le _) (fun _ i fr K => fr 6 = .int .i64 (i : Int) ∧ Ext G0 K ∧ G.length ≤ K.length ∧ ∃ w, K[G0.length]? = some (rrbB R.L fv w) ∧ Own encW 118 G.length K w (lssN R k i)) ?_ ?_ ?_
  · exact ⟨by (simp (disch := first | exact dschN49 | fail) only [go_sem, ↓reduceIte, Int.natCast_zero]; first | done | rfl), xG, Nat.le_refl _, .slice none 0 0, g2, Own.nil⟩
  · rintro i fr K hi0 hi hAg ⟨r6, xK, lK, w, gK, oW⟩
    have q1 := hAg 1 rfl
    have q2 := hAg 2 rfl
    have q4 := hAg 4 rfl
    have q5 := hAg 5 rfl
    try simp (disch := first | exact dschN49 | fail) only [go_sem, ↓reduceIte] at q1 q2 q4 q5
    have hlt : ((i : Int) < (R.W.length : Int)) = True := eq_true (by omega)
    have ow := oW.one
    obtain ⟨r, er⟩ : ∃ r, r = R.W[i] := ⟨_, rfl⟩
    have hx : R.W[i]? = some r := by rw [er]; exact List.getElem?_eq_getElem hi
    have iW := hW.ext (x0.trans xK)
    have hn := rwn_len iW
    have ad := rwn_ad iW hi
    have ld := rwn_ld iW hx
    have g0K := xK.get g0'
    have hll := lssN_len (R := R) (k := k) (i := i)
    have hsuc := lssN_succ (k := k) hx
    have gK' := gK
    unfold rrbB at gK'
    by_cases c1 : i = k
    · have t1 : ((i : Int) = (k : Int)) = True := eq_true (by omega)
      rw [if_pos c1] at hsuc
      have hsp := @Nat.succ_ne_zero; repeat' (first | simp (disch := first | exact dschN49 | fail) only [go_sem, ↓reduceIte, hsp, r6, q1, q2, q4, q5, g0K, hn, hlt, t1] | refine WP_drw ?_ | refine cnd_intro (fun hsp => ?_) fun hsp => ?_)
      exact ⟨by (repeat first | exact Agree.refl | assumption | refine Agree.put rfl ?_ | refine Agree.put0 ?_ | refine Agree.sub rfl (by assumption) ?_), by omega, xK, lK, w, gK', by rw [hsuc]; exact oW⟩
    · have t1 : ((i : Int) = (k : Int)) = False := eq_false (by omega)
      rw [if_neg c1] at hsuc
      obtain ⟨w', K2, ea, oW', lW, eW, oneW, kW⟩ := snocV (base := h.length) (r := r) oW (by omega) (by omega) (by omega)
      have gK5 := kW.box gK'
      have hsp := @Nat.succ_ne_zero; repeat' (first | simp (disch := first | exact dschN49 | fail) only [go_sem, ↓reduceIte, hsp, r6, q1, q2, q4, q5, g0K, hn, hlt, t1, gK', ad, ld, bsV1, ea, gK5] | refine WP_drw ?_ | refine cnd_intro (fun hsp => ?_) fun hsp => ?_)
      exact ⟨by (repeat first | exact Agree.refl | assumption | refine Agree.put rfl ?_ | refine Agree.put0 ?_ | refine Agree.sub rfl (by assumption) ?_), by omega, (eW G0 (by omega) xK).set (by omega), by omega, w', rfl, by rw [hsuc]; exact oW'.setBox gK5⟩
  · rintro fr K hAg ⟨r6, xK, lK, w, gK, oW⟩
    have q1 := hAg 1 rfl
    have q2 := hAg 2 rfl
    have q4 := hAg 4 rfl
    have q5 := hAg 5 rfl
    try simp (disch := first | exact dschN49 | fail) only [go_sem, ↓reduceIte] at q1 q2 q4 q5
    have hlt : ((R.W.length : Int) < (R.W.length : Int)) = False := eq_false (by omega)
    have ow := oW.one
    have hn := rwn_len (hW.ext (x0.trans xK))
    have g0K := xK.get g0'
    have ewl : lssN R k R.W.length = (witR R k).W := by unfold lssN witR; rw [List.take_length]
    have hll := lssN_len (R := R) (k := k) (i := R.W.length)
    have aL : RibAt K (.agg [.int .i64 R.L, fv, w]) (witR R k) := ⟨fv, w, rfl, hF.ext (x0.trans xK), by rw [← ewl]; exact oW.rows (by omega)⟩
    have he := fun base => run_earned (base := base) (f := 0) (hAe K (x0.trans xK)) hR (by omega)
    have hf := fun base => run_earned (base := base) (f := 0) aL (hR.wit k) (by omega)
    rw [Int.natCast_zero] at he hf
    unfold rrbB at gK
    have hsp := @Nat.succ_ne_zero; repeat' (first | simp (disch := first | exact dschN49 | fail) only [go_sem, ↓reduceIte, hsp, r6, q1, q2, q4, q5, g0K, hn, hlt, he, gK, hf] | refine WP_drw ?_ | refine cnd_intro (fun hsp => ?_) fun hsp => ?_)
    exact fB rfl (x0.trans xK)
set_option maxRecDepth 100000 in
set_option maxHeartbeats 4000000 in
theorem stN49 {base : Nat} {l : List Oper} {s : St} {Q : AExit → St → Prop} : WP prog raw base (.region 4 l.toArray true) s Q = WPS prog raw base (.region 4 l.toArray true) s Q := WP_stop
attribute [local go_sem ↓ 3000] stN49
theorem run_rraise {base : Nat} {h : Heap} {v : AVal} {R : Rib} {k : Nat} (hA : RibAt h v R) (hR : RibOk R) (hk : k < R.W.length) :
    callL prog raw base (.fn 59 [] []) [v, .int .i64 (k : Int)] h = some (match rseL R k with | none => .tuple [.int .i64 0, .int .i64 6] | some p => .tuple [.int .i64 p, .int .i64 0], h) := by
  have hAe := fun H (e : Ext h H) => hA.ext e
  obtain ⟨fv, wv, rfl, hF, hW⟩ := hA
  have o1 := hF.one
  have o2 := hW.one
  have hnW := hR.nW
  have hwk : R.W[k]? = some R.W[k] := List.getElem?_eq_getElem hk
  generalize R.W[k] = w at hwk
  have hwo := hR.W w (List.mem_of_getElem? hwk)
  have hpr := hwo.pr
  have rel : rseL R k = rseN R k (101 - w.pr).toNat w.pr := by unfold rseL prcW; rw [hwk]
  obtain ⟨Z, eZ⟩ : ∃ Z, Z = rseL R k := ⟨_, rfl⟩
  rw [← eZ]
  obtain ⟨G0, eG0⟩ : ∃ G0, G0 = h ++ [rrbB R.L fv wv] := ⟨_, rfl⟩
  have x0 : Ext h G0 := by rw [eG0]; exact .app .refl
  have g0 : G0[h.length]? = some (rrbB R.L fv wv) := by rw [eG0]; exact get_eq rfl
  have l0 : G0.length = h.length + 1 := by rw [eG0]; simp
  have iW := hW.ext x0
  have a1 := rwn_ad iW hk
  have a2 := rwn_f1 iW hk
  have a3 := rwn_l1 iW hwk
  unfold rrbB at eG0
  have g0' := g0
  unfold rrbB at g0'
  obtain ⟨N, eN⟩ : ∃ N, N = (101 - w.pr).toNat := ⟨_, rfl⟩
  obtain ⟨nw, enw⟩ : ∃ nw, nw = R.W.length := ⟨_, rfl⟩
  have hne : R.W ≠ [] := fun q => by rw [q] at hk; simp at hk
  refine callL_run func59 rfl rfl ?_
  have hsp := @Nat.succ_ne_zero; repeat' (first | simp (disch := first | exact dschN49 | fail) only [go_sem, ↓reduceIte, hsp, ← eG0, g0', a1, a2, a3] | refine WP_drw ?_ | refine cnd_intro (fun hsp => ?_) fun hsp => ?_)
  refine WP_count [(4, 36)] 0 N (Nat.zero_le _) (fun _ i fr H => fr 6 = .int .i64 (w.pr + (i : Int)) ∧ Ext G0 H ∧ rseN R k (N - i) (w.pr + (i : Int)) = Z) ?_ ?_ ?_
  · exact ⟨by simp (disch := first | exact dschN49 | fail) only [go_sem, ↓reduceIte]; simp, .refl, by rw [Nat.sub_zero, eZ, rel, ← eN]; simp⟩
  · rintro i fr K hi0 hi hAg ⟨r6, xK, hz⟩
    have q1 := hAg 1 rfl
    have q2 := hAg 2 rfl
    try simp (disch := first | exact dschN49 | fail) only [go_sem, ↓reduceIte] at q1 q2
    obtain ⟨p, ep⟩ : ∃ p, p = w.pr + (i : Int) := ⟨_, rfl⟩
    rw [← ep] at r6 hz
    have hp : 0 ≤ p ∧ p ≤ 100 := by omega
    have hle : (p ≤ 100) = True := eq_true hp.2
    have lK := xK.len
    have g0K := xK.get g0'
    have xh := x0.trans xK
    have iK := hW.ext xh
    have hbe : ∀ {lit : Bool}, bsA prog lit K 29 0 [] = some (.emp, K) := fun {lit} => bs_emp Fc.el29
    have hap := fun base => app_empE (base := base) iK hne encW_sc (by omega) Fc.el29
    obtain ⟨K1, eK1⟩ : ∃ K1, K1 = K ++ [rowE encW 118 R.W 0] := ⟨_, rfl⟩
    rw [← eK1, ← enw] at hap
    have y1 : Ext K K1 := by rw [eK1]; exact .app .refl
    have k1 : K1.length = K.length + 1 := by rw [eK1]; simp
    have gr1 : K1[K.length]? = some (rowE encW 118 R.W 0) := by rw [eK1]; exact get_eq rfl
    obtain ⟨K2, eK2⟩ : ∃ K2, K2 = K1 ++ [rrbB R.L fv (.slice (some ⟨K.length, 0, 0⟩) nw nw)] := ⟨_, rfl⟩
    have y2 : Ext K1 K2 := by rw [eK2]; exact .app .refl
    have k2 : K2.length = K.length + 2 := by rw [eK2]; simp [k1]
    have gr2 := y2.get gr1
    have gb2 : K2[K1.length]? = some (rrbB R.L fv (.slice (some ⟨K.length, 0, 0⟩) nw nw)) := by rw [eK2]; exact get_eq rfl
    have iR2 : Rows encW K2 (.slice (some ⟨K.length, 0, 0⟩) nw nw) R.W := Rows.own gr2 enw (by omega)
    have b1 := rwn_ad iR2 hk
    have b2 := rwn_f1 iR2 hk
    have st1 : ∀ (F : ABlk → Heap), stQ h.length K.length (some (rowE encW 118 R.W 0)) 0 (k * 5 + 1) [.int .i64 p] F = some (F (rowE encW 118 (R.W.set k (wPr w p)) 0)) := fun F =>
      stQ_cellE (E := encW) (e := 118) (i := k) (o := 1) (y := wPr w p) (a := .int .i64 p) (base := h.length) (id := K.length) (ver := 0) (K := F) hwk (by decide) rfl rfl (by omega)
    obtain ⟨K3, eK3⟩ : ∃ K3, K3 = K2.set K.length (rowE encW 118 (R.W.set k (wPr w p)) 0) := ⟨_, rfl⟩
    have xK3 : Ext K K3 := by rw [eK3]; exact (y1.trans y2).set (Nat.le_refl _)
    have gr3 : K3[K.length]? = some (rowE encW 118 (R.W.set k (wPr w p)) 0) := by rw [eK3, List.getElem?_set_self (by omega)]
    have gb3 : K3[K1.length]? = some (rrbB R.L fv (.slice (some ⟨K.length, 0, 0⟩) nw nw)) := by rw [eK3, List.getElem?_set_ne (by omega)]; exact gb2
    have ers := prc_set (p := p) hwk
    have hRp := hR.prc (k := k) hp
    have x3 := xh.trans xK3
    have hA3 : RibAt K3 (.agg [.int .i64 R.L, fv, .slice (some ⟨K.length, 0, 0⟩) nw nw]) (prcR R k p) := by
      rw [ers]
      exact ⟨fv, _, rfl, hF.ext x3, Rows.own gr3 (by rw [List.length_set]; exact enw) (by rw [List.length_set]; omega)⟩
    have hus := fun base => run_ruses (base := base) (k := (k : Int)) hA3 hRp
    have hrs : rseN R k (N - i) p = if (k : Int) ∈ usdL (prcR R k p) then some p else rseN R k (N - (i + 1)) (p + 1) := by
      rw [show N - i = (N - (i + 1)) + 1 by omega, rseN]
    have hlow : refsLow K.length fv := hF.lowR xh
    unfold rrbB at eK2 gb2 gb3
    have hsp := @Nat.succ_ne_zero; repeat' (first | simp (disch := first | exact dschN49 | fail) only [go_sem, ↓reduceIte, hsp, r6, q1, q2, hle] | refine WP_drw ?_ | refine cnd_intro (fun hsp => ?_) fun hsp => ?_)
    refine WPS_go ?_
    refine WP_loose [⟨1, 3, 18, ⟨h.length, 0, 0⟩, .int .i64 R.L, 10⟩, ⟨3, 22, 20, ⟨h.length, 0, 1⟩, fv, 10⟩] (by kernel_rfl) (by kernel_rfl) ⟨refsLow_int, hlow, trivial⟩ fun KK hK => ?_
    have g0K1 := y1.get g0K
    have g0Kz : ∀ z, (K1 ++ [z])[h.length]? = _ := fun z => get_app (T := [z]) g0K1
    have g0K2 := y2.get g0K1
    iterate 11
      rw [TRS_cons]
      refine ⟨by first | (simp (disch := first | exact dschN49 | fail) only [go_sem, ↓reduceIte, r6, q1, q2, g0K, hbe, hap, g0K1, g0Kz, ← eK2, g0K2, ldsQ_cons, ldsQ_nil, grdQ_cons, grdQ_nil, if_true, Nat.reduceLeDiff]; done) | exact trivial, ?_⟩
      simp (disch := first | exact dschN49 | fail) only [go_sem, ↓reduceIte, r6, q1, q2, g0K, hbe, hap, g0K1, g0Kz, ← eK2, g0K2]
    rw [TRS_nil]
    refine ⟨by first | (simp (disch := first | exact dschN49 | fail) only [go_sem, ↓reduceIte, r6, q1, q2, g0K, hbe, hap, g0K1, g0Kz, ← eK2, g0K2, ldsQ_cons, ldsQ_nil, grdQ_cons, grdQ_nil, if_true, Nat.reduceLeDiff]; done) | exact trivial, ?_⟩
    subst hK
    by_cases c1 : (k : Int) ∈ usN (prcR R k p) (prcR R k p).L.toNat
    · rw [decide_eq_true c1] at hus
      rw [if_pos ((usdL_mem hRp).2 c1), hz] at hrs
      rw [hrs]
      have hsp := @Nat.succ_ne_zero; repeat' (first | simp (disch := first | exact dschN49 | fail) only [go_sem, ↓reduceIte, hsp, r6, q1, q2, gb2, gr2, st1, ← eK3, gb3, hus] | refine WP_drw ?_ | refine cnd_intro (fun hsp => ?_) fun hsp => ?_)
      exact fin_pl rfl rfl x3
    · rw [decide_eq_false c1] at hus
      rw [if_neg (fun q => c1 ((usdL_mem hRp).1 q)), hz] at hrs
      have hsp := @Nat.succ_ne_zero; repeat' (first | simp (disch := first | exact dschN49 | fail) only [go_sem, ↓reduceIte, hsp, r6, q1, q2, gb2, gr2, st1, ← eK3, gb3, hus] | refine WP_drw ?_ | refine cnd_intro (fun hsp => ?_) fun hsp => ?_)
      exact ⟨by (repeat first | exact Agree.refl | assumption | refine Agree.put rfl ?_ | refine Agree.put0 ?_ | refine Agree.sub rfl (by assumption) ?_), by omega, xK.trans xK3, by rw [hrs, show w.pr + ((i + 1 : Nat) : Int) = p + 1 by omega]⟩
  · rintro fr K hAg ⟨r6, xK, hz⟩
    have q1 := hAg 1 rfl
    have q2 := hAg 2 rfl
    try simp (disch := first | exact dschN49 | fail) only [go_sem, ↓reduceIte] at q1 q2
    have hle : (w.pr + (N : Int) ≤ 100) = False := eq_false (by omega)
    rw [Nat.sub_self, rseN] at hz
    rw [← hz]
    have hsp := @Nat.succ_ne_zero; repeat' (first | simp (disch := first | exact dschN49 | fail) only [go_sem, ↓reduceIte, hsp, r6, q1, q2, hle] | refine WP_drw ?_ | refine cnd_intro (fun hsp => ?_) fun hsp => ?_)
    exact fin_pl rfl rfl (x0.trans xK)
end Go.AM
