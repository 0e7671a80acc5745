/-
  Contracts: the looms of the examples.
-/
import Derived.Test.YtlhmeoeamcgcmaaGreatG3
import Derived.Test.YtlhmeoeamcgcmaaGreatWJ
import Derived.KernelRfl
set_option linter.unusedSimpArgs false
set_option linter.unusedVariables false
namespace Go.AM
open Go.Proofs.Tryz
theorem dschE31 {p : Prop} (h : p := by first | exact Nat.ne_of_beq_eq_false rfl | assumption | (apply asOne; (first | exact One.int | exact One.bool | assumption | exact Ints.one (by assumption) | exact Rows.one (by assumption) | exact Own.one (by assumption) | exact One.lit ⟨rfl, rfl, rfl⟩)) | (apply asInts; (repeat first | assumption | exact ints_nil | apply Ints.app); done) | (apply asRows; (repeat first | assumption | exact Rows.nil | apply Rows.app); done) | (apply asScal; (first | apply allS1 | apply allS2 | apply allS3 | apply allS4) <;> (first | exact One.int | exact One.bool | assumption | exact Ints.one (by assumption) | exact Rows.one (by assumption) | exact Own.one (by assumption) | exact One.lit ⟨rfl, rfl, rfl⟩)) | exact litT rfl | exact litF rfl | omega | (simp only [List.length_append, List.length_cons, List.length_nil, List.length_set, List.length_reverse]; first | done | omega) | fail) : p := h
attribute [-go_sem] put_ne put_same
attribute [local go_sem ↓] put_if
section
variable {lit : Bool} {H : Heap} {a b c : Int}
theorem bs2 (hl : lit = false) : bsA prog lit H 36 2 [(0, .int .i64 a), (1, .int .i64 b)] = some (.slice (some ⟨H.length, 0, 0⟩) 2 2, H ++ [rowB [a, b] 0]) := by
  subst hl; simp [bsA, rowOf, Fc.el36, fillA, repCells, AVal.isN, AVal.cells, splice, rowB, ints]
theorem bs3 (hl : lit = false) : bsA prog lit H 36 3 [(0, .int .i64 a), (1, .int .i64 b), (2, .int .i64 c)] = some (.slice (some ⟨H.length, 0, 0⟩) 3 3, H ++ [rowB [a, b, c] 0]) := by
  subst hl; simp [bsA, rowOf, Fc.el36, fillA, repCells, AVal.isN, AVal.cells, splice, rowB, ints]
theorem bsS1 {s : Sgt} : bsA prog lit H 23 1 [(0, .agg (encS.cells s))] = some (.slice (some ⟨H.length, 0, 0⟩) 1 1, H ++ [rowE encS 56 [s] 0]) := by
  simp [bsA, rowOf, Fc.el23, fillA, repCells, AVal.isN, AVal.cells, splice, rowE, flat, encS]
theorem bsS2 {s t : Sgt} : bsA prog lit H 23 2 [(0, .agg (encS.cells s)), (1, .agg (encS.cells t))] = some (.slice (some ⟨H.length, 0, 0⟩) 2 2, H ++ [rowE encS 56 [s, t] 0]) := by
  simp [bsA, rowOf, Fc.el23, fillA, repCells, AVal.isN, AVal.cells, splice, rowE, flat, encS]
theorem bsS4 {s t u w : Sgt} : bsA prog lit H 23 4 [(0, .agg (encS.cells s)), (1, .agg (encS.cells t)), (2, .agg (encS.cells u)), (3, .agg (encS.cells w))] = some (.slice (some ⟨H.length, 0, 0⟩) 4 4, H ++ [rowE encS 56 [s, t, u, w] 0]) := by
  simp [bsA, rowOf, Fc.el23, fillA, repCells, AVal.isN, AVal.cells, splice, rowE, flat, encS]
theorem bsP3 {p q r : PrtV} : bsA prog lit H 22 3 [(0, .agg (encP.cells p)), (1, .agg (encP.cells q)), (2, .agg (encP.cells r))] = some (.slice (some ⟨H.length, 0, 0⟩) 3 3, H ++ [rowE encP 81 [p, q, r] 0]) := by
  simp [bsA, rowOf, Fc.el22, fillA, repCells, AVal.isN, AVal.cells, splice, rowE, flat, encP]
end
/-- Nothing is appended. -/
theorem app_nil {α : Type} {E : Enc α} {e t : TypeId} {b base : Nat} {h : Heap} {v x : AVal} {l : List α} {zs : List AVal} (hO : Own E e b h v l) (hR : Rows E h x []) (ht : elS prog t = some (e, E.z, zs)) (hb : base ≤ b) : appendA prog base h t v x = some (v, h) := by
  have h1 := hR.lenA
  have h2 := hR.firstN
  simp only [flat_nil, List.length_nil] at h1 h2
  rcases hO with ⟨rfl, rfl⟩ | ⟨id, ver, rfl, g1, g2, g3⟩
  · simp only [appendA, ht, h1, h2, List.all_nil, if_true]
  · simp only [appendA, ht, h1, h2, List.all_nil, if_true, Nat.add_zero, Nat.le_refl, storeN, ARef.add, g1, rowE, flat_len, Nat.zero_add, List.length_nil, true_or, and_self, true_and, or_true]
    have eS : splice (flat E l) (l.length * E.z) [] = flat E l := by simp [splice]
    rw [eS]
    obtain ⟨hid, hg⟩ := List.getElem?_eq_some_iff.1 g1
    have e2 : h.set id ⟨.cells (flat E l) e true false, ver⟩ = h := by
      rw [show (⟨.cells (flat E l) e true false, ver⟩ : ABlk) = h[id] from hg.symm, List.set_getElem_self]
    simp [e2]
/-- Rows are appended to the last block. -/
theorem app_lastE {α : Type} {E : Enc α} {e t : TypeId} {n k base : Nat} {A : Heap} {x : AVal} {l m : List α} {zs : List AVal} (hn : n = A.length) (hk : k = l.length) (hR : Rows E A x m) (hm : m ≠ []) (hl : l ≠ []) (hs : ∀ y, (E.cells y).all AVal.scalar = true) (ht : elS prog t = some (e, E.z, zs)) (hb : base ≤ A.length) (hsz : l.length + m.length < 2147483648) :
    appendA prog base (A ++ [rowE E e l 0]) t (.slice (some ⟨n, 0, 0⟩) k k) x = some (.slice (some ⟨A.length, 1, 0⟩) (l.length + m.length) (l.length + m.length), A ++ [rowE E e (l ++ m) 1]) := by
  subst hn hk
  have hml : m.length ≠ 0 := fun q => hm (List.eq_nil_of_length_eq_zero q)
  have hll : l.length ≠ 0 := fun q => hl (List.eq_nil_of_length_eq_zero q)
  have hR' := hR.app (T := [rowE E e l 0])
  simp only [appendA, ht, hR'.lenA, hR'.firstN, flat_scalar hs, if_true]
  rw [if_neg (by omega), List.getElem?_append_right (Nat.le_refl _), Nat.sub_self, List.getElem?_cons_zero]
  simp only [rowE, flat_len]
  rw [if_pos ⟨trivial, trivial, trivial, trivial, show l.length + m.length < 2 ^ 31 by omega, by omega, .inl hb⟩, List.take_of_length_le (by rw [flat_len]; exact Nat.le_refl _), ← flat_app, List.set_append_right _ _ (Nat.le_refl _), Nat.sub_self]
  rfl
theorem run_sgt {base : Nat} {h : Heap} {r lo hi : Int} {b : Bool} : callL prog raw base (.fn 54 [] []) [.int .i64 r, .int .i64 lo, .int .i64 hi, .bool b] h = some (.agg (encS.cells ⟨r, lo, hi, b⟩), h) := by
  refine callL_run func54 rfl rfl ?_
  have hsp := @Nat.succ_ne_zero; repeat' (first | simp (disch := first | exact dschE31 | fail) only [go_sem, ↓reduceIte, hsp] | refine WP_drw ?_ | refine cnd_intro (fun hsp => ?_) fun hsp => ?_)
  exact fin_pl rfl rfl (.app .refl)
theorem run_thread {base : Nat} {h : Heap} {v : AVal} {w : Bool} (hb : base ≤ h.length) (ho : One v) : callL prog raw base (.fn 57 [] []) [.bool w, v] h = some (.agg (encP.cells ⟨v, 1, 0, w⟩), h ++ [⟨.cells [v, .int .i64 1, .int .i64 0, .bool w] 81 false false, 0⟩]) := by
  simp only [encP, norm_one ho]
  refine callL_raw func57 rfl (by kernel_rfl) ?_
  have hsp := @Nat.succ_ne_zero; repeat' (first | simp (disch := first | exact dschE31 | fail) only [go_sem, ↓reduceIte, hsp] | refine WP_drw ?_ | refine cnd_intro (fun hsp => ?_) fun hsp => ?_)
theorem run_laced {base : Nat} {h : Heap} {v : AVal} {a b : Int} (hb : base ≤ h.length) (ho : One v) : callL prog raw base (.fn 115 [] []) [.int .i64 a, .int .i64 b, v] h = some (.agg (encP.cells ⟨v, a, b, false⟩), h ++ [⟨.cells [v, .int .i64 a, .int .i64 b, .bool false] 81 false false, 0⟩]) := by
  simp only [encP, norm_one ho]
  refine callL_raw func115 rfl (by kernel_rfl) ?_
  have hsp := @Nat.succ_ne_zero; repeat' (first | simp (disch := first | exact dschE31 | fail) only [go_sem, ↓reduceIte, hsp] | refine WP_drw ?_ | refine cnd_intro (fun hsp => ?_) fun hsp => ?_)
/-- The loom of the examples. -/
def threeL (more : List Sgt) : Lom := ⟨3, 8, [⟨[0], 1, 0, false⟩, ⟨[1, 2], 1, 0, true⟩, ⟨[0, 1, 2], 4, 2, false⟩], [⟨0, 2, 3, true⟩, ⟨1, 0, 1, false⟩, ⟨1, 2, 4, true⟩, ⟨2, 3, 5, false⟩] ++ more⟩
theorem sm1 : Small [0] := ⟨by simp, by simp⟩
theorem sm2 : Small [1, 2] := ⟨by simp, by simp⟩
theorem sm3 : Small [0, 1, 2] := ⟨by simp, by simp⟩
def p3V (a b c : AVal) : List PrtV := [⟨a, 1, 0, false⟩, ⟨b, 1, 0, true⟩, ⟨c, 4, 2, false⟩]
theorem parts_three {H : Heap} {pv a b c : AVal} (hR : Rows encP H pv (p3V a b c)) (ha : Ints H a [0]) (hb : Ints H b [1, 2]) (hc : Ints H c [0, 1, 2]) : Parts H pv (threeL []).ps := by
  refine ⟨_, hR, rfl, fun i x p h1 h2 => ?_⟩
  rcases i with _ | _ | _ | i
  · cases h1; cases h2; exact ⟨ha, rfl, rfl, rfl⟩
  · cases h1; cases h2; exact ⟨hb, rfl, rfl, rfl⟩
  · cases h1; cases h2; exact ⟨hc, rfl, rfl, rfl⟩
  · simp [p3V] at h1
abbrev sg4 : List Sgt := [⟨0, 2, 3, true⟩, ⟨1, 0, 1, false⟩, ⟨1, 2, 4, true⟩, ⟨2, 3, 5, false⟩]
set_option maxHeartbeats 1000000 in
theorem run_three {base : Nat} {h : Heap} {mv : AVal} {more : List Sgt} (hb : base ≤ h.length) (hM : Rows encS h mv more) (hl : more.length ≤ 1000) :
    Ret prog raw base (.fn 65 [] []) [mv] h (fun v H => Ext h H ∧ LomAt H v (threeL more)) := by
  have ho := hM.one
  refine ret_raw func65 rfl (by kernel_rfl) ?_
  by_cases c : more = []
  · subst c
    have ha : ∀ {A : Heap} {n : Nat}, n = A.length → base ≤ A.length → Rows encS A mv [] → appendA prog base (A ++ [rowE encS 56 sg4 0]) 23 (.slice (some ⟨n, 0, 0⟩) 4 4) mv = some (.slice (some ⟨n, 0, 0⟩) 4 4, A ++ [rowE encS 56 sg4 0]) := fun {A n} hn hb hR => by
      subst hn
      exact app_nil (l := sg4) (b := A.length) (.inr ⟨A.length, 0, rfl, by simp, Nat.le_refl _, by simp⟩) hR.app Fc.el23 hb
    have hsp := @Nat.succ_ne_zero; repeat' (first | simp (disch := first | exact dschE31 | fail) only [go_sem, ↓reduceIte, hsp, run_sgt, run_thread, run_laced, bs2, bs3, bsP3, bsS4, ha] | refine WP_drw ?_ | refine cnd_intro (fun hsp => ?_) fun hsp => ?_)
    refine ⟨by repeat' first | exact Ext.refl | refine Ext.app ?_, _, _, rfl, ?_, ?_⟩
    · refine parts_three (Rows.own (e := 81) (l := p3V _ _ _) ?_ rfl (by simp [p3V])) (a := .slice (some ⟨h.length + 1, 0, 0⟩) 1 1) (b := .slice (some ⟨h.length + 1 + 1 + 1, 0, 0⟩) 2 2) (c := .slice (some ⟨h.length + 1 + 1 + 1 + 1 + 1, 0, 0⟩) 3 3) ?_ ?_ ?_
      · (repeat' first | exact get_eq (by simp) | refine get_app ?_)
      · repeat' first | exact slice_row (by simp) (by simp) sm1 | refine Ints.app ?_
      · repeat' first | exact slice_row (by simp) (by simp) sm2 | refine Ints.app ?_
      · repeat' first | exact slice_row (by simp) (by simp) sm3 | refine Ints.app ?_
    · refine Rows.own (e := 56) (l := sg4) ?_ rfl (by simp)
      (repeat' first | exact get_eq (by simp) | refine get_app ?_)
  · have hc : 0 < more.length := List.length_pos_iff.2 c
    have ha : ∀ {A : Heap} {n : Nat}, n = A.length → base ≤ A.length → Rows encS A mv more → appendA prog base (A ++ [rowE encS 56 sg4 0]) 23 (.slice (some ⟨n, 0, 0⟩) 4 4) mv = some (.slice (some ⟨A.length, 1, 0⟩) (4 + more.length) (4 + more.length), A ++ [rowE encS 56 (sg4 ++ more) 1]) := fun {A n} hn hb hR =>
      app_lastE (l := sg4) hn rfl hR c (by simp) encS_sc Fc.el23 hb (by simp; omega)
    have hsp := @Nat.succ_ne_zero; repeat' (first | simp (disch := first | exact dschE31 | fail) only [go_sem, ↓reduceIte, hsp, run_sgt, run_thread, run_laced, bs2, bs3, bsP3, bsS4, ha] | refine WP_drw ?_ | refine cnd_intro (fun hsp => ?_) fun hsp => ?_)
    refine ⟨by repeat' first | exact Ext.refl | refine Ext.app ?_, _, _, rfl, ?_, ?_⟩
    · refine parts_three (Rows.own (e := 81) (l := p3V _ _ _) ?_ rfl (by simp [p3V])) (a := .slice (some ⟨h.length + 1, 0, 0⟩) 1 1) (b := .slice (some ⟨h.length + 1 + 1 + 1, 0, 0⟩) 2 2) (c := .slice (some ⟨h.length + 1 + 1 + 1 + 1 + 1, 0, 0⟩) 3 3) ?_ ?_ ?_
      · (repeat' first | exact get_eq (by simp) | refine get_app ?_)
      · repeat' first | exact slice_row (by simp) (by simp) sm1 | refine Ints.app ?_
      · repeat' first | exact slice_row (by simp) (by simp) sm2 | refine Ints.app ?_
      · repeat' first | exact slice_row (by simp) (by simp) sm3 | refine Ints.app ?_
    · refine Rows.own (e := 56) (l := sg4 ++ more) ?_ (by simp; omega) (by simp; omega)
      (repeat' first | exact get_eq (by simp) | refine get_app ?_)
end Go.AM
/-
  The examples of the chapter.
-/
namespace Go.AM
open Go.Proofs.Tryz
theorem dschE32 {p : Prop} (h : p := by first | exact Nat.ne_of_beq_eq_false rfl | assumption | (apply asOne; (first | exact One.int | exact One.bool | assumption | exact Ints.one (by assumption) | exact Rows.one (by assumption) | exact Own.one (by assumption) | exact One.lit ⟨rfl, rfl, rfl⟩)) | (apply asInts; (repeat first | assumption | exact ints_nil | (apply slice_row <;> first | assumption | (first | rfl | (simp only [List.length_append, List.length_cons, List.length_nil, List.length_set]; done) | (simp only [List.length_append, List.length_cons, List.length_nil, List.length_set]; omega))) | apply Ints.app); done) | (apply asRows; (repeat first | assumption | exact Rows.nil | apply Rows.app); done) | (apply asScal; (first | apply allS1 | apply allS2 | apply allS3 | apply allS4) <;> (first | exact One.int | exact One.bool | assumption | exact Ints.one (by assumption) | exact Rows.one (by assumption) | exact Own.one (by assumption) | exact One.lit ⟨rfl, rfl, rfl⟩)) | exact litT rfl | exact litF rfl | omega | (simp only [List.length_append, List.length_cons, List.length_nil, List.length_set, List.length_reverse]; first | done | omega) | fail) : p := h
attribute [-go_sem] put_ne put_same
attribute [local go_sem ↓] put_if
abbrev sgx : Sgt := ⟨0, 2, 2, false⟩
abbrev sgy : Sgt := ⟨2, 2, 2, false⟩
theorem ex1 : fewM (threeL []) = ([(2, 0, 2)], 0) := by kernel_rfl
theorem ex2 : (fewM (threeL [sgx])).2 = 0 ∧ (fewM (threeL [sgx])).1.length = 2 := ⟨by kernel_rfl, by kernel_rfl⟩
theorem ex3 : mstM (threeL [sgx]) = ([0, 1], 0) := by kernel_rfl
theorem ex4 : wvrM (threeL [sgx]) = ([2], 0) := by kernel_rfl
theorem ex5 : sryM (threeL [sgx]) 1 = ([2], 0) := by kernel_rfl
theorem ex6 : canM (threeL [sgx]) 1 = ([2], 0) := by kernel_rfl
theorem ex7 : pckM (threeL [sgx]) = ([0, 2], 0) := by kernel_rfl
theorem ex8 : clsM (threeL [sgx, sgy]) = ([2, 3, 5], 0) := by kernel_rfl
theorem three_ok {more : List Sgt} (h : more.length ≤ 1000) : LomOk (threeL more) := by
  refine ⟨fun p hp => ?_, by simp [threeL], by simp [threeL]; omega, fun p hp => ?_, fun p hp => ?_⟩ <;> simp [threeL] at hp <;> rcases hp with rfl | rfl | rfl
  · exact sm1
  · exact sm2
  · exact sm3
  all_goals simp
theorem sm8 : Small [2] := ⟨by simp, by simp⟩
theorem sm4 : Small [0, 1] := ⟨by simp, by simp⟩
theorem sm5 : Small [0, 2] := ⟨by simp, by simp⟩
theorem sm6 : Small [2, 3, 5] := ⟨by simp, by simp⟩
/-- Own integers that are small. -/
theorem own_ints {b : Nat} {H : Heap} {v : AVal} {l : List Int} (x : Own encI 3 b H v l) (hs : Small l) : Ints H v l := (x.rows (by have := hs.1; omega)).ints hs.2
abbrev lmB (R T : Int) (pv sv : AVal) : ABlk := ⟨.cells [.int .i64 R, .int .i64 T, pv, sv] 25 false false, 0⟩
set_option maxRecDepth 100000 in
set_option maxHeartbeats 4000000 in
theorem run_awake {base : Nat} {h : Heap} : callL prog raw base (.fn 12 [] []) [] h = some (.bool true, h) := by
  have s1 := sm8
  have s2 := sm4
  have s3 := sm5
  have s4 := sm6
  have b0 : h.length ≤ h.length := Nat.le_refl _
  -- the looms
  obtain ⟨v1, H1, e1, y1, l1⟩ := run_three (base := h.length) (h := h ++ [rowE encS 56 [sgx] 0]) (mv := .slice (some ⟨h.length, 0, 0⟩) 1 1) (more := [sgx]) (by simp) (Rows.own (get_eq rfl) rfl (by simp)) (by simp)
  obtain ⟨pv, sv, rfl, hP, hS⟩ := id l1
  have op := hP.one
  have os := hS.one
  have z1 : Ext h (H1 ++ [lmB 3 8 pv sv]) := ((Ext.app .refl).trans y1).trans (.app .refl)
  have l2 := l1.ext (.app (t := [lmB 3 8 pv sv]) .refl)
  obtain ⟨v2, H2, e2, y2, l3⟩ := run_three (base := h.length) (h := H1 ++ [lmB 3 8 pv sv]) (mv := .slice none 0 0) (more := []) z1.len Rows.nil (by simp)
  obtain ⟨w3, H3, e3, y3, u3, rfl, o3⟩ := run_fewest (base := h.length) (z1.trans y2).len l3 (three_ok (by simp))
  rw [ex1] at e3 o3
  have g2 := l2.ext (y2.trans y3)
  obtain ⟨w4, H4, e4, y4, u4, rfl, o4⟩ := run_fewest (base := h.length) ((z1.trans y2).trans y3).len g2 (three_ok (by simp))
  rw [ex2.1] at e4
  have z4 := ((z1.trans y2).trans y3).trans y4
  obtain ⟨w5, H5, e5, y5, u5, rfl, o5⟩ := run_must (base := h.length) z4.len (g2.ext y4) (three_ok (by simp))
  rw [ex3] at e5 o5
  obtain ⟨w6, H6, e6, y6, u6, rfl, o6⟩ := run_weavers (base := h.length) (z4.trans y5).len (g2.ext (y4.trans y5)) (three_ok (by simp))
  rw [ex4] at e6 o6
  have z6 := (z4.trans y5).trans y6
  have g6 := g2.ext ((y4.trans y5).trans y6)
  -- the lists that are compared with
  have k5 := own_ints (o5.ext y6) sm4
  have k6 := own_ints o6 sm8
  have c3 := own_len (o3.ext ((y4.trans y5).trans y6)) Fc.el60 (by simp)
  have c4 := own_len (o4.ext (y5.trans y6)) Fc.el60 (by rw [ex2.2]; simp)
  rw [ex2.2] at c4
  have bk : ∀ {H : Heap}, Ext (H1 ++ [lmB 3 8 pv sv]) H → H[H1.length]? = some ⟨.cells [.int .i64 3, .int .i64 8, pv, sv] 25 false false, 0⟩ := fun {H} e => e.get (get_eq rfl)
  have b3 := bk (y2.trans y3)
  have b4 := bk ((y2.trans y3).trans y4)
  have b5 := bk (((y2.trans y3).trans y4).trans y5)
  have b6 := bk ((((y2.trans y3).trans y4).trans y5).trans y6)
  -- the second half
  have yG : Ext H6 (H6 ++ [rowB [0, 1] 0] ++ [rowB [2] 0]) := .app (.app .refl)
  have zG := z6.trans yG
  have gG := g6.ext yG
  have bG := bk (((((y2.trans y3).trans y4).trans y5).trans y6).trans yG)
  obtain ⟨w7, H7, e7, y7, u7, rfl, o7⟩ := run_surely (base := h.length) (k := 1) zG.len gG (three_ok (by simp))
  rw [ex5] at e7 o7
  have z7 := zG.trans y7
  have b7 := bk ((((((y2.trans y3).trans y4).trans y5).trans y6).trans yG).trans y7)
  obtain ⟨w8, H8, e8, y8, u8, rfl, o8⟩ := run_can (base := h.length) (k := 1) z7.len (gG.ext y7) (three_ok (by simp))
  rw [ex6] at e8 o8
  have z8 := z7.trans y8
  have b8 := bk (((((((y2.trans y3).trans y4).trans y5).trans y6).trans yG).trans y7).trans y8)
  obtain ⟨w9, H9, e9, y9, u9, rfl, o9⟩ := run_packed (base := h.length) z8.len (gG.ext (y7.trans y8)) (three_ok (by simp))
  rw [ex7] at e9 o9
  have z9 := z8.trans y9
  obtain ⟨v10, H10, e10, y10, l10⟩ := run_three (base := h.length) (h := H9 ++ [rowE encS 56 [sgx, sgy] 0]) (mv := .slice (some ⟨H9.length, 0, 0⟩) 2 2) (more := [sgx, sgy]) (by have := z9.len; simp; omega) (Rows.own (get_eq rfl) rfl (by simp)) (by simp)
  have z10 := (z9.trans (.app .refl)).trans y10
  obtain ⟨w11, H11, e11, y11, u11, rfl, o11⟩ := run_clash (base := h.length) z10.len l10 (three_ok (by simp))
  rw [ex8] at e11 o11
  have z11 := z10.trans y11
  have k7 := own_ints (o7.ext ((y8.trans y9).trans ((Ext.app .refl).trans (y10.trans y11)))) sm8
  have k8 := own_ints (o8.ext (y9.trans ((Ext.app .refl).trans (y10.trans y11)))) sm8
  have k9 := own_ints (o9.ext ((Ext.app .refl).trans (y10.trans y11))) sm5
  have k11 := own_ints o11 sm6
  have eR : (threeL [sgx]).R = 3 := rfl
  have eT : (threeL [sgx]).T = 8 := rfl
  have q1 : h.length ≤ H1.length := by have := y1.len; simp only [List.length_append, List.length_cons, List.length_nil] at this; omega
  rw [eR, eT] at e1 e4 e5 e6 e7 e8 e9
  dsimp only at e3 e5 e6 e7 e8 e9 e11 c3 k5 k6 k7 k8 k9 k11
  refine callL_run func12 rfl rfl ?_
  have hsp := @Nat.succ_ne_zero; repeat' (first | simp (disch := first | exact dschE32 | fail) only [go_sem, ↓reduceIte, hsp, run_sgt, bsS1, e1, e2, e3, e4, e5, e6, b3, b4, b5, b6, c3, c4, bG, b7, b8, e7, e8, e9, e10, e11, bsS2, bs2, bs3, run_eqI, eq_self, decide_true, lmB] | refine WP_drw ?_ | refine cnd_intro (fun hsp => ?_) fun hsp => ?_)
  exact fB rfl (z11.trans (.app (.app (.app (.app .refl)))))
end Go.AM
/-
  Contracts: what the statements ask of truths (spoils, bad, lasts, weaver).
-/
namespace Go.AM
open Go.Proofs.Tryz
attribute [-go_sem] put_ne put_same
attribute [local go_sem ↓] put_if
/-- A break spoils a spot of a sight. -/
def splB (L : Lom) (b : Brk) (s : Sgt) : Bool := (spo L b).any (hasB s)
/-- What a sight must be. -/
def sgOk (s : Sgt) : Prop := 0 ≤ s.lo ∧ s.lo ≤ 1000 ∧ -1000 ≤ s.hi ∧ s.hi ≤ 1000
def lmB' (L : Lom) (pv sv : AVal) : ABlk := ⟨.cells [.int .i64 L.R, .int .i64 L.T, pv, sv] 25 false false, 0⟩
def sgB' (s : Sgt) : ABlk := ⟨.cells [.int .i64 s.rib, .int .i64 s.lo, .int .i64 s.hi, .bool s.bad] 56 false false, 0⟩
def badB (L : Lom) (t : List Brk) (s : Sgt) : Bool := t.any fun b => splB L b s
/-! ### lasts -/
def lstB (t : List Brk) (k x : Int) : Bool := t.any fun b => decide (b.1 = k ∧ b.2.1 ≤ x ∧ x ≤ b.2.2)
def wvB (L : Lom) (t : List Brk) (s : Sgt) : Bool := t.any fun b => (prtOf L b).wv && splB L b s
end Go.AM
