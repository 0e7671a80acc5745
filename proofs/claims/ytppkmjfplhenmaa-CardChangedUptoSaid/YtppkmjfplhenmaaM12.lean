/-
  The law CardChanged.
-/
import Derived.Test.YtppkmjfplhenmaaM0
import Derived.Test.YtppkmjfplhenmaaP4
set_option linter.unusedSimpArgs false
set_option linter.unusedVariables false
namespace Go.AM
open Go.Proofs.Try
theorem dschM12 {p : Prop} (h : p := by first | exact Nat.ne_of_beq_eq_false rfl | assumption | (apply asOne; (first | exact One.int | exact One.bool | exact newV_one | exact nlV_one | exact grV_one | exact cloneV_one | exact takF_one | assumption | exact Ints.one (by assumption) | exact slcV_one (by assumption) | exact Bytes.one (by assumption) | exact One.lit ⟨rfl, rfl, rfl⟩)) | (apply asSp; (repeat first | assumption | apply SpAt.set | (refine SpAt.new ?_ (by (first | rfl | (simp only [List.length_append, List.length_cons, List.length_nil, List.length_set]; done) | (simp only [List.length_append, List.length_cons, List.length_nil, List.length_set]; omega)))) | apply SpAt.app | apply Bytes.app); done) | (apply asBytes; (repeat first | assumption | apply Bytes.app); done) | (apply asInts; first | ((repeat first | assumption | (apply nlV_ints <;> first | assumption | (first | rfl | (simp only [List.length_append, List.length_cons, List.length_nil, List.length_set]; done) | (simp only [List.length_append, List.length_cons, List.length_nil, List.length_set]; omega))) | exact ints_nil | (apply newV_ints' <;> first | assumption | (first | rfl | (simp only [List.length_append, List.length_cons, List.length_nil, List.length_set]; done) | (simp only [List.length_append, List.length_cons, List.length_nil, List.length_set]; omega))) | (apply grV_ints <;> first | assumption | (first | rfl | (simp only [List.length_append, List.length_cons, List.length_nil, List.length_set]; done) | (simp only [List.length_append, List.length_cons, List.length_nil, List.length_set]; omega))) | (apply Ints.slc <;> first | (repeat first | assumption | apply Ints.app); done | omega) | apply Ints.app); done) | ((repeat first | (apply slice_row <;> first | assumption | (first | rfl | (simp only [List.length_append, List.length_cons, List.length_nil, List.length_set]; done) | (simp only [List.length_append, List.length_cons, List.length_nil, List.length_set]; omega))) | apply Ints.app); done)) | (apply asTak; (repeat first | assumption | (refine TakAt.new ?_; (first | rfl | (simp only [List.length_append, List.length_cons, List.length_nil, List.length_set]; done) | (simp only [List.length_append, List.length_cons, List.length_nil, List.length_set]; omega))) | apply TakAt.app); done) | (apply asScal; (first | apply allS1 | apply allS2 | apply allS3 | apply allS4) <;> (first | exact One.int | exact One.bool | exact newV_one | exact nlV_one | exact grV_one | exact cloneV_one | exact takF_one | assumption | exact Ints.one (by assumption) | exact slcV_one (by assumption) | exact Bytes.one (by assumption) | exact One.lit ⟨rfl, rfl, rfl⟩)) | exact litT rfl | exact litF rfl | omega | (simp only [List.length_append, List.length_cons, List.length_nil, lst_len, List.length_set, ints_length, List.length_reverse]; first | done | omega) | fail) : p := h
attribute [-go_sem] put_ne put_same
attribute [local go_sem ↓] put_if


theorem st12 {base : Nat} {l : List Oper} {s : St} {Q : AExit → St → Prop} : WP prog raw base (.region 9 l.toArray false) s Q = WPS prog raw base (.region 9 l.toArray false) s Q := WP_stop
attribute [local go_sem ↓ 3000] st12
set_option maxRecDepth 100000 in
set_option maxHeartbeats 4000000 in
theorem run12 (hA : Awake) {base : Nat} {h : Heap} {v : AVal} {silk : List Int} {x1 x2 : Int} (hB : Bytes h v silk) (hx1 : 0 ≤ x1 ∧ x1 ≤ 255) (hx2 : 0 ≤ x2 ∧ x2 ≤ 255) :
    callL prog raw base (.fn 12 [] []) [v, .int .u8 x1, .int .u8 x2] h = some (.bool true, h) := by
  unfold Awake at hA
  obtain ⟨W, K, S, L, C, E, hL, hC, hW, hLl, hCl, hE, hmd⟩ := md_pkg (silk := silk) (k := 0) (width := 4) (cards := 5) (throws := 14) (changed := 2) (by omega) (by omega) (by omega) (by omega) (by omega)
  obtain ⟨hw8, hp, hx⟩ := chk_ok hL
  have hsL := small_of hL
  have hsC := small_chn hC
  obtain ⟨w, rfl⟩ := Int.eq_ofNat_of_zero_le (show 0 ≤ W by omega)
  have r1 := remN (x := x1) (n := L.length) hx1.1 (by omega)
  have r2 := remN (x := x2) (n := w) hx2.1 (by omega)
  have ht := Nat.mod_lt x1.toNat (show L.length > 0 by omega)
  have hk := Nat.mod_lt x2.toNat (show w > 0 by omega)
  generalize x1.toNat % L.length = t at *
  generalize x2.toNat % w = k at *
  have q1 := sqr_iff (t := (t : Int)) (k := (k : Int)) hL (by omega) (by omega)
  have hQ := chg_ok q1
  simp only [Int.toNat_natCast] at hQ
  have e1 : changeS (w : Int) L t k = ((w : Int), chgL L t k, 0) := by unfold changeS; rw [if_neg (by simp [q1])]; simp only [Int.toNat_natCast]
  have b1 := chg_back (l := L) (t := t) (k := k) ht (hx _ (getD_mem ht)).1
  have b2 := chg_ne (l := L) (t := t) (k := k) ht
  have hQl : (chgL L t k).length = L.length := chgL_len
  have e3 : costS (w : Int) L t k = ((fewestS w (chgL L t k)).2.1 - (fewestS w L).2.1, 0) := by unfold costS; rw [if_neg (by simp [q1])]; simp only [Int.toNat_natCast]
  have hball := BP_ball (w := w) (l := L) L.length
  obtain ⟨Q, eQ⟩ : ∃ Q, chgL L t k = Q := ⟨_, rfl⟩
  rw [eQ] at hQ e1 b1 b2 hQl e3
  have q2 := sqr_iff (t := (t : Int)) (k := (k : Int)) hQ (by omega) (by omega)
  have e2 : changeS (w : Int) Q t k = ((w : Int), L, 0) := by unfold changeS; rw [if_neg (by simp [q2])]; simp only [Int.toNat_natCast, b1]
  have e4 : costS (w : Int) Q t k = ((fewestS w L).2.1 - (fewestS w Q).2.1, 0) := by unfold costS; rw [if_neg (by simp [q2])]; simp only [Int.toNat_natCast, b1]
  have hsQ := small_of hQ
  have f1 := few_eq hL
  have f2 := few_eq hQ
  have l1 := few_len hL
  have l2 := few_len hQ
  have m1 := small_take (n := (fewestS (w : Int).toNat L).2.1.toNat) hsL
  have m2 := small_take (n := (fewestS (w : Int).toNat Q).2.1.toNat) hsQ
  simp only [Int.toNat_natCast] at f1 f2 l1 l2 m1 m2
  have d1 := fewest_bd hL
  have d2 := fewest_bd hQ
  simp only [Int.toNat_natCast] at d1 d2
  have hneL : L ≠ [] := by rintro rfl; simp at hp
  have hneQ : Q ≠ [] := by rintro rfl; simp at hQl; omega
  have n1 : ∀ {n : Nat}, nlV n L = .slice (some ⟨n, 0, 0⟩) L.length L.length := fun {n} => nlV_ne hneL
  have n2 : ∀ {n : Nat}, nlV n Q = .slice (some ⟨n, 0, 0⟩) Q.length Q.length := fun {n} => nlV_ne hneQ
  have n3 : newH L = [rowB L 0] := newH_ne hneL
  have n4 : newH Q = [rowB Q 0] := newH_ne hneQ
  refine callL_run func12 rfl rfl ?_
  have hsp := @Nat.succ_ne_zero; repeat' (first | simp (disch := first | exact Nat.ne_of_beq_eq_false rfl | assumption | exact dschM12 | fail) only [go_sem, ↓reduceIte, hsp, chn, pap, run32, hmd, cvt53, r1, r2, e1, e2, e3, e4, f1, f2, n1, n2, n3, n4, tup2] | refine WP_draw (by kernel_rfl) ?_ | refine cnd_intro (fun hsp => ?_) (fun hsp => ?_))
  refine WPS_rest fun F G eF eG => ?_
  rw [WP_region]
  have kF7 := congrFun eF 7; (try simp (disch := first | exact Nat.ne_of_beq_eq_false rfl | assumption | exact dschM12 | fail) only [go_sem, ↓reduceIte] at kF7)
  have kF9 := congrFun eF 9; (try simp (disch := first | exact Nat.ne_of_beq_eq_false rfl | assumption | exact dschM12 | fail) only [go_sem, ↓reduceIte] at kF9)
  have kF10 := congrFun eF 10; (try simp (disch := first | exact Nat.ne_of_beq_eq_false rfl | assumption | exact dschM12 | fail) only [go_sem, ↓reduceIte] at kF10)
  have kF11 := congrFun eF 11; (try simp (disch := first | exact Nat.ne_of_beq_eq_false rfl | assumption | exact dschM12 | fail) only [go_sem, ↓reduceIte] at kF11)
  have kF12 := congrFun eF 12; (try simp (disch := first | exact Nat.ne_of_beq_eq_false rfl | assumption | exact dschM12 | fail) only [go_sem, ↓reduceIte] at kF12)
  have kF13 := congrFun eF 13; (try simp (disch := first | exact Nat.ne_of_beq_eq_false rfl | assumption | exact dschM12 | fail) only [go_sem, ↓reduceIte] at kF13)
  have kF14 := congrFun eF 14; (try simp (disch := first | exact Nat.ne_of_beq_eq_false rfl | assumption | exact dschM12 | fail) only [go_sem, ↓reduceIte] at kF14)
  have kF15 := congrFun eF 15; (try simp (disch := first | exact Nat.ne_of_beq_eq_false rfl | assumption | exact dschM12 | fail) only [go_sem, ↓reduceIte] at kF15)
  have kF16 := congrFun eF 16; (try simp (disch := first | exact Nat.ne_of_beq_eq_false rfl | assumption | exact dschM12 | fail) only [go_sem, ↓reduceIte] at kF16)
  have kF17 := congrFun eF 17; (try simp (disch := first | exact Nat.ne_of_beq_eq_false rfl | assumption | exact dschM12 | fail) only [go_sem, ↓reduceIte] at kF17)
  have kF18 := congrFun eF 18; (try simp (disch := first | exact Nat.ne_of_beq_eq_false rfl | assumption | exact dschM12 | fail) only [go_sem, ↓reduceIte] at kF18)
  have kF19 := congrFun eF 19; (try simp (disch := first | exact Nat.ne_of_beq_eq_false rfl | assumption | exact dschM12 | fail) only [go_sem, ↓reduceIte] at kF19)
  have kF20 := congrFun eF 20; (try simp (disch := first | exact Nat.ne_of_beq_eq_false rfl | assumption | exact dschM12 | fail) only [go_sem, ↓reduceIte] at kF20)
  have kF21 := congrFun eF 21; (try simp (disch := first | exact Nat.ne_of_beq_eq_false rfl | assumption | exact dschM12 | fail) only [go_sem, ↓reduceIte] at kF21)
  have kF22 := congrFun eF 22; (try simp (disch := first | exact Nat.ne_of_beq_eq_false rfl | assumption | exact dschM12 | fail) only [go_sem, ↓reduceIte] at kF22)
  have gF7 := congrArg (fun X => atP X (F 7)) eG; (try simp only [kF7, atP_ptr] at gF7); (try simp (disch := first | exact Nat.ne_of_beq_eq_false rfl | assumption | exact dschM12 | fail) only [go_sem, ↓reduceIte] at gF7)
  have gF11 := congrArg (fun X => atP X (F 11)) eG; (try simp only [kF11, atP_ptr] at gF11); (try simp (disch := first | exact Nat.ne_of_beq_eq_false rfl | assumption | exact dschM12 | fail) only [go_sem, ↓reduceIte] at gF11)
  have gF13 := congrArg (fun X => atP X (F 13)) eG; (try simp only [kF13, atP_ptr] at gF13); (try simp (disch := first | exact Nat.ne_of_beq_eq_false rfl | assumption | exact dschM12 | fail) only [go_sem, ↓reduceIte] at gF13)
  have gF19 := congrArg (fun X => atP X (F 19)) eG; (try simp only [kF19, atP_ptr] at gF19); (try simp (disch := first | exact Nat.ne_of_beq_eq_false rfl | assumption | exact dschM12 | fail) only [go_sem, ↓reduceIte] at gF19)
  have gF21 := congrArg (fun X => atP X (F 21)) eG; (try simp only [kF21, atP_ptr] at gF21); (try simp (disch := first | exact Nat.ne_of_beq_eq_false rfl | assumption | exact dschM12 | fail) only [go_sem, ↓reduceIte] at gF21)
  have lG := congrArg List.length eG; (try simp (disch := first | exact Nat.ne_of_beq_eq_false rfl | assumption | exact dschM12 | fail) only [go_sem, ↓reduceIte] at lG)
  have xG : Ext h G := by rw [eG]; repeat' first | exact Ext.refl | refine Ext.app ?_
  obtain ⟨a7, k7, V7, g7, i7⟩ : ∃ a, F 7 = .ptr (some ⟨a, 0, 0⟩) ∧ ∃ V, G[a]? = some ⟨.cells [.int .i64 (w : Int), V] 24 false false, 0⟩ ∧ Ints G V (L) := ⟨_, kF7, _, gF7, by rw [eG]; exact dschM12⟩
  have b7 := lt_of_get g7; clear kF7 gF7
  obtain ⟨a11, k11, V11, g11, i11⟩ : ∃ a, F 11 = .ptr (some ⟨a, 0, 0⟩) ∧ ∃ V, G[a]? = some ⟨.cells [.int .i64 (w : Int), V] 24 false false, 0⟩ ∧ Ints G V (Q) := ⟨_, kF11, _, gF11, by rw [eG]; exact dschM12⟩
  have b11 := lt_of_get g11; clear kF11 gF11
  obtain ⟨a13, k13, V13, g13, i13⟩ : ∃ a, F 13 = .ptr (some ⟨a, 0, 0⟩) ∧ ∃ V, G[a]? = some ⟨.cells [.int .i64 (w : Int), V] 24 false false, 0⟩ ∧ Ints G V (L) := ⟨_, kF13, _, gF13, by rw [eG]; exact dschM12⟩
  have b13 := lt_of_get g13; clear kF13 gF13
  obtain ⟨a19, k19, V19, g19, i19⟩ : ∃ a, F 19 = .ptr (some ⟨a, 0, 0⟩) ∧ ∃ V, G[a]? = some ⟨.cells [.int .i64 (w : Int), V, .int .i64 (fewestS w L).1, .int .i64 (fewestS w L).2.2] 34 false false, 0⟩ ∧ Ints G V (L.take (fewestS w L).2.1.toNat) := ⟨_, kF19, _, gF19, by rw [eG]; exact dschM12⟩
  have b19 := lt_of_get g19; clear kF19 gF19
  obtain ⟨a21, k21, V21, g21, i21⟩ : ∃ a, F 21 = .ptr (some ⟨a, 0, 0⟩) ∧ ∃ V, G[a]? = some ⟨.cells [.int .i64 (w : Int), V, .int .i64 (fewestS w Q).1, .int .i64 (fewestS w Q).2.2] 34 false false, 0⟩ ∧ Ints G V (Q.take (fewestS w Q).2.1.toNat) := ⟨_, kF21, _, gF21, by rw [eG]; exact dschM12⟩
  have b21 := lt_of_get g21; clear kF21 gF21
  clear eG lG eF
  have hG := xG.len
  have hbq := hball
  clear hball
  have b2' : (Q = L) = False := eq_false b2
  have z1 : ((fewestS w L).2.1 - (fewestS w Q).2.1 = 0 - ((fewestS w Q).2.1 - (fewestS w L).2.1)) = True := eq_true (by omega)
  have z2 : ((6 : Int) = 0) = False := eq_false (by decide)
  rcases hbq with ⟨eb, hb⟩ | ⟨x, y, eb, hxy, hyw, hlt, hmin⟩
  · have e5 : bestS (w : Int) L = (0, 0, 0, 6) := by unfold bestS; rw [if_neg (by simp [hL])]; simp only [Int.toNat_natCast, eb]; simp
    have h1 := hb t k (.inl ht) hk
    rw [eQ] at h1
    have c1 : ((fewestS w Q).2.1 - (fewestS w L).2.1 ≥ 0) = True := eq_true (by omega)
    have hsp := @Nat.succ_ne_zero; repeat' (first | simp (disch := first | exact Nat.ne_of_beq_eq_false rfl | assumption | exact dschM12 | fail) only [go_sem, ↓reduceIte, hsp, chn, pap, run30, k7, kF9, kF10, k11, kF12, k13, kF14, kF15, kF16, kF17, kF18, k19, kF20, k21, kF22, g7, g11, g13, g19, g21, g7, g11, g13, g19, g21, cvt53, e1, e2, e3, e4, f1, f2, l1, l2, b2', z1, z2, tup2, tup4, e5, hA, eq_self, decide_true, if_true, Bool.false_eq_true, Int.natCast_zero, c1] | refine WP_draw (by kernel_rfl) ?_ | refine cnd_intro (fun hsp => ?_) (fun hsp => ?_))
    exact fin_pl rfl rfl (by repeat' first | exact xG | refine Ext.app ?_)
  · have hxl : x < L.length := by omega
    have q3 := sqr_iff (t := (x : Int)) (k := (y : Int)) hL (by omega) (by omega)
    have hR := chg_ok q3
    simp only [Int.toNat_natCast] at hR
    have e6 : changeS (w : Int) L x y = ((w : Int), chgL L x y, 0) := by unfold changeS; rw [if_neg (by simp [q3])]; simp only [Int.toNat_natCast]
    have hRl : (chgL L x y).length = L.length := chgL_len
    have h1 := hmin t k (.inl ht) hk
    rw [eQ] at h1
    obtain ⟨R, eR⟩ : ∃ R, chgL L x y = R := ⟨_, rfl⟩
    rw [eR] at hR e6 hRl eb hlt h1
    have hsR := small_of hR
    have f3 := few_eq hR
    have l3 := few_len hR
    have m3 := small_take (n := (fewestS (w : Int).toNat R).2.1.toNat) hsR
    have d3 := fewest_bd hR
    simp only [Int.toNat_natCast] at f3 l3 m3 d3
    have hneR : R ≠ [] := by rintro rfl; simp at hRl; omega
    have n5 : ∀ {n : Nat}, nlV n R = .slice (some ⟨n, 0, 0⟩) R.length R.length := fun {n} => nlV_ne hneR
    have n6 : newH R = [rowB R 0] := newH_ne hneR
    have e5 : bestS (w : Int) L = ((x : Int), (y : Int), (fewestS w R).2.1, 0) := by unfold bestS; rw [if_neg (by simp [hL])]; simp only [Int.toNat_natCast, eb]; simp
    have c1 : ((fewestS w R).2.1 ≥ (fewestS w L).2.1) = False := eq_false (by omega)
    have c2 : ((fewestS w Q).2.1 < (fewestS w R).2.1) = False := eq_false (by omega)
    have c0 : ((0 : Int) = 6) = False := eq_false (by decide)
    by_cases he : (fewestS w Q).2.1 = (fewestS w R).2.1
    · have h2 := h1.2 he
      have c3 : ((fewestS w Q).2.1 = (fewestS w R).2.1) = True := eq_true he
      have c4 : ((t : Int) < x) = False := eq_false (by omega)
      by_cases hxt : x = t
      · have c5 : ((t : Int) = x) = True := eq_true (by omega)
        have c6 : ((k : Int) < y) = False := eq_false (by omega)
        have hsp := @Nat.succ_ne_zero; repeat' (first | simp (disch := first | exact Nat.ne_of_beq_eq_false rfl | assumption | exact dschM12 | fail) only [go_sem, ↓reduceIte, hsp, chn, pap, run30, k7, kF9, kF10, k11, kF12, k13, kF14, kF15, kF16, kF17, kF18, k19, kF20, k21, kF22, g7, g11, g13, g19, g21, g7, g11, g13, g19, g21, cvt53, e1, e2, e3, e4, f1, f2, l1, l2, b2', z1, z2, tup2, tup4, e5, hA, eq_self, decide_true, if_true, Bool.false_eq_true, Int.natCast_zero, c0, c1, c2, c3, c4, c5, c6, e6, n5, n6, f3, l3] | refine WP_draw (by kernel_rfl) ?_ | refine cnd_intro (fun hsp => ?_) (fun hsp => ?_))
        exact fin_pl rfl rfl (by repeat' first | exact xG | refine Ext.app ?_)
      · have c5 : ((t : Int) = x) = False := eq_false (by omega)
        have hsp := @Nat.succ_ne_zero; repeat' (first | simp (disch := first | exact Nat.ne_of_beq_eq_false rfl | assumption | exact dschM12 | fail) only [go_sem, ↓reduceIte, hsp, chn, pap, run30, k7, kF9, kF10, k11, kF12, k13, kF14, kF15, kF16, kF17, kF18, k19, kF20, k21, kF22, g7, g11, g13, g19, g21, g7, g11, g13, g19, g21, cvt53, e1, e2, e3, e4, f1, f2, l1, l2, b2', z1, z2, tup2, tup4, e5, hA, eq_self, decide_true, if_true, Bool.false_eq_true, Int.natCast_zero, c0, c1, c2, c3, c4, c5, e6, n5, n6, f3, l3] | refine WP_draw (by kernel_rfl) ?_ | refine cnd_intro (fun hsp => ?_) (fun hsp => ?_))
        exact fin_pl rfl rfl (by repeat' first | exact xG | refine Ext.app ?_)
    · have c3 : ((fewestS w Q).2.1 = (fewestS w R).2.1) = False := eq_false he
      have hsp := @Nat.succ_ne_zero; repeat' (first | simp (disch := first | exact Nat.ne_of_beq_eq_false rfl | assumption | exact dschM12 | fail) only [go_sem, ↓reduceIte, hsp, chn, pap, run30, k7, kF9, kF10, k11, kF12, k13, kF14, kF15, kF16, kF17, kF18, k19, kF20, k21, kF22, g7, g11, g13, g19, g21, g7, g11, g13, g19, g21, cvt53, e1, e2, e3, e4, f1, f2, l1, l2, b2', z1, z2, tup2, tup4, e5, hA, eq_self, decide_true, if_true, Bool.false_eq_true, Int.natCast_zero, c0, c1, c2, c3, e6, n5, n6, f3, l3] | refine WP_draw (by kernel_rfl) ?_ | refine cnd_intro (fun hsp => ?_) (fun hsp => ?_))
      exact fin_pl rfl rfl (by repeat' first | exact xG | refine Ext.app ?_)
end Go.AM
