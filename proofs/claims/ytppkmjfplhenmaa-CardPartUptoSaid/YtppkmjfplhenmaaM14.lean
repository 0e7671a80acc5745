/-
  The law CardPart.
-/
import Derived.Test.YtppkmjfplhenmaaM0
import Derived.Test.YtppkmjfplhenmaaP5
set_option linter.unusedSimpArgs false
set_option linter.unusedVariables false
namespace Go.AM
open Go.Proofs.Try
theorem dschM14 {p : Prop} (h : p := by first | exact Nat.ne_of_beq_eq_false rfl | assumption | (apply asOne; (first | exact One.int | exact One.bool | exact newV_one | exact nlV_one | exact grV_one | exact cloneV_one | exact takF_one | assumption | exact Ints.one (by assumption) | exact slcV_one (by assumption) | exact Bytes.one (by assumption) | exact One.lit ⟨rfl, rfl, rfl⟩)) | (apply asSp; (repeat first | assumption | apply SpAt.set | (refine SpAt.new ?_ (by (first | rfl | (simp only [List.length_append, List.length_cons, List.length_nil, List.length_set]; done) | (simp only [List.length_append, List.length_cons, List.length_nil, List.length_set]; omega)))) | apply SpAt.app | apply Bytes.app); done) | (apply asBytes; (repeat first | assumption | apply Bytes.app); done) | (apply asInts; first | ((repeat first | assumption | (apply nlV_ints <;> first | assumption | (first | rfl | (simp only [List.length_append, List.length_cons, List.length_nil, List.length_set]; done) | (simp only [List.length_append, List.length_cons, List.length_nil, List.length_set]; omega))) | exact ints_nil | (apply newV_ints' <;> first | assumption | (first | rfl | (simp only [List.length_append, List.length_cons, List.length_nil, List.length_set]; done) | (simp only [List.length_append, List.length_cons, List.length_nil, List.length_set]; omega))) | (apply grV_ints <;> first | assumption | (first | rfl | (simp only [List.length_append, List.length_cons, List.length_nil, List.length_set]; done) | (simp only [List.length_append, List.length_cons, List.length_nil, List.length_set]; omega))) | (apply Ints.slc <;> first | (repeat first | assumption | apply Ints.app); done | omega) | apply Ints.app); done) | ((repeat first | (apply slice_row <;> first | assumption | (first | rfl | (simp only [List.length_append, List.length_cons, List.length_nil, List.length_set]; done) | (simp only [List.length_append, List.length_cons, List.length_nil, List.length_set]; omega))) | apply Ints.app); done)) | (apply asTak; (repeat first | assumption | (refine TakAt.new ?_; (first | rfl | (simp only [List.length_append, List.length_cons, List.length_nil, List.length_set]; done) | (simp only [List.length_append, List.length_cons, List.length_nil, List.length_set]; omega))) | apply TakAt.app); done) | (apply asScal; (first | apply allS1 | apply allS2 | apply allS3 | apply allS4) <;> (first | exact One.int | exact One.bool | exact newV_one | exact nlV_one | exact grV_one | exact cloneV_one | exact takF_one | assumption | exact Ints.one (by assumption) | exact slcV_one (by assumption) | exact Bytes.one (by assumption) | exact One.lit ⟨rfl, rfl, rfl⟩)) | exact litT rfl | exact litF rfl | omega | (simp only [List.length_append, List.length_cons, List.length_nil, lst_len, List.length_set, ints_length, List.length_reverse]; first | done | omega) | fail) : p := h
attribute [-go_sem] put_ne put_same
attribute [local go_sem ↓] put_if


theorem st14 {base : Nat} {l : List Oper} {s : St} {Q : AExit → St → Prop} : WP prog raw base (.region 8 l.toArray true) s Q = WPS prog raw base (.region 8 l.toArray true) s Q := WP_stop
attribute [local go_sem ↓ 3000] st14
set_option maxRecDepth 100000 in
set_option maxHeartbeats 4000000 in
theorem run14 (hA : Awake) {base : Nat} {h : Heap} {v : AVal} {silk : List Int} {x1 x2 : Int} (hB : Bytes h v silk) (hx1 : 0 ≤ x1 ∧ x1 ≤ 255) (hx2 : 0 ≤ x2 ∧ x2 ≤ 255) :
    callL prog raw base (.fn 14 [] []) [v, .int .u8 x1, .int .u8 x2] h = some (.bool true, h) := by
  unfold Awake at hA
  obtain ⟨W, K, S, C, E, hC, hW, hCl, hE1, hE2, hmc⟩ := mc_pkg (silk := silk) (k := 0) (width := 6) (cards := 12) (by omega) (by omega) (by omega)
  have hsC := small_chn hC
  obtain ⟨hw8, hn, hkk, hss, hst, hx⟩ := chkC_ok hC
  have r1 : binA prog .rem 3 (.int .i64 x1) (.int .i64 48) = some (.int .i64 ((x1.toNat % 48 : Nat) : Int)) := remN (n := 48) hx1.1 (by omega)
  have r2 : binA prog .rem 3 (.int .i64 x2) (.int .i64 48) = some (.int .i64 ((x2.toNat % 48 : Nat) : Int)) := remN (n := 48) hx2.1 (by omega)
  have ht := Nat.mod_lt x1.toNat (show 48 > 0 by omega)
  have hk := Nat.mod_lt x2.toNat (show 48 > 0 by omega)
  generalize x1.toNat % 48 = a at *
  generalize x2.toNat % 48 = b at *
  obtain ⟨m, hm⟩ : ∃ m : Nat, min (1 + (a : Int)) (1 + (b : Int)) = m := ⟨(min (1 + (a : Int)) (1 + (b : Int))).toNat, by omega⟩
  obtain ⟨n, hn2⟩ : ∃ n : Nat, max (1 + (a : Int)) (1 + (b : Int)) = n := ⟨(max (1 + (a : Int)) (1 + (b : Int))).toNat, by omega⟩
  have hmn : 1 ≤ m ∧ m ≤ n ∧ n ≤ 48 := by omega
  have e1 : weaveS W C K S m = (W, wov W C K S m, 0) := by
    unfold weaveS; rw [if_neg (by simp [hC]), if_neg (by omega), Int.toNat_natCast]
  have e2 : weaveS W C K S n = (W, wov W C K S n, 0) := by
    unfold weaveS; rw [if_neg (by simp [hC]), if_neg (by omega), Int.toNat_natCast]
  have hP := wov_ok hC (n := m) (by omega)
  have hQ := wov_ok hC (n := n) (by omega)
  have hPl : (wov W C K S m).length = m := by unfold wov; rw [lst_len]
  have hQl : (wov W C K S n).length = n := by unfold wov; rw [lst_len]
  have htk := wov_take (W := W) (K := K) (S := S) (C := C) (n := n) (m := m) (by omega)
  have hf1 := few_part (m := m) hQ (by rw [htk]; exact hP) (by omega)
  rw [htk] at hf1
  have hf2 := few_chain hC (n := n) (by omega)
  have w1 := few_weaves hP
  have w2 := few_weaves hQ
  have ww : weavesS W C K S W (wov W C K S n) = (true, 0) := by
    unfold weavesS
    rw [if_neg (by simp [hC]), if_neg (by simp [hQ]), if_neg (by simp)]
    have := wov_weaves (W := W) (K := K) (S := S) (C := C) (n := n)
    unfold weaveB at this
    rw [this]
  have hgt : ∀ t, t < n → (wov W C K S n).getD t 0 = ((liftN W.toNat C K.toNat S.toNat t : Nat) : Int) := fun t h => wov_get h
  obtain ⟨P, eP⟩ : ∃ P, wov W C K S m = P := ⟨_, rfl⟩
  obtain ⟨Q, eQ⟩ : ∃ Q, wov W C K S n = Q := ⟨_, rfl⟩
  rw [eP] at e1 hP hPl htk hf1 w1
  rw [eQ] at e2 hQ hQl htk hf1 hf2 w2 ww hgt
  have hsP := small_of hP
  have hsQ := small_of hQ
  have f1 := few_eq hP
  have f2 := few_eq hQ
  have l1 := few_len hP
  have l2 := few_len hQ
  have d1 := fewest_bd hP
  have d2 := fewest_bd hQ
  have m1 := small_take (n := (fewestS W.toNat P).2.1.toNat) hsP
  have m2 := small_take (n := (fewestS W.toNat Q).2.1.toNat) hsQ
  have hneP : P ≠ [] := by rintro rfl; simp at hPl; omega
  have hneQ : Q ≠ [] := by rintro rfl; simp at hQl; omega
  have n1 : ∀ {n : Nat}, nlV n P = .slice (some ⟨n, 0, 0⟩) P.length P.length := fun {n} => nlV_ne hneP
  have n2 : ∀ {n : Nat}, nlV n Q = .slice (some ⟨n, 0, 0⟩) Q.length Q.length := fun {n} => nlV_ne hneQ
  have n3 : newH P = [rowB P 0] := newH_ne hneP
  have n4 : newH Q = [rowB Q 0] := newH_ne hneQ
  refine callL_run func14 rfl rfl ?_
  have hsp := @Nat.succ_ne_zero; repeat' (first | simp (disch := first | exact Nat.ne_of_beq_eq_false rfl | assumption | exact dschM14 | fail) only [go_sem, ↓reduceIte, hsp, chn, pap, run32, hmc, cvt53, r1, r2, hm, hn2, e1, e2, f1, f2, n1, n2, n3, n4] | refine WP_draw (by kernel_rfl) ?_ | refine cnd_intro (fun hsp => ?_) (fun hsp => ?_))
  refine WPS_rest fun F G eF eG => ?_
  refine WP_draw (by kernel_rfl) ?_
  have kF7 := congrFun eF 7; (try simp (disch := first | exact Nat.ne_of_beq_eq_false rfl | assumption | exact dschM14 | fail) only [go_sem, ↓reduceIte] at kF7)
  have kF10 := congrFun eF 10; (try simp (disch := first | exact Nat.ne_of_beq_eq_false rfl | assumption | exact dschM14 | fail) only [go_sem, ↓reduceIte] at kF10)
  have kF11 := congrFun eF 11; (try simp (disch := first | exact Nat.ne_of_beq_eq_false rfl | assumption | exact dschM14 | fail) only [go_sem, ↓reduceIte] at kF11)
  have kF12 := congrFun eF 12; (try simp (disch := first | exact Nat.ne_of_beq_eq_false rfl | assumption | exact dschM14 | fail) only [go_sem, ↓reduceIte] at kF12)
  have kF13 := congrFun eF 13; (try simp (disch := first | exact Nat.ne_of_beq_eq_false rfl | assumption | exact dschM14 | fail) only [go_sem, ↓reduceIte] at kF13)
  have kF14 := congrFun eF 14; (try simp (disch := first | exact Nat.ne_of_beq_eq_false rfl | assumption | exact dschM14 | fail) only [go_sem, ↓reduceIte] at kF14)
  have kF15 := congrFun eF 15; (try simp (disch := first | exact Nat.ne_of_beq_eq_false rfl | assumption | exact dschM14 | fail) only [go_sem, ↓reduceIte] at kF15)
  have kF16 := congrFun eF 16; (try simp (disch := first | exact Nat.ne_of_beq_eq_false rfl | assumption | exact dschM14 | fail) only [go_sem, ↓reduceIte] at kF16)
  have kF17 := congrFun eF 17; (try simp (disch := first | exact Nat.ne_of_beq_eq_false rfl | assumption | exact dschM14 | fail) only [go_sem, ↓reduceIte] at kF17)
  have kF18 := congrFun eF 18; (try simp (disch := first | exact Nat.ne_of_beq_eq_false rfl | assumption | exact dschM14 | fail) only [go_sem, ↓reduceIte] at kF18)
  have kF19 := congrFun eF 19; (try simp (disch := first | exact Nat.ne_of_beq_eq_false rfl | assumption | exact dschM14 | fail) only [go_sem, ↓reduceIte] at kF19)
  have gF7 := congrArg (fun X => atP X (F 7)) eG; (try simp only [kF7, atP_ptr] at gF7); (try simp (disch := first | exact Nat.ne_of_beq_eq_false rfl | assumption | exact dschM14 | fail) only [go_sem, ↓reduceIte] at gF7)
  have gF12 := congrArg (fun X => atP X (F 12)) eG; (try simp only [kF12, atP_ptr] at gF12); (try simp (disch := first | exact Nat.ne_of_beq_eq_false rfl | assumption | exact dschM14 | fail) only [go_sem, ↓reduceIte] at gF12)
  have gF14 := congrArg (fun X => atP X (F 14)) eG; (try simp only [kF14, atP_ptr] at gF14); (try simp (disch := first | exact Nat.ne_of_beq_eq_false rfl | assumption | exact dschM14 | fail) only [go_sem, ↓reduceIte] at gF14)
  have gF16 := congrArg (fun X => atP X (F 16)) eG; (try simp only [kF16, atP_ptr] at gF16); (try simp (disch := first | exact Nat.ne_of_beq_eq_false rfl | assumption | exact dschM14 | fail) only [go_sem, ↓reduceIte] at gF16)
  have gF18 := congrArg (fun X => atP X (F 18)) eG; (try simp only [kF18, atP_ptr] at gF18); (try simp (disch := first | exact Nat.ne_of_beq_eq_false rfl | assumption | exact dschM14 | fail) only [go_sem, ↓reduceIte] at gF18)
  have lG := congrArg List.length eG; (try simp (disch := first | exact Nat.ne_of_beq_eq_false rfl | assumption | exact dschM14 | fail) only [go_sem, ↓reduceIte] at lG)
  have xG : Ext h G := by rw [eG]; repeat' first | exact Ext.refl | refine Ext.app ?_
  obtain ⟨a7, k7, V7, g7, i7⟩ : ∃ a, F 7 = .ptr (some ⟨a, 0, 0⟩) ∧ ∃ V, G[a]? = some ⟨.cells [.int .i64 W, V, .int .i64 K, .int .i64 S] 34 false false, 0⟩ ∧ Ints G V (C) := ⟨_, kF7, _, gF7, by rw [eG]; exact dschM14⟩
  have b7 := lt_of_get g7; clear kF7 gF7
  obtain ⟨a12, k12, V12, g12, i12⟩ : ∃ a, F 12 = .ptr (some ⟨a, 0, 0⟩) ∧ ∃ V, G[a]? = some ⟨.cells [.int .i64 W, V] 24 false false, 0⟩ ∧ Ints G V (P) := ⟨_, kF12, _, gF12, by rw [eG]; exact dschM14⟩
  have b12 := lt_of_get g12; clear kF12 gF12
  obtain ⟨a14, k14, V14, g14, i14⟩ : ∃ a, F 14 = .ptr (some ⟨a, 0, 0⟩) ∧ ∃ V, G[a]? = some ⟨.cells [.int .i64 W, V] 24 false false, 0⟩ ∧ Ints G V (Q) := ⟨_, kF14, _, gF14, by rw [eG]; exact dschM14⟩
  have b14 := lt_of_get g14; clear kF14 gF14
  obtain ⟨a16, k16, V16, g16, i16⟩ : ∃ a, F 16 = .ptr (some ⟨a, 0, 0⟩) ∧ ∃ V, G[a]? = some ⟨.cells [.int .i64 W, V, .int .i64 (fewestS W.toNat P).1, .int .i64 (fewestS W.toNat P).2.2] 34 false false, 0⟩ ∧ Ints G V (P.take (fewestS W.toNat P).2.1.toNat) := ⟨_, kF16, _, gF16, by rw [eG]; exact dschM14⟩
  have b16 := lt_of_get g16; clear kF16 gF16
  obtain ⟨a18, k18, V18, g18, i18⟩ : ∃ a, F 18 = .ptr (some ⟨a, 0, 0⟩) ∧ ∃ V, G[a]? = some ⟨.cells [.int .i64 W, V, .int .i64 (fewestS W.toNat Q).1, .int .i64 (fewestS W.toNat Q).2.2] 34 false false, 0⟩ ∧ Ints G V (Q.take (fewestS W.toNat Q).2.1.toNat) := ⟨_, kF18, _, gF18, by rw [eG]; exact dschM14⟩
  have b18 := lt_of_get g18; clear kF18 gF18
  clear eG lG eF
  have hG := xG.len
  have z0 : ((m : Int) = m) = True := eq_true rfl
  have hPl' : (P.length : Int) = m := by omega
  have hQl' : (Q.length : Int) = n := by omega
  have c1 : ((fewestS W.toNat P).2.1 > (fewestS W.toNat Q).2.1) = False := eq_false (by omega)
  have c2 : ((fewestS W.toNat Q).2.1 > (C.length : Int)) = False := eq_false (by omega)
  have hsl : sliceA prog 22 V14 none (some (.int .i64 (m : Int))) none = some (slcV V14 0 m) := by
    have := sl22h (h := G) (n := (m : Int)) (by omega) i14 (by omega)
    rwa [Int.toNat_natCast] at this
  have hisl : Ints G (slcV V14 0 m) P := by
    have := Ints.slc i14 (Nat.zero_le _) (show m ≤ Q.length by omega)
    rwa [List.drop_zero, htk] at this
  have hsp := @Nat.succ_ne_zero; repeat' (first | simp (disch := first | exact Nat.ne_of_beq_eq_false rfl | assumption | exact dschM14 | fail) only [go_sem, ↓reduceIte, hsp, chn, pap, k7, kF10, kF11, k12, kF13, k14, kF15, k16, kF17, k18, kF19, g7, g12, g14, g16, g18, g7, g12, g14, g16, g18, hPl', hQl', l1, l2, c1, c2, hsl, run41, eq_self, decide_true, if_true, Bool.false_eq_true] | refine WP_draw (by kernel_rfl) ?_ | refine cnd_intro (fun hsp => ?_) (fun hsp => ?_))
  refine WP_count [(20, 21), (121, 131)] 0 n (Nat.zero_le _) (fun H i fr h => fr 121 = .int .i64 (i : Int) ∧ h = H) ?_ ?_ ?_
  · exact ⟨by (simp (disch := first | exact Nat.ne_of_beq_eq_false rfl | assumption | exact dschM14 | fail) only [go_sem, ↓reduceIte, Int.natCast_zero]; first | done | rfl), rfl⟩
  · rintro i fr H hi0 hi hG1 ⟨r121, rfl⟩
    have p7 := hG1 7 rfl; (try simp (disch := first | exact Nat.ne_of_beq_eq_false rfl | assumption | exact dschM14 | fail) only [go_sem, ↓reduceIte, k7] at p7)
    have p14 := hG1 14 rfl; (try simp (disch := first | exact Nat.ne_of_beq_eq_false rfl | assumption | exact dschM14 | fail) only [go_sem, ↓reduceIte, k14] at p14)
    have p119 := hG1 119 rfl; (try simp (disch := first | exact Nat.ne_of_beq_eq_false rfl | assumption | exact dschM14 | fail) only [go_sem, ↓reduceIte] at p119)
    have p120 := hG1 120 rfl; (try simp (disch := first | exact Nat.ne_of_beq_eq_false rfl | assumption | exact dschM14 | fail) only [go_sem, ↓reduceIte] at p120)
    have hlt : ((i : Int) < (n : Int)) = True := eq_true (by omega)
    have hlq : (i : Int) < Q.length := by omega
    have hin : 0 ≤ (i : Int) ∧ (i : Int) ≤ 10000000 := by omega
    have hge := hgt i hi
    have hsp := @Nat.succ_ne_zero; repeat' (first | simp (disch := first | exact Nat.ne_of_beq_eq_false rfl | assumption | exact dschM14 | fail) only [go_sem, ↓reduceIte, hsp, chn, pap, r121, p7, p14, p119, p120, g7, g14, hlt, hge, eq_self, Int.toNat_natCast] | refine WP_draw (by kernel_rfl) ?_ | refine cnd_intro (fun hsp => ?_) (fun hsp => ?_))
    first | exact ⟨by (repeat first | exact Agree.refl | assumption | refine Agree.put rfl ?_ | refine Agree.put0 ?_ | refine Agree.sub rfl (by assumption) ?_), by first | rfl | omega | (simp (disch := first | exact Nat.ne_of_beq_eq_false rfl | assumption | exact dschM14 | fail) only [go_sem, ↓reduceIte, Int.natCast_zero]; first | done | rfl)⟩ | exact ⟨by (repeat first | exact Agree.refl | assumption | refine Agree.put rfl ?_ | refine Agree.put0 ?_ | refine Agree.sub rfl (by assumption) ?_), by first | rfl | omega | (simp (disch := first | exact Nat.ne_of_beq_eq_false rfl | assumption | exact dschM14 | fail) only [go_sem, ↓reduceIte, Int.natCast_zero]; first | done | rfl), rfl⟩
  · rintro fr H hG1 ⟨r121, rfl⟩
    have p27 := hG1 7 rfl; (try simp (disch := first | exact Nat.ne_of_beq_eq_false rfl | assumption | exact dschM14 | fail) only [go_sem, ↓reduceIte, k7] at p27)
    have p212 := hG1 12 rfl; (try simp (disch := first | exact Nat.ne_of_beq_eq_false rfl | assumption | exact dschM14 | fail) only [go_sem, ↓reduceIte, k12] at p212)
    have p214 := hG1 14 rfl; (try simp (disch := first | exact Nat.ne_of_beq_eq_false rfl | assumption | exact dschM14 | fail) only [go_sem, ↓reduceIte, k14] at p214)
    have p216 := hG1 16 rfl; (try simp (disch := first | exact Nat.ne_of_beq_eq_false rfl | assumption | exact dschM14 | fail) only [go_sem, ↓reduceIte, k16] at p216)
    have p218 := hG1 18 rfl; (try simp (disch := first | exact Nat.ne_of_beq_eq_false rfl | assumption | exact dschM14 | fail) only [go_sem, ↓reduceIte, k18] at p218)
    have p2119 := hG1 119 rfl; (try simp (disch := first | exact Nat.ne_of_beq_eq_false rfl | assumption | exact dschM14 | fail) only [go_sem, ↓reduceIte] at p2119)
    have p2120 := hG1 120 rfl; (try simp (disch := first | exact Nat.ne_of_beq_eq_false rfl | assumption | exact dschM14 | fail) only [go_sem, ↓reduceIte] at p2120)
    have hlt : (((n : Nat) : Int) < (n : Int)) = False := eq_false (by omega)
    have hp1000 : P.length ≤ 1000 := by omega
    have hq1000 : Q.length ≤ 1000 := by omega
    have hsp := @Nat.succ_ne_zero; repeat' (first | simp (disch := first | exact Nat.ne_of_beq_eq_false rfl | assumption | exact dschM14 | fail) only [go_sem, ↓reduceIte, hsp, chn, pap, r121, p27, p212, p214, p216, p218, p2119, p2120, g7, g12, g14, g16, g18, hlt, ww, w1, w2, tupBI, hA, eq_self, decide_true, if_true, Bool.false_eq_true] | refine WP_draw (by kernel_rfl) ?_ | refine cnd_intro (fun hsp => ?_) (fun hsp => ?_))
    exact fin_pl rfl rfl (by repeat' first | exact xG | refine Ext.app ?_)
end Go.AM
