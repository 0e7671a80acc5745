/-
  The law CardFloats.
-/
import Derived.Test.YtppkmjfplhenmaaM0
import Derived.Test.YtppkmjfplhenmaaP6
set_option linter.unusedSimpArgs false
set_option linter.unusedVariables false
namespace Go.AM
open Go.Proofs.Try
theorem dschM6 {p : Prop} (h : p := by first | exact Nat.ne_of_beq_eq_false rfl | assumption | (apply asOne; (first | exact One.int | exact One.bool | exact newV_one | exact nlV_one | exact grV_one | exact cloneV_one | exact takF_one | assumption | exact Ints.one (by assumption) | exact slcV_one (by assumption) | exact Bytes.one (by assumption) | exact One.lit ⟨rfl, rfl, rfl⟩)) | (apply asSp; (repeat first | assumption | apply SpAt.set | (refine SpAt.new ?_ (by (first | rfl | (simp only [List.length_append, List.length_cons, List.length_nil, List.length_set]; done) | (simp only [List.length_append, List.length_cons, List.length_nil, List.length_set]; omega)))) | apply SpAt.app | apply Bytes.app); done) | (apply asBytes; (repeat first | assumption | apply Bytes.app); done) | (apply asInts; first | ((repeat first | assumption | (apply nlV_ints <;> first | assumption | (first | rfl | (simp only [List.length_append, List.length_cons, List.length_nil, List.length_set]; done) | (simp only [List.length_append, List.length_cons, List.length_nil, List.length_set]; omega))) | exact ints_nil | (apply newV_ints' <;> first | assumption | (first | rfl | (simp only [List.length_append, List.length_cons, List.length_nil, List.length_set]; done) | (simp only [List.length_append, List.length_cons, List.length_nil, List.length_set]; omega))) | (apply grV_ints <;> first | assumption | (first | rfl | (simp only [List.length_append, List.length_cons, List.length_nil, List.length_set]; done) | (simp only [List.length_append, List.length_cons, List.length_nil, List.length_set]; omega))) | (apply Ints.slc <;> first | (repeat first | assumption | apply Ints.app); done | omega) | apply Ints.app); done) | ((repeat first | (apply slice_row <;> first | assumption | (first | rfl | (simp only [List.length_append, List.length_cons, List.length_nil, List.length_set]; done) | (simp only [List.length_append, List.length_cons, List.length_nil, List.length_set]; omega))) | apply Ints.app); done)) | (apply asTak; (repeat first | assumption | (refine TakAt.new ?_; (first | rfl | (simp only [List.length_append, List.length_cons, List.length_nil, List.length_set]; done) | (simp only [List.length_append, List.length_cons, List.length_nil, List.length_set]; omega))) | apply TakAt.app); done) | (apply asScal; (first | apply allS1 | apply allS2 | apply allS3 | apply allS4) <;> (first | exact One.int | exact One.bool | exact newV_one | exact nlV_one | exact grV_one | exact cloneV_one | exact takF_one | assumption | exact Ints.one (by assumption) | exact slcV_one (by assumption) | exact Bytes.one (by assumption) | exact One.lit ⟨rfl, rfl, rfl⟩)) | exact litT rfl | exact litF rfl | omega | (simp only [List.length_append, List.length_cons, List.length_nil, lst_len, List.length_set, ints_length, List.length_reverse]; first | done | omega) | fail) : p := h
attribute [-go_sem] put_ne put_same
attribute [local go_sem ↓] put_if


theorem orN (p q : Bool) : binA prog .eql 4 (.bool p) (.bool q) = some (.bool (decide (p = q))) := by cases p <;> cases q <;> kernel_rfl

theorem st6 {base : Nat} {l : List Oper} {s : St} {Q : AExit → St → Prop} : WP prog raw base (.region 4 l.toArray false) s Q = WPS prog raw base (.region 4 l.toArray false) s Q := WP_stop
attribute [local go_sem ↓ 3000] st6
theorem st6b {base : Nat} {l : List Oper} {s : St} {Q : AExit → St → Prop} : WP prog raw base (.region 21 l.toArray false) s Q = WPS prog raw base (.region 21 l.toArray false) s Q := WP_stop
attribute [local go_sem ↓ 3000] st6b
set_option maxRecDepth 100000 in
set_option maxHeartbeats 4000000 in
theorem run6 (hA : Awake) {base : Nat} {h : Heap} {v : AVal} {silk : List Int} {x1 x2 : Int} (hB : Bytes h v silk) (hx1 : 0 ≤ x1 ∧ x1 ≤ 255) (hx2 : 0 ≤ x2 ∧ x2 ≤ 255) :
    callL prog raw base (.fn 6 [] []) [v, .int .u8 x1, .int .u8 x2] h = some (.bool true, h) := by
  unfold Awake at hA
  obtain ⟨W, K, S, C, E, hC, hW, hCl, hE1, hE2, hmc⟩ := mc_pkg (silk := silk) (k := 0) (width := 5) (cards := 8) (by omega) (by omega) (by omega)
  have hsC := small_chn hC
  obtain ⟨hw8, hn, hkk, hss, hst, hx⟩ := chkC_ok hC
  obtain ⟨w, rfl⟩ := Int.eq_ofNat_of_zero_le (show 0 ≤ W by omega)
  have hlst := perN_lst (w := w) (k := K.toNat) (s := S.toNat) (l := C) (by omega) (by omega)
  have hper := lift_per (w := w) (k := K.toNat) (s := S.toNat) (l := C) (by omega)
  have hrb := rndN_bd (k := K.toNat) (n := C.length) (w := w) hn.1 hn.2 (by omega) (by omega)
  have hdv := hlst.dvd hper
  have e1 : perS (w : Int) C K S = (((perN w C K.toNat S.toNat : Nat) : Int), 0) := by unfold perS; rw [if_neg (by simp [hC])]; rfl
  have hrl : rndN K.toNat C.length w ≤ 2 * C.length * w := by
    have h9 : C.length ≤ C.length * w := Nat.le_mul_of_pos_right _ (by omega)
    have h10 : 2 * C.length * w = 2 * (C.length * w) := Nat.mul_assoc ..
    unfold rndN
    split
    · omega
    · split <;> omega
  have hmore := more_ok (i := x1.toNat % C.length) (th := x2.toNat % w) hC (Nat.mod_lt _ (by omega)) (by have := Nat.mod_lt x2.toNat (show w > 0 by omega); omega)
  have hmb := fun (j t : Nat) (hj : j < (w : Int).toNat) => more_bit (i := x1.toNat % C.length) (th := x2.toNat % w) (j := j) (t := t) hC (by omega) (Nat.mod_lt _ (by omega)) (by have := Nat.mod_lt x2.toNat (show w > 0 by omega); omega) hj
  simp only [Int.toNat_natCast] at hmb
  have r1 := remN (x := x1) (n := C.length) hx1.1 (by omega)
  have r2 := remN (x := x2) (n := w) hx2.1 (by omega)
  have hic := Nat.mod_lt x1.toNat (show C.length > 0 by omega)
  have hth := Nat.mod_lt x2.toNat (show w > 0 by omega)
  generalize x1.toNat % C.length = i at *
  generalize x2.toNat % w = th at *
  obtain ⟨p, ep⟩ : ∃ p : Nat → Nat → Bool, bitN w C K.toNat S.toNat = p := ⟨_, rfl⟩
  obtain ⟨R, eR⟩ : ∃ R, rndN K.toNat C.length w = R := ⟨_, rfl⟩
  have hbp : ∀ j, Per (p j) (perN w C K.toNat S.toNat) := fun j => by rw [← ep]; exact bit_per hlst.2.1
  obtain ⟨n, en⟩ : ∃ n, perN w C K.toNat S.toNat = n := ⟨_, rfl⟩
  have hmm : mostN w C K.toNat S.toNat w = mmN p (2 * R) w := by rw [mostN_mm, ep, eR]
  rw [eR] at hper hrb hdv hrl
  rw [en] at hlst hdv e1 hbp
  have hn1 := hlst.1
  have hnR : n ≤ R := by
    rcases Nat.lt_or_ge R n with hh | hh
    · rw [Nat.mod_eq_of_lt hh] at hdv; omega
    · exact hh
  have hany : ∀ j, (flS (p j) (2 * n)).2.2 = true ↔ (flS (p j) (2 * R)).2.2 = true := fun j => by
    rw [flS_any, flS_any]
    exact (any_per (W := 2 * n) (hbp j) hn1 (by omega)).trans (any_per (W := 2 * R) (hbp j) hn1 (by omega)).symm
  have e0 : floatS (w : Int) C K S = if nvN p (2 * n) w = false then (((mmN p (2 * n) w : Nat) : Int), 0) else (0, 6) := by
    unfold floatS
    rw [if_neg (by simp [hC])]
    simp only [Int.toNat_natCast]
    have ha : allLift w C K.toNat S.toNat w = true ↔ nvN p (2 * n) w = false := by
      unfold allLift
      rw [decide_eq_true_iff, nvN_iff, ep, eR]
      exact ⟨fun hh j hj => (hany j).2 (hh j hj), fun hh j hj => (hany j).1 (hh j hj)⟩
    by_cases hh : nvN p (2 * n) w = false
    · rw [if_pos (ha.2 hh), if_pos hh, hmm]
      have : mmN p (2 * R) w = mmN p (2 * n) w := mmN_congr fun j hj => fl_win (hbp j) hn1 (by omega) ((any_per (hbp j) hn1 (by omega)).1 ((flS_any _).1 ((nvN_iff.1 hh) j hj)))
      rw [this]
    · rw [if_neg (fun h2 => hh (ha.1 h2)), if_neg hh]
  obtain ⟨fv, fe, efl, hfl1, hfl2⟩ : ∃ fv fe, floatS (w : Int) C K S = (fv, fe) ∧ (nvN p (2 * n) w = false → fv = (mmN p (2 * n) w : Nat) ∧ fe = 0) ∧ (nvN p (2 * n) w = true → fe = 6) := by
    refine ⟨(floatS (w : Int) C K S).1, (floatS (w : Int) C K S).2, rfl, fun hh => ?_, fun hh => ?_⟩
    · rw [e0, if_pos hh]; exact ⟨rfl, rfl⟩
    · rw [e0, if_neg (by simp [hh])]
  refine callL_run func6 rfl rfl ?_
  have hsp := @Nat.succ_ne_zero; repeat' (first | simp (disch := first | exact Nat.ne_of_beq_eq_false rfl | assumption | exact dschM6 | fail) only [go_sem, ↓reduceIte, hsp, chn, pap, run32, hmc, efl, e1, tup2] | refine WP_draw (by kernel_rfl) ?_ | refine cnd_intro (fun hsp => ?_) (fun hsp => ?_))
  refine WPS_rest fun F G eF eG => ?_
  rw [WP_region]
  have kF1 := congrFun eF 1; (try simp (disch := first | exact Nat.ne_of_beq_eq_false rfl | assumption | exact dschM6 | fail) only [go_sem, ↓reduceIte] at kF1)
  have kF2 := congrFun eF 2; (try simp (disch := first | exact Nat.ne_of_beq_eq_false rfl | assumption | exact dschM6 | fail) only [go_sem, ↓reduceIte] at kF2)
  have kF7 := congrFun eF 7; (try simp (disch := first | exact Nat.ne_of_beq_eq_false rfl | assumption | exact dschM6 | fail) only [go_sem, ↓reduceIte] at kF7)
  have kF8 := congrFun eF 8; (try simp (disch := first | exact Nat.ne_of_beq_eq_false rfl | assumption | exact dschM6 | fail) only [go_sem, ↓reduceIte] at kF8)
  have kF9 := congrFun eF 9; (try simp (disch := first | exact Nat.ne_of_beq_eq_false rfl | assumption | exact dschM6 | fail) only [go_sem, ↓reduceIte] at kF9)
  have kF10 := congrFun eF 10; (try simp (disch := first | exact Nat.ne_of_beq_eq_false rfl | assumption | exact dschM6 | fail) only [go_sem, ↓reduceIte] at kF10)
  have kF11 := congrFun eF 11; (try simp (disch := first | exact Nat.ne_of_beq_eq_false rfl | assumption | exact dschM6 | fail) only [go_sem, ↓reduceIte] at kF11)
  have gF7 := congrArg (fun X => atP X (F 7)) eG; (try simp only [kF7, atP_ptr] at gF7); (try simp (disch := first | exact Nat.ne_of_beq_eq_false rfl | assumption | exact dschM6 | fail) only [go_sem, ↓reduceIte] at gF7)
  have lG := congrArg List.length eG; (try simp (disch := first | exact Nat.ne_of_beq_eq_false rfl | assumption | exact dschM6 | fail) only [go_sem, ↓reduceIte] at lG)
  have xG : Ext h G := by rw [eG]; repeat' first | exact Ext.refl | refine Ext.app ?_
  obtain ⟨a7, k7, V7, g7, i7⟩ : ∃ a, F 7 = .ptr (some ⟨a, 0, 0⟩) ∧ ∃ V, G[a]? = some ⟨.cells [.int .i64 (w : Int), V, .int .i64 K, .int .i64 S] 34 false false, 0⟩ ∧ Ints G V (C) := ⟨_, kF7, _, gF7, by rw [eG]; exact dschM6⟩
  have b7 := lt_of_get g7; clear kF7 gF7
  clear eG lG eF
  have hG := xG.len
  have c1 : ((n : Int) < 1) = False := eq_false (by omega)
  have c2 : (2 : Int) * (C.length : Int) * (w : Int) = ((2 * C.length * w : Nat) : Int) := by simp
  have hcw : C.length * w ≤ 8 * 5 := Nat.mul_le_mul (by omega) (by omega)
  have hcw2 : 2 * C.length * w = 2 * (C.length * w) := Nat.mul_assoc ..
  have c3 : ((n : Int) > ((2 * C.length * w : Nat) : Int)) = False := eq_false (by omega)
  have c4 : (2 : Int) * (n : Int) = ((2 * n : Nat) : Int) := by omega
  have c5 : IntKind.i64.wrap (2 * (C.length : Int) * (w : Int)) = ((2 * C.length * w : Nat) : Int) := by rw [c2, wrap64 (by omega) (by omega)]
  have hsp := @Nat.succ_ne_zero; repeat' (first | simp (disch := first | exact Nat.ne_of_beq_eq_false rfl | assumption | exact dschM6 | fail) only [go_sem, ↓reduceIte, hsp, chn, pap, kF1, kF2, k7, kF8, kF9, kF10, kF11, g7, g7, c1, c3, c5, eq_self, decide_true, if_true, Bool.false_eq_true] | refine WP_draw (by kernel_rfl) ?_ | refine cnd_intro (fun hsp => ?_) (fun hsp => ?_))
  refine WP_count [(12, 17), (52, 78)] 0 w (Nat.zero_le _) (fun H k fr h => fr 52 = .int .i64 (k : Int) ∧ h = H ∧ fr 12 = .int .i64 (mmN p (2 * n) k : Nat) ∧ fr 13 = .bool (nvN p (2 * n) k)) ?_ ?_ ?_
  · exact ⟨by (simp (disch := first | exact Nat.ne_of_beq_eq_false rfl | assumption | exact dschM6 | fail) only [go_sem, ↓reduceIte, Int.natCast_zero]; first | done | rfl), rfl, by (simp (disch := first | exact Nat.ne_of_beq_eq_false rfl | assumption | exact dschM6 | fail) only [go_sem, ↓reduceIte, mmN]; first | done | rfl), by (simp (disch := first | exact Nat.ne_of_beq_eq_false rfl | assumption | exact dschM6 | fail) only [go_sem, ↓reduceIte, nvN]; first | done | rfl)⟩
  · rintro k fr H hk0 hk hG1 ⟨r52, rfl, r12, r13⟩
    have q7 := hG1 7 rfl; (try simp (disch := first | exact Nat.ne_of_beq_eq_false rfl | assumption | exact dschM6 | fail) only [go_sem, ↓reduceIte, k7] at q7)
    have q10 := hG1 10 rfl; (try simp (disch := first | exact Nat.ne_of_beq_eq_false rfl | assumption | exact dschM6 | fail) only [go_sem, ↓reduceIte, kF10] at q10)
    have q51 := hG1 51 rfl; (try simp (disch := first | exact Nat.ne_of_beq_eq_false rfl | assumption | exact dschM6 | fail) only [go_sem, ↓reduceIte] at q51)
    have hlt : ((k : Int) < (w : Int)) = True := eq_true (by omega)
    have hsp := @Nat.succ_ne_zero; repeat' (first | simp (disch := first | exact Nat.ne_of_beq_eq_false rfl | assumption | exact dschM6 | fail) only [go_sem, ↓reduceIte, hsp, chn, pap, r52, r12, r13, q7, q10, q51, g7, hlt, c4] | refine WP_draw (by kernel_rfl) ?_ | refine cnd_intro (fun hsp => ?_) (fun hsp => ?_))
    refine WP_count [(12, 12), (15, 17), (57, 72)] 0 (2 * n) (Nat.zero_le _) (fun H t fr h => fr 57 = .int .i64 (t : Int) ∧ h = H ∧ fr 12 = .int .i64 (max (mmN p (2 * n) k) (flS (p k) t).2.1 : Nat) ∧ fr 15 = .int .i64 ((flS (p k) t).1 : Nat) ∧ fr 16 = .bool (flS (p k) t).2.2) ?_ ?_ ?_
    · refine ⟨by (simp (disch := first | exact Nat.ne_of_beq_eq_false rfl | assumption | exact dschM6 | fail) only [go_sem, ↓reduceIte, Int.natCast_zero]; first | done | rfl), rfl, ?_, by (simp (disch := first | exact Nat.ne_of_beq_eq_false rfl | assumption | exact dschM6 | fail) only [go_sem, ↓reduceIte, flS]; first | done | rfl), by (simp (disch := first | exact Nat.ne_of_beq_eq_false rfl | assumption | exact dschM6 | fail) only [go_sem, ↓reduceIte, flS]; first | done | rfl)⟩
      have : max (mmN p (2 * n) k) (flS (p k) 0).2.1 = mmN p (2 * n) k := by simp [flS]
      rw [this]
      (simp (disch := first | exact Nat.ne_of_beq_eq_false rfl | assumption | exact dschM6 | fail) only [go_sem, ↓reduceIte, r12]; first | done | rfl)
    · rintro t fr2 H ht0 ht hG2 ⟨r57, rfl, r12', r15, r16⟩
      have u7 := hG2 7 rfl; (try simp (disch := first | exact Nat.ne_of_beq_eq_false rfl | assumption | exact dschM6 | fail) only [go_sem, ↓reduceIte, q7] at u7)
      have u10 := hG2 10 rfl; (try simp (disch := first | exact Nat.ne_of_beq_eq_false rfl | assumption | exact dschM6 | fail) only [go_sem, ↓reduceIte, q10] at u10)
      have u51 := hG2 51 rfl; (try simp (disch := first | exact Nat.ne_of_beq_eq_false rfl | assumption | exact dschM6 | fail) only [go_sem, ↓reduceIte, q51] at u51)
      have u14 := hG2 14 rfl; simp (disch := first | exact Nat.ne_of_beq_eq_false rfl | assumption | exact dschM6 | fail) only [go_sem, ↓reduceIte, r52] at u14
      have u56 := hG2 56 rfl; simp (disch := first | exact Nat.ne_of_beq_eq_false rfl | assumption | exact dschM6 | fail) only [go_sem, ↓reduceIte, c4] at u56
      have hlt2 : ((t : Int) < ((2 * n : Nat) : Int)) = True := eq_true (by omega)
      have hin : 0 ≤ (t : Int) ∧ (t : Int) ≤ 10000000 := by omega
      have hsm := liftN_small hC t
      rw [Int.toNat_natCast] at hsm
      have hdv2 : liftN w C K.toNat S.toNat t / 2 ^ k ≤ liftN w C K.toNat S.toNat t := Nat.div_le_self _ _
      have e2 : andI ((liftN w C K.toNat S.toNat t / 2 ^ k : Nat) : Int) 1 = ((liftN w C K.toNat S.toNat t / 2 ^ k % 2 : Nat) : Int) := andI_one (by omega)
      have hle := flS_le (p := p k) t
      by_cases hp : p k t = true
      · have e3 : (((liftN w C K.toNat S.toNat t / 2 ^ k % 2 : Nat) : Int) = 1) = True := eq_true (by
          rw [← ep] at hp
          have := of_decide_eq_true hp
          omega)
        rw [flS_true hp]
        have hsp := @Nat.succ_ne_zero; repeat' (first | simp (disch := first | exact Nat.ne_of_beq_eq_false rfl | assumption | exact dschM6 | fail) only [go_sem, ↓reduceIte, hsp, chn, pap, r57, r12', r15, r16, u7, u10, u51, u14, u56, g7, hlt2, e2, e3, Int.toNat_natCast] | refine WP_draw (by kernel_rfl) ?_ | refine cnd_intro (fun hsp => ?_) (fun hsp => ?_))
        refine ⟨by (repeat first | exact Agree.refl | assumption | refine Agree.put rfl ?_ | refine Agree.put0 ?_ | refine Agree.sub rfl (by assumption) ?_), ?_⟩
        (try dsimp only)
        first | exact ⟨by omega, by omega, rfl, rfl⟩ | exact ⟨by omega, by omega⟩ | (simp (disch := first | exact Nat.ne_of_beq_eq_false rfl | assumption | exact dschM6 | fail) only [go_sem, ↓reduceIte]; omega)
      · have e3 : (((liftN w C K.toNat S.toNat t / 2 ^ k % 2 : Nat) : Int) = 1) = False := eq_false (fun hh => hp (by
          rw [← ep]
          exact decide_eq_true (by omega)))
        rw [flS_false hp]
        have hsp := @Nat.succ_ne_zero; repeat' (first | simp (disch := first | exact Nat.ne_of_beq_eq_false rfl | assumption | exact dschM6 | fail) only [go_sem, ↓reduceIte, hsp, chn, pap, r57, r12', r15, r16, u7, u10, u51, u14, u56, g7, hlt2, e2, e3, Int.toNat_natCast] | refine WP_draw (by kernel_rfl) ?_ | refine cnd_intro (fun hsp => ?_) (fun hsp => ?_))
        refine ⟨by (repeat first | exact Agree.refl | assumption | refine Agree.put rfl ?_ | refine Agree.put0 ?_ | refine Agree.sub rfl (by assumption) ?_), ?_⟩
        (try dsimp only)
        first | exact ⟨by omega, by omega, by omega, rfl⟩ | exact ⟨by omega, by omega, by omega⟩ | exact ⟨by omega, by omega⟩ | (simp (disch := first | exact Nat.ne_of_beq_eq_false rfl | assumption | exact dschM6 | fail) only [go_sem, ↓reduceIte]; omega)
    · rintro fr2 H hG2 ⟨r57, rfl, r12', r15, r16⟩
      have z7 := hG2 7 rfl; (try simp (disch := first | exact Nat.ne_of_beq_eq_false rfl | assumption | exact dschM6 | fail) only [go_sem, ↓reduceIte, q7] at z7)
      have z10 := hG2 10 rfl; (try simp (disch := first | exact Nat.ne_of_beq_eq_false rfl | assumption | exact dschM6 | fail) only [go_sem, ↓reduceIte, q10] at z10)
      have z51 := hG2 51 rfl; (try simp (disch := first | exact Nat.ne_of_beq_eq_false rfl | assumption | exact dschM6 | fail) only [go_sem, ↓reduceIte, q51] at z51)
      have z13 := hG2 13 rfl; simp (disch := first | exact Nat.ne_of_beq_eq_false rfl | assumption | exact dschM6 | fail) only [go_sem, ↓reduceIte, r13] at z13
      have z52 := hG2 52 rfl; simp (disch := first | exact Nat.ne_of_beq_eq_false rfl | assumption | exact dschM6 | fail) only [go_sem, ↓reduceIte, r52] at z52
      have u56 := hG2 56 rfl; simp (disch := first | exact Nat.ne_of_beq_eq_false rfl | assumption | exact dschM6 | fail) only [go_sem, ↓reduceIte, c4] at u56
      have hlt2 : (((2 * n : Nat) : Int) < ((2 * n : Nat) : Int)) = False := eq_false (by omega)
      simp only [mmN, nvN]
      obtain ⟨B1, h1⟩ : ∃ B, nvN p (2 * n) k = B := ⟨_, rfl⟩
      obtain ⟨B2, h2⟩ : ∃ B, (flS (p k) (2 * n)).2.2 = B := ⟨_, rfl⟩
      rw [h1] at z13
      rw [h2] at r16
      rw [h1, h2]
      cases B1 with
      | true =>
        cases B2 with
        | true =>
          have hsp := @Nat.succ_ne_zero; repeat' (first | simp (disch := first | exact Nat.ne_of_beq_eq_false rfl | assumption | exact dschM6 | fail) only [go_sem, ↓reduceIte, hsp, chn, pap, r57, r12', r15, r16, z7, z10, z51, z13, z52, u56, hlt2, eq_self, decide_true, if_true, Bool.false_eq_true] | refine WP_draw (by kernel_rfl) ?_ | refine cnd_intro (fun hsp => ?_) (fun hsp => ?_))
          first | exact ⟨by (repeat first | exact Agree.refl | assumption | refine Agree.put rfl ?_ | refine Agree.put0 ?_ | refine Agree.sub rfl (by assumption) ?_), by first | rfl | omega | (simp (disch := first | exact Nat.ne_of_beq_eq_false rfl | assumption | exact dschM6 | fail) only [go_sem, ↓reduceIte, Int.natCast_zero]; first | done | rfl), rfl⟩ | exact ⟨by (repeat first | exact Agree.refl | assumption | refine Agree.put rfl ?_ | refine Agree.put0 ?_ | refine Agree.sub rfl (by assumption) ?_), by first | rfl | omega | (simp (disch := first | exact Nat.ne_of_beq_eq_false rfl | assumption | exact dschM6 | fail) only [go_sem, ↓reduceIte, Int.natCast_zero]; first | done | rfl)⟩ | exact ⟨by (repeat first | exact Agree.refl | assumption | refine Agree.put rfl ?_ | refine Agree.put0 ?_ | refine Agree.sub rfl (by assumption) ?_), by omega, rfl, rfl⟩ | exact ⟨by (repeat first | exact Agree.refl | assumption | refine Agree.put rfl ?_ | refine Agree.put0 ?_ | refine Agree.sub rfl (by assumption) ?_), by omega, rfl, rfl, rfl⟩ | exact ⟨by (repeat first | exact Agree.refl | assumption | refine Agree.put rfl ?_ | refine Agree.put0 ?_ | refine Agree.sub rfl (by assumption) ?_), by omega, by simp⟩
        | false =>
          have hsp := @Nat.succ_ne_zero; repeat' (first | simp (disch := first | exact Nat.ne_of_beq_eq_false rfl | assumption | exact dschM6 | fail) only [go_sem, ↓reduceIte, hsp, chn, pap, r57, r12', r15, r16, z7, z10, z51, z13, z52, u56, hlt2, eq_self, decide_true, if_true, Bool.false_eq_true] | refine WP_draw (by kernel_rfl) ?_ | refine cnd_intro (fun hsp => ?_) (fun hsp => ?_))
          first | exact ⟨by (repeat first | exact Agree.refl | assumption | refine Agree.put rfl ?_ | refine Agree.put0 ?_ | refine Agree.sub rfl (by assumption) ?_), by first | rfl | omega | (simp (disch := first | exact Nat.ne_of_beq_eq_false rfl | assumption | exact dschM6 | fail) only [go_sem, ↓reduceIte, Int.natCast_zero]; first | done | rfl), rfl⟩ | exact ⟨by (repeat first | exact Agree.refl | assumption | refine Agree.put rfl ?_ | refine Agree.put0 ?_ | refine Agree.sub rfl (by assumption) ?_), by first | rfl | omega | (simp (disch := first | exact Nat.ne_of_beq_eq_false rfl | assumption | exact dschM6 | fail) only [go_sem, ↓reduceIte, Int.natCast_zero]; first | done | rfl)⟩ | exact ⟨by (repeat first | exact Agree.refl | assumption | refine Agree.put rfl ?_ | refine Agree.put0 ?_ | refine Agree.sub rfl (by assumption) ?_), by omega, rfl, rfl⟩ | exact ⟨by (repeat first | exact Agree.refl | assumption | refine Agree.put rfl ?_ | refine Agree.put0 ?_ | refine Agree.sub rfl (by assumption) ?_), by omega, rfl, rfl, rfl⟩ | exact ⟨by (repeat first | exact Agree.refl | assumption | refine Agree.put rfl ?_ | refine Agree.put0 ?_ | refine Agree.sub rfl (by assumption) ?_), by omega, by simp⟩
      | false =>
        cases B2 with
        | true =>
          have hsp := @Nat.succ_ne_zero; repeat' (first | simp (disch := first | exact Nat.ne_of_beq_eq_false rfl | assumption | exact dschM6 | fail) only [go_sem, ↓reduceIte, hsp, chn, pap, r57, r12', r15, r16, z7, z10, z51, z13, z52, u56, hlt2, eq_self, decide_true, if_true, Bool.false_eq_true] | refine WP_draw (by kernel_rfl) ?_ | refine cnd_intro (fun hsp => ?_) (fun hsp => ?_))
          first | exact ⟨by (repeat first | exact Agree.refl | assumption | refine Agree.put rfl ?_ | refine Agree.put0 ?_ | refine Agree.sub rfl (by assumption) ?_), by first | rfl | omega | (simp (disch := first | exact Nat.ne_of_beq_eq_false rfl | assumption | exact dschM6 | fail) only [go_sem, ↓reduceIte, Int.natCast_zero]; first | done | rfl), rfl⟩ | exact ⟨by (repeat first | exact Agree.refl | assumption | refine Agree.put rfl ?_ | refine Agree.put0 ?_ | refine Agree.sub rfl (by assumption) ?_), by first | rfl | omega | (simp (disch := first | exact Nat.ne_of_beq_eq_false rfl | assumption | exact dschM6 | fail) only [go_sem, ↓reduceIte, Int.natCast_zero]; first | done | rfl)⟩ | exact ⟨by (repeat first | exact Agree.refl | assumption | refine Agree.put rfl ?_ | refine Agree.put0 ?_ | refine Agree.sub rfl (by assumption) ?_), by omega, rfl, rfl⟩ | exact ⟨by (repeat first | exact Agree.refl | assumption | refine Agree.put rfl ?_ | refine Agree.put0 ?_ | refine Agree.sub rfl (by assumption) ?_), by omega, rfl, rfl, rfl⟩ | exact ⟨by (repeat first | exact Agree.refl | assumption | refine Agree.put rfl ?_ | refine Agree.put0 ?_ | refine Agree.sub rfl (by assumption) ?_), by omega, by simp⟩
        | false =>
          have hsp := @Nat.succ_ne_zero; repeat' (first | simp (disch := first | exact Nat.ne_of_beq_eq_false rfl | assumption | exact dschM6 | fail) only [go_sem, ↓reduceIte, hsp, chn, pap, r57, r12', r15, r16, z7, z10, z51, z13, z52, u56, hlt2, eq_self, decide_true, if_true, Bool.false_eq_true] | refine WP_draw (by kernel_rfl) ?_ | refine cnd_intro (fun hsp => ?_) (fun hsp => ?_))
          first | exact ⟨by (repeat first | exact Agree.refl | assumption | refine Agree.put rfl ?_ | refine Agree.put0 ?_ | refine Agree.sub rfl (by assumption) ?_), by first | rfl | omega | (simp (disch := first | exact Nat.ne_of_beq_eq_false rfl | assumption | exact dschM6 | fail) only [go_sem, ↓reduceIte, Int.natCast_zero]; first | done | rfl), rfl⟩ | exact ⟨by (repeat first | exact Agree.refl | assumption | refine Agree.put rfl ?_ | refine Agree.put0 ?_ | refine Agree.sub rfl (by assumption) ?_), by first | rfl | omega | (simp (disch := first | exact Nat.ne_of_beq_eq_false rfl | assumption | exact dschM6 | fail) only [go_sem, ↓reduceIte, Int.natCast_zero]; first | done | rfl)⟩ | exact ⟨by (repeat first | exact Agree.refl | assumption | refine Agree.put rfl ?_ | refine Agree.put0 ?_ | refine Agree.sub rfl (by assumption) ?_), by omega, rfl, rfl⟩ | exact ⟨by (repeat first | exact Agree.refl | assumption | refine Agree.put rfl ?_ | refine Agree.put0 ?_ | refine Agree.sub rfl (by assumption) ?_), by omega, rfl, rfl, rfl⟩ | exact ⟨by (repeat first | exact Agree.refl | assumption | refine Agree.put rfl ?_ | refine Agree.put0 ?_ | refine Agree.sub rfl (by assumption) ?_), by omega, by simp⟩
  · rintro fr H hG1 ⟨r52, rfl, r12, r13⟩
    have y1 := hG1 1 rfl; (try simp (disch := first | exact Nat.ne_of_beq_eq_false rfl | assumption | exact dschM6 | fail) only [go_sem, ↓reduceIte, kF1] at y1)
    have y2 := hG1 2 rfl; (try simp (disch := first | exact Nat.ne_of_beq_eq_false rfl | assumption | exact dschM6 | fail) only [go_sem, ↓reduceIte, kF2] at y2)
    have y7 := hG1 7 rfl; (try simp (disch := first | exact Nat.ne_of_beq_eq_false rfl | assumption | exact dschM6 | fail) only [go_sem, ↓reduceIte, k7] at y7)
    have y8 := hG1 8 rfl; (try simp (disch := first | exact Nat.ne_of_beq_eq_false rfl | assumption | exact dschM6 | fail) only [go_sem, ↓reduceIte, kF8] at y8)
    have y9 := hG1 9 rfl; (try simp (disch := first | exact Nat.ne_of_beq_eq_false rfl | assumption | exact dschM6 | fail) only [go_sem, ↓reduceIte, kF9] at y9)
    have y10 := hG1 10 rfl; (try simp (disch := first | exact Nat.ne_of_beq_eq_false rfl | assumption | exact dschM6 | fail) only [go_sem, ↓reduceIte, kF10] at y10)
    have y51 := hG1 51 rfl; (try simp (disch := first | exact Nat.ne_of_beq_eq_false rfl | assumption | exact dschM6 | fail) only [go_sem, ↓reduceIte] at y51)
    have hlt : (((w : Nat) : Int) < (w : Int)) = False := eq_false (by omega)
    have hsp := @Nat.succ_ne_zero; repeat' (first | simp (disch := first | exact Nat.ne_of_beq_eq_false rfl | assumption | exact dschM6 | fail) only [go_sem, ↓reduceIte, hsp, chn, pap, r52, r12, r13, y1, y2, y7, y8, y9, y10, y51, hlt] | refine WP_draw (by kernel_rfl) ?_ | refine cnd_intro (fun hsp => ?_) (fun hsp => ?_))
    refine WPS_restF fun Y eY => ?_
    rw [WP_region]
    have kY1 := congrFun eY 1; (try simp (disch := first | exact Nat.ne_of_beq_eq_false rfl | assumption | exact dschM6 | fail) only [go_sem, ↓reduceIte, y1] at kY1)
    have kY2 := congrFun eY 2; (try simp (disch := first | exact Nat.ne_of_beq_eq_false rfl | assumption | exact dschM6 | fail) only [go_sem, ↓reduceIte, y2] at kY2)
    have kY7 := congrFun eY 7; (try simp (disch := first | exact Nat.ne_of_beq_eq_false rfl | assumption | exact dschM6 | fail) only [go_sem, ↓reduceIte, y7] at kY7)
    have kY8 := congrFun eY 8; (try simp (disch := first | exact Nat.ne_of_beq_eq_false rfl | assumption | exact dschM6 | fail) only [go_sem, ↓reduceIte, y8] at kY8)
    have kY9 := congrFun eY 9; (try simp (disch := first | exact Nat.ne_of_beq_eq_false rfl | assumption | exact dschM6 | fail) only [go_sem, ↓reduceIte, y9] at kY9)
    have kY10 := congrFun eY 10; (try simp (disch := first | exact Nat.ne_of_beq_eq_false rfl | assumption | exact dschM6 | fail) only [go_sem, ↓reduceIte, y10] at kY10)
    have kY12 := congrFun eY 12; (try simp (disch := first | exact Nat.ne_of_beq_eq_false rfl | assumption | exact dschM6 | fail) only [go_sem, ↓reduceIte] at kY12)
    have kY13 := congrFun eY 13; (try simp (disch := first | exact Nat.ne_of_beq_eq_false rfl | assumption | exact dschM6 | fail) only [go_sem, ↓reduceIte] at kY13)
    clear eY
    rw [r12] at kY12
    rw [r13] at kY13
    cases hnv : nvN p (2 * n) w with
    | true =>
      have hfe := hfl2 hnv
      subst hfe
      rw [hnv] at kY13
      have hsp := @Nat.succ_ne_zero; repeat' (first | simp (disch := first | exact Nat.ne_of_beq_eq_false rfl | assumption | exact dschM6 | fail) only [go_sem, ↓reduceIte, hsp, kY1, kY2, kY7, kY8, kY9, kY10, kY12, kY13, hA, eq_self, decide_true, if_true, Bool.false_eq_true] | refine WP_draw (by kernel_rfl) ?_ | refine cnd_intro (fun hsp => ?_) (fun hsp => ?_))
      exact fin_pl rfl rfl (by repeat' first | exact xG | refine Ext.app ?_)
    | false =>
      obtain ⟨hfv, hfe⟩ := hfl1 hnv
      subst hfe hfv
      rw [hnv] at kY13
      have hex : ∀ j, j < w → ∃ t, t < n ∧ p j t = true := fun j hj => (any_per (hbp j) hn1 (by omega)).1 ((flS_any _).1 ((nvN_iff.1 hnv) j hj))
      have hlt2 : mmN p (2 * n) w < n := mmN_lt hn1 fun j hj => fl_lt (hbp j) hn1 (hex j hj)
      have d1 : (((mmN p (2 * n) w : Nat) : Int) ≥ (n : Int)) = False := eq_false (by omega)
      have hneC : C ≠ [] := by rintro rfl; simp at hn
      have n1 : ∀ {m : Nat}, newV m C = .slice (some ⟨m, 0, 0⟩) C.length C.length := fun {m} => newV_ne hneC
      have n2 : newH C = [rowB C 0] := newH_ne hneC
      have hxi := hx _ (getD_mem hic)
      have h256 := pow_256 hw8.1 hw8.2
      obtain ⟨x, hx0⟩ : ∃ x : Nat, C.getD i 0 = (x : Int) := ⟨(C.getD i 0).toNat, by omega⟩
      rw [hx0] at hxi
      have hb7 : 2 ^ th ≤ 128 := Nat.le_trans (Nat.pow_le_pow_right (by decide) (show th ≤ 7 by omega)) (by decide)
      obtain ⟨B, hBt⟩ : ∃ B : Nat, 2 ^ th = B := ⟨_, rfl⟩
      rw [hBt] at hb7
      have hshl : ∀ {t : TypeId}, binA prog .shl t (.int .i64 1) (.int .i64 (th : Int)) = some (.int .i64 (B : Int)) := fun {t} => by
        rw [bin_shl (by omega)]
        have e1 : min ((th : Int)).toNat IntKind.i64.bits = th := by simp [IntKind.bits]; omega
        have e2 : (2 : Int) ^ th = ((2 ^ th : Nat) : Int) := by simp
        rw [e1, Int.one_mul, e2, hBt, wrap64 (by omega) (by omega)]
      have hor : ∀ {t : TypeId}, binA prog .or t (.int .i64 (x : Int)) (.int .i64 (B : Int)) = some (.int .i64 ((x ||| B : Nat) : Int)) := fun {t} => or_N (by omega) (by omega)
      have hml : C.set i ((x ||| B : Nat) : Int) = moreL C i th := by unfold moreL; rw [hx0, Int.toNat_natCast, hBt]
      have hsM := small_chn hmore
      have hlM : (moreL C i th).length = C.length := more_len
      have hlM' := hlM.symm
      have e5 : ∃ m : Nat, floatS (w : Int) (moreL C i th) K S = ((m : Int), 0) ∧ m ≤ mmN p (2 * n) w := by
        refine ⟨mostN w (moreL C i th) K.toNat S.toNat w, ?_, ?_⟩
        · unfold floatS
          rw [if_neg (by simp [hmore])]
          simp only [Int.toNat_natCast]
          rw [if_pos]
          unfold allLift
          rw [decide_eq_true_iff]
          intro j hj
          rw [hlM, eR, flS_any]
          obtain ⟨t, ht1, ht2⟩ := hex j hj
          refine ⟨t, by omega, hmb j t hj ?_⟩
          rw [ep]; exact ht2
        · rw [mostN_mm, hlM, eR]
          have h1 : mmN p (2 * R) w = mmN p (2 * n) w := mmN_congr fun j hj => fl_win (hbp j) hn1 (by omega) (hex j hj)
          rw [← h1]
          exact mmN_le fun j hj => fl_mono fun t ht => hmb j t hj (by rw [ep]; exact ht)
      obtain ⟨m, e5, hm⟩ := e5
      have d2 : ((m : Int) ≤ ((mmN p (2 * n) w : Nat) : Int)) = True := eq_true (by omega)
      have z6 : ((0 : Int) = 6) = False := eq_false (by decide)
      have hsp := @Nat.succ_ne_zero; repeat' (first | simp (disch := first | exact Nat.ne_of_beq_eq_false rfl | assumption | exact dschM6 | fail) only [go_sem, ↓reduceIte, hsp, chn, pap, kY1, kY2, kY7, kY8, kY9, kY10, kY12, kY13, g7, run40, n1, n2, cvt53, r1, r2, hshl, hor, hx0, hml, d1, d2, e5, tup2, Fc.as22, hA, Int.toNat_natCast, eq_self, decide_true, if_true, Bool.false_eq_true] | refine WP_draw (by kernel_rfl) ?_ | refine cnd_intro (fun hsp => ?_) (fun hsp => ?_))
      exact fin_pl rfl rfl (by repeat' first | exact xG | refine Ext.app ?_)
end Go.AM
