/-
  The law CardRepeated.
-/
import Derived.Test.YtppkmjfplhenmaaM0
import Derived.Test.YtppkmjfplhenmaaP1
set_option linter.unusedSimpArgs false
set_option linter.unusedVariables false
namespace Go.AM
open Go.Proofs.Try
theorem dschM7 {p : Prop} (h : p := by first | exact Nat.ne_of_beq_eq_false rfl | assumption | (apply asOne; (first | exact One.int | exact One.bool | exact newV_one | exact nlV_one | exact grV_one | exact cloneV_one | exact takF_one | assumption | exact Ints.one (by assumption) | exact slcV_one (by assumption) | exact Bytes.one (by assumption) | exact One.lit ⟨rfl, rfl, rfl⟩)) | (apply asSp; (repeat first | assumption | apply SpAt.set | (refine SpAt.new ?_ (by (first | rfl | (simp only [List.length_append, List.length_cons, List.length_nil, List.length_set]; done) | (simp only [List.length_append, List.length_cons, List.length_nil, List.length_set]; omega)))) | apply SpAt.app | apply Bytes.app); done) | (apply asBytes; (repeat first | assumption | apply Bytes.app); done) | (apply asInts; first | ((repeat first | assumption | (apply nlV_ints <;> first | assumption | (first | rfl | (simp only [List.length_append, List.length_cons, List.length_nil, List.length_set]; done) | (simp only [List.length_append, List.length_cons, List.length_nil, List.length_set]; omega))) | exact ints_nil | (apply newV_ints' <;> first | assumption | (first | rfl | (simp only [List.length_append, List.length_cons, List.length_nil, List.length_set]; done) | (simp only [List.length_append, List.length_cons, List.length_nil, List.length_set]; omega))) | (apply grV_ints <;> first | assumption | (first | rfl | (simp only [List.length_append, List.length_cons, List.length_nil, List.length_set]; done) | (simp only [List.length_append, List.length_cons, List.length_nil, List.length_set]; omega))) | (apply Ints.slc <;> first | (repeat first | assumption | apply Ints.app); done | omega) | apply Ints.app); done) | ((repeat first | (apply slice_row <;> first | assumption | (first | rfl | (simp only [List.length_append, List.length_cons, List.length_nil, List.length_set]; done) | (simp only [List.length_append, List.length_cons, List.length_nil, List.length_set]; omega))) | apply Ints.app); done)) | (apply asTak; (repeat first | assumption | (refine TakAt.new ?_; (first | rfl | (simp only [List.length_append, List.length_cons, List.length_nil, List.length_set]; done) | (simp only [List.length_append, List.length_cons, List.length_nil, List.length_set]; omega))) | apply TakAt.app); done) | (apply asScal; (first | apply allS1 | apply allS2 | apply allS3 | apply allS4) <;> (first | exact One.int | exact One.bool | exact newV_one | exact nlV_one | exact grV_one | exact cloneV_one | exact takF_one | assumption | exact Ints.one (by assumption) | exact slcV_one (by assumption) | exact Bytes.one (by assumption) | exact One.lit ⟨rfl, rfl, rfl⟩)) | exact litT rfl | exact litF rfl | omega | (simp only [List.length_append, List.length_cons, List.length_nil, lst_len, List.length_set, ints_length, List.length_reverse]; first | done | omega) | fail) : p := h
attribute [-go_sem] put_ne put_same
attribute [local go_sem ↓] put_if


theorem st7 {base : Nat} {l : List Oper} {s : St} {Q : AExit → St → Prop} : WP prog raw base (.region 3 l.toArray false) s Q = WPS prog raw base (.region 3 l.toArray false) s Q := WP_stop
attribute [local go_sem ↓ 3000] st7
theorem st7b {base : Nat} {l : List Oper} {s : St} {Q : AExit → St → Prop} : WP prog raw base (.region 9 l.toArray false) s Q = WPS prog raw base (.region 9 l.toArray false) s Q := WP_stop
attribute [local go_sem ↓ 3000] st7b
set_option maxRecDepth 100000 in
set_option maxHeartbeats 4000000 in
theorem run7 (hA : Awake) {base : Nat} {h : Heap} {v : AVal} {silk : List Int} (hB : Bytes h v silk) :
    callL prog raw base (.fn 7 [] []) [v] h = some (.bool true, h) := by
  unfold Awake at hA
  obtain ⟨W, K, S, C, E, hC, hW, hCl, hE1, hE2, hmc⟩ := mc_pkg (silk := silk) (k := 0) (width := 6) (cards := 10) (by omega) (by omega) (by omega)
  have hsC := small_chn hC
  obtain ⟨hw8, hn, hkk, hss, hst, hx⟩ := chkC_ok hC
  have hz : K ≠ 2 → S = 0 := fun h2 => by
    unfold stepOk at hst
    rw [if_neg h2] at hst
    exact of_decide_eq_true hst
  have hlst := perN_lst (w := W.toNat) (k := K.toNat) (s := S.toNat) (l := C) (by omega) (by omega)
  have hper := lift_per (w := W.toNat) (k := K.toNat) (s := S.toNat) (l := C) (by omega)
  have hrb := rndN_bd (k := K.toNat) (n := C.length) (w := W.toNat) hn.1 hn.2 (by omega) (by omega)
  have hr := rnd_eq (k := K) (w := W) (n := C.length) hn.1 hkk.1 (by omega)
  have hdv := hlst.dvd hper
  have e1 : perS W C K S = (((perN W.toNat C K.toNat S.toNat : Nat) : Int), 0) := by unfold perS; rw [if_neg (by simp [hC])]
  obtain ⟨n, en⟩ : ∃ n, perN W.toNat C K.toNat S.toNat = n := ⟨_, rfl⟩
  obtain ⟨R, eR⟩ : ∃ R, rndN K.toNat C.length W.toNat = R := ⟨_, rfl⟩
  rw [en] at hlst hdv e1
  rw [eR] at hper hrb hdv hr
  have hn1 := hlst.1
  have hnR : n ≤ R := by
    rcases Nat.lt_or_ge R n with hh | hh
    · rw [Nat.mod_eq_of_lt hh] at hdv; omega
    · exact hh
  have hrep : ∀ k, 1 ≤ k → k ≤ n → (repB W.toNat C K.toNat S.toNat R k = true ↔ k = n) := fun k h1 h2 => by
    rw [repB_per hper (by omega)]
    refine ⟨fun hh => ?_, fun hh => by rw [hh]; exact hlst.2.1⟩
    rcases Nat.lt_or_ge k n with h3 | h3
    · exact absurd hh (hlst.2.2 k h1 h3)
    · omega
  obtain ⟨f, ef⟩ : ∃ f : Nat → Int, f = fun t => ((liftN W.toNat C K.toNat S.toNat t : Nat) : Int) := ⟨_, rfl⟩
  have hf : ∀ t, ((liftN W.toNat C K.toNat S.toNat t : Nat) : Int) = f t := fun t => by rw [ef]
  have hsf : ∀ (g : Nat → Int) (m : Nat), m ≤ 1000 → (∀ t, 0 ≤ g t ∧ g t ≤ 512) → Small (lst g m) := fun g m hm hg => ⟨by rw [lst_len]; omega, fun x hm => by
    obtain ⟨j, _, rfl⟩ := List.mem_map.1 hm
    have := hg j
    omega⟩
  have hf512 : ∀ t, 0 ≤ f t ∧ f t ≤ 512 := fun t => by rw [← hf]; have := liftN_small hC t; omega
  have hslc : ∀ k, k ≤ R → ((lst f (2 * R)).take (k + R)).drop k = lst (fun t => f (k + t)) R := fun k hk => by
    refine lst_ext (by rw [List.length_drop, List.length_take, lst_len, lst_len]; omega) fun j hj => ?_
    rw [List.length_drop, List.length_take, lst_len] at hj
    rw [List.getD_eq_getElem?_getD, List.getElem?_drop, List.getElem?_take, if_pos (by omega), ← List.getD_eq_getElem?_getD, lst_get (by omega), lst_get (by omega)]
  have hslc0 : (lst f (2 * R)).take R = lst f R := by
    have := hslc 0 (by omega)
    simp only [Nat.zero_add, List.drop_zero] at this
    exact this
  have heq : ∀ k, 1 ≤ k → k ≤ n → (lst f R = lst (fun t => f (k + t)) R ↔ k = n) := fun k h1 h2 => by
    rw [← hrep k h1 h2]
    unfold repB
    rw [decide_eq_true_iff]
    constructor
    · intro hh t ht
      have h3 := congrArg (fun l => l.getD t 0) hh
      simp only [lst_get ht] at h3
      rw [← hf, ← hf, Nat.add_comm k t] at h3
      exact Int.ofNat.inj h3
    · intro hh
      refine lst_congr fun t ht => ?_
      rw [← hf, ← hf, Nat.add_comm k t, hh t ht]
  refine callL_run func7 rfl rfl ?_
  have hsp := @Nat.succ_ne_zero; repeat' (first | simp (disch := first | exact Nat.ne_of_beq_eq_false rfl | assumption | exact dschM7 | fail) only [go_sem, ↓reduceIte, hsp, chn, pap, run32, hmc, e1, tup2] | refine WP_draw (by kernel_rfl) ?_ | refine cnd_intro (fun hsp => ?_) (fun hsp => ?_))
  refine WPS_rest fun F G eF eG => ?_
  rw [WP_region]
  have kF3 := congrFun eF 3; (try simp (disch := first | exact Nat.ne_of_beq_eq_false rfl | assumption | exact dschM7 | fail) only [go_sem, ↓reduceIte] at kF3)
  have kF4 := congrFun eF 4; (try simp (disch := first | exact Nat.ne_of_beq_eq_false rfl | assumption | exact dschM7 | fail) only [go_sem, ↓reduceIte] at kF4)
  have kF5 := congrFun eF 5; (try simp (disch := first | exact Nat.ne_of_beq_eq_false rfl | assumption | exact dschM7 | fail) only [go_sem, ↓reduceIte] at kF5)
  have gF3 := congrArg (fun X => atP X (F 3)) eG; (try simp only [kF3, atP_ptr] at gF3); (try simp (disch := first | exact Nat.ne_of_beq_eq_false rfl | assumption | exact dschM7 | fail) only [go_sem, ↓reduceIte] at gF3)
  have lG := congrArg List.length eG; (try simp (disch := first | exact Nat.ne_of_beq_eq_false rfl | assumption | exact dschM7 | fail) only [go_sem, ↓reduceIte] at lG)
  have xG : Ext h G := by rw [eG]; repeat' first | exact Ext.refl | refine Ext.app ?_
  obtain ⟨a3, k3, V3, g3, i3⟩ : ∃ a, F 3 = .ptr (some ⟨a, 0, 0⟩) ∧ ∃ V, G[a]? = some ⟨.cells [.int .i64 W, V, .int .i64 K, .int .i64 S] 34 false false, 0⟩ ∧ Ints G V (C) := ⟨_, kF3, _, gF3, by rw [eG]; exact dschM7⟩
  have b3 := lt_of_get g3; clear kF3 gF3
  clear eG lG eF
  have hG := xG.len
  by_cases h1 : K = 1
  · have q1 : (K = 1) = True := eq_true h1
    have q3 : max 1 (2 * (C.length : Int) - 2) = (R : Int) := by rw [← hr]; unfold rnd; rw [if_pos h1]
    have hsp := @Nat.succ_ne_zero; repeat' (first | simp (disch := first | exact Nat.ne_of_beq_eq_false rfl | assumption | exact dschM7 | fail) only [go_sem, ↓reduceIte, hsp, chn, k3, kF4, kF5, g3, g3, q1, q3] | refine WP_draw (by kernel_rfl) ?_ | refine cnd_intro (fun hsp => ?_) (fun hsp => ?_))
    refine WPS_restF fun PA ePA => ?_
    rw [WP_region]
    have kPA3 := congrFun ePA 3; (try simp (disch := first | exact Nat.ne_of_beq_eq_false rfl | assumption | exact dschM7 | fail) only [go_sem, ↓reduceIte, k3] at kPA3)
    have kPA4 := congrFun ePA 4; (try simp (disch := first | exact Nat.ne_of_beq_eq_false rfl | assumption | exact dschM7 | fail) only [go_sem, ↓reduceIte, kF4] at kPA4)
    have kPA5 := congrFun ePA 5; (try simp (disch := first | exact Nat.ne_of_beq_eq_false rfl | assumption | exact dschM7 | fail) only [go_sem, ↓reduceIte, kF5] at kPA5)
    have kPA6 := congrFun ePA 6; (try simp (disch := first | exact Nat.ne_of_beq_eq_false rfl | assumption | exact dschM7 | fail) only [go_sem, ↓reduceIte] at kPA6)
    clear ePA
    have c1 : ((n : Int) < 1) = False := eq_false (by omega)
    have c2 : ((n : Int) > (R : Int)) = False := eq_false (by omega)
    have c3 : ((R : Int)).tmod (n : Int) = 0 := by rw [tmodN, hdv]; rfl
    have c4 : (2 : Int) * (R : Int) = ((2 * R : Nat) : Int) := by omega
    have h2R : 0 < 2 * R ∧ 2 * R < 1073741824 := by omega
    have hsp := @Nat.succ_ne_zero; repeat' (first | simp (disch := first | exact Nat.ne_of_beq_eq_false rfl | assumption | exact dschM7 | fail) only [go_sem, ↓reduceIte, hsp, chn, kPA3, kPA4, kPA5, kPA6, g3, c1, c2, c3, c4, Fc.ln22, eq_self, decide_true, if_true, Bool.false_eq_true] | refine WP_draw (by kernel_rfl) ?_ | refine cnd_intro (fun hsp => ?_) (fun hsp => ?_))
    refine WP_count [(8, 8), (64, 73)] 0 (2 * R) (Nat.zero_le _) (fun H i fr h => fr 64 = .int .i64 (i : Int) ∧ h = G ++ [rowB (lst (fun t => if t < i then f t else 0) (2 * R)) 0]) ?_ ?_ ?_
    · exact ⟨by (simp (disch := first | exact Nat.ne_of_beq_eq_false rfl | assumption | exact dschM7 | fail) only [go_sem, ↓reduceIte, Int.natCast_zero]; first | done | rfl), by simp only [Nat.not_lt_zero, if_false]⟩
    · rintro i fr H hi0 hi hG1 ⟨r64, rfl⟩
      have p1A3 := hG1 3 rfl; (try simp (disch := first | exact Nat.ne_of_beq_eq_false rfl | assumption | exact dschM7 | fail) only [go_sem, ↓reduceIte, kPA3] at p1A3)
      have p1A7 := hG1 7 rfl; (try simp (disch := first | exact Nat.ne_of_beq_eq_false rfl | assumption | exact dschM7 | fail) only [go_sem, ↓reduceIte] at p1A7)
      have p1A63 := hG1 63 rfl; (try simp (disch := first | exact Nat.ne_of_beq_eq_false rfl | assumption | exact dschM7 | fail) only [go_sem, ↓reduceIte] at p1A63)
      have hlt : ((i : Int) < ((2 * R : Nat) : Int)) = True := eq_true (by omega)
      have hin : 0 ≤ (i : Int) ∧ (i : Int) ≤ 10000000 := by omega
      have hset : (fun j => if j = i then f i else (if j < i then f j else 0)) = (fun t => if t < i + 1 then f t else 0) := by
        funext j
        by_cases e : j = i
        · subst e; rw [if_pos rfl, if_pos (by omega)]
        · rw [if_neg e]
          by_cases e2 : j < i
          · rw [if_pos e2, if_pos (by omega)]
          · rw [if_neg e2, if_neg (by omega)]
      have hi64 : (i : Int) < ((2 * R : Nat) : Int) := by omega
      have hfi := hf i
      have hsp := @Nat.succ_ne_zero; repeat' (first | simp (disch := first | exact Nat.ne_of_beq_eq_false rfl | assumption | exact dschM7 | fail) only [go_sem, ↓reduceIte, hsp, chn, r64, p1A3, p1A7, p1A63, g3, hlt, Fc.as22, Int.toNat_natCast, hfi, hset] | refine WP_draw (by kernel_rfl) ?_ | refine cnd_intro (fun hsp => ?_) (fun hsp => ?_))
      first | exact ⟨by (repeat first | exact Agree.refl | assumption | refine Agree.put rfl ?_ | refine Agree.put0 ?_ | refine Agree.sub rfl (by assumption) ?_), by first | rfl | omega | (simp (disch := first | exact Nat.ne_of_beq_eq_false rfl | assumption | exact dschM7 | fail) only [go_sem, ↓reduceIte, Int.natCast_zero]; first | done | rfl)⟩ | exact ⟨by (repeat first | exact Agree.refl | assumption | refine Agree.put rfl ?_ | refine Agree.put0 ?_ | refine Agree.sub rfl (by assumption) ?_), by first | rfl | omega | (simp (disch := first | exact Nat.ne_of_beq_eq_false rfl | assumption | exact dschM7 | fail) only [go_sem, ↓reduceIte, Int.natCast_zero]; first | done | rfl), rfl⟩ | exact (by (repeat first | exact Agree.refl | assumption | refine Agree.put rfl ?_ | refine Agree.put0 ?_ | refine Agree.sub rfl (by assumption) ?_))
    · rintro fr H hG1 ⟨r64, rfl⟩
      have p2A3 := hG1 3 rfl; (try simp (disch := first | exact Nat.ne_of_beq_eq_false rfl | assumption | exact dschM7 | fail) only [go_sem, ↓reduceIte, kPA3] at p2A3)
      have p2A4 := hG1 4 rfl; (try simp (disch := first | exact Nat.ne_of_beq_eq_false rfl | assumption | exact dschM7 | fail) only [go_sem, ↓reduceIte, kPA4] at p2A4)
      have p2A5 := hG1 5 rfl; (try simp (disch := first | exact Nat.ne_of_beq_eq_false rfl | assumption | exact dschM7 | fail) only [go_sem, ↓reduceIte, kPA5] at p2A5)
      have p2A6 := hG1 6 rfl; (try simp (disch := first | exact Nat.ne_of_beq_eq_false rfl | assumption | exact dschM7 | fail) only [go_sem, ↓reduceIte, kPA6] at p2A6)
      have p2A7 := hG1 7 rfl; (try simp (disch := first | exact Nat.ne_of_beq_eq_false rfl | assumption | exact dschM7 | fail) only [go_sem, ↓reduceIte] at p2A7)
      have p2A63 := hG1 63 rfl; (try simp (disch := first | exact Nat.ne_of_beq_eq_false rfl | assumption | exact dschM7 | fail) only [go_sem, ↓reduceIte] at p2A63)
      have hlt : (((2 * R : Nat) : Int) < ((2 * R : Nat) : Int)) = False := eq_false (by omega)
      have hall : lst (fun t => if t < 2 * R then f t else 0) (2 * R) = lst f (2 * R) := lst_congr fun t ht => if_pos ht
      rw [hall]
      have hsp := @Nat.succ_ne_zero; repeat' (first | simp (disch := first | exact Nat.ne_of_beq_eq_false rfl | assumption | exact dschM7 | fail) only [go_sem, ↓reduceIte, hsp, chn, r64, p2A3, p2A4, p2A5, p2A6, p2A7, p2A63, g3, hlt] | refine WP_draw (by kernel_rfl) ?_ | refine cnd_intro (fun hsp => ?_) (fun hsp => ?_))
      have hRB : Ints (G ++ [rowB (lst f (2 * R)) 0]) (.slice (some ⟨G.length, 0, 0⟩) (2 * R) (2 * R)) (lst f (2 * R)) := slice_row rfl lst_len.symm (hsf f _ (by omega) hf512)
      refine WP_count [(9, 10), (74, 93)] 1 (n + 1) (by omega) (fun H k fr h => fr 9 = .int .i64 (k : Int) ∧ h = H) ?_ ?_ ?_
      · exact ⟨by (simp (disch := first | exact Nat.ne_of_beq_eq_false rfl | assumption | exact dschM7 | fail) only [go_sem, ↓reduceIte, Int.natCast_zero]; first | done | rfl), rfl⟩
      · rintro k fr2 H hk0 hk hG2 ⟨r9, rfl⟩
        have p3A3 := hG2 3 rfl; (try simp (disch := first | exact Nat.ne_of_beq_eq_false rfl | assumption | exact dschM7 | fail) only [go_sem, ↓reduceIte, p2A3] at p3A3)
        have p3A4 := hG2 4 rfl; (try simp (disch := first | exact Nat.ne_of_beq_eq_false rfl | assumption | exact dschM7 | fail) only [go_sem, ↓reduceIte, p2A4] at p3A4)
        have p3A5 := hG2 5 rfl; (try simp (disch := first | exact Nat.ne_of_beq_eq_false rfl | assumption | exact dschM7 | fail) only [go_sem, ↓reduceIte, p2A5] at p3A5)
        have p3A6 := hG2 6 rfl; (try simp (disch := first | exact Nat.ne_of_beq_eq_false rfl | assumption | exact dschM7 | fail) only [go_sem, ↓reduceIte, p2A6] at p3A6)
        have p3A7 := hG2 7 rfl; (try simp (disch := first | exact Nat.ne_of_beq_eq_false rfl | assumption | exact dschM7 | fail) only [go_sem, ↓reduceIte, p2A7] at p3A7)
        have hle : ((k : Int) ≤ (n : Int)) = True := eq_true (by omega)
        have s1 : sliceA prog 22 (.slice (some ⟨G.length, 0, 0⟩) (2 * R) (2 * R)) none (some (.int .i64 (R : Int))) none = some (slcV (.slice (some ⟨G.length, 0, 0⟩) (2 * R) (2 * R)) 0 R) := by
          have := sl22h (n := (R : Int)) (by omega) hRB (by rw [lst_len]; omega)
          rwa [Int.toNat_natCast] at this
        have s2 : sliceA prog 22 (.slice (some ⟨G.length, 0, 0⟩) (2 * R) (2 * R)) (some (.int .i64 (k : Int))) (some (.int .i64 ((k : Int) + (R : Int)))) none = some (slcV (.slice (some ⟨G.length, 0, 0⟩) (2 * R) (2 * R)) k (k + R)) := by
          have := sl_lh Fc.el22 Fc.ar22 (m := (k : Int)) (n := (k : Int) + (R : Int)) (by omega) (by omega) hRB (by rw [lst_len]; omega)
          rwa [Int.toNat_natCast, show ((k : Int) + (R : Int)).toNat = k + R by omega] at this
        have i1 : Ints (G ++ [rowB (lst f (2 * R)) 0]) (slcV (.slice (some ⟨G.length, 0, 0⟩) (2 * R) (2 * R)) 0 R) (lst f R) := by
          have := Ints.slc hRB (Nat.zero_le _) (show R ≤ (lst f (2 * R)).length by rw [lst_len]; omega)
          rwa [List.drop_zero, hslc0] at this
        have i2 : Ints (G ++ [rowB (lst f (2 * R)) 0]) (slcV (.slice (some ⟨G.length, 0, 0⟩) (2 * R) (2 * R)) k (k + R)) (lst (fun t => f (k + t)) R) := by
          have := Ints.slc hRB (Nat.le_add_right k R) (show k + R ≤ (lst f (2 * R)).length by rw [lst_len]; omega)
          rwa [hslc k (by omega)] at this
        have hd : (decide (lst f R = lst (fun t => f (k + t)) R) ≠ decide ((k : Int) = (n : Int))) = False := eq_false (fun hh => hh (decide_eq_decide.2 ((heq k hk0 (by omega)).trans ⟨fun e => by omega, fun e => by omega⟩)))
        have hsp := @Nat.succ_ne_zero; repeat' (first | simp (disch := first | exact Nat.ne_of_beq_eq_false rfl | assumption | exact dschM7 | fail) only [go_sem, ↓reduceIte, hsp, chn, r9, p3A3, p3A4, p3A5, p3A6, p3A7, hle, s1, s2, run41, neB4, hd] | refine WP_draw (by kernel_rfl) ?_ | refine cnd_intro (fun hsp => ?_) (fun hsp => ?_))
        first | exact ⟨by (repeat first | exact Agree.refl | assumption | refine Agree.put rfl ?_ | refine Agree.put0 ?_ | refine Agree.sub rfl (by assumption) ?_), by first | rfl | omega | (simp (disch := first | exact Nat.ne_of_beq_eq_false rfl | assumption | exact dschM7 | fail) only [go_sem, ↓reduceIte, Int.natCast_zero]; first | done | rfl)⟩ | exact ⟨by (repeat first | exact Agree.refl | assumption | refine Agree.put rfl ?_ | refine Agree.put0 ?_ | refine Agree.sub rfl (by assumption) ?_), by first | rfl | omega | (simp (disch := first | exact Nat.ne_of_beq_eq_false rfl | assumption | exact dschM7 | fail) only [go_sem, ↓reduceIte, Int.natCast_zero]; first | done | rfl), rfl⟩ | exact (by (repeat first | exact Agree.refl | assumption | refine Agree.put rfl ?_ | refine Agree.put0 ?_ | refine Agree.sub rfl (by assumption) ?_))
      · rintro fr2 H hG2 ⟨r9, rfl⟩
        have p4A3 := hG2 3 rfl; (try simp (disch := first | exact Nat.ne_of_beq_eq_false rfl | assumption | exact dschM7 | fail) only [go_sem, ↓reduceIte, p2A3] at p4A3)
        have p4A4 := hG2 4 rfl; (try simp (disch := first | exact Nat.ne_of_beq_eq_false rfl | assumption | exact dschM7 | fail) only [go_sem, ↓reduceIte, p2A4] at p4A4)
        have p4A5 := hG2 5 rfl; (try simp (disch := first | exact Nat.ne_of_beq_eq_false rfl | assumption | exact dschM7 | fail) only [go_sem, ↓reduceIte, p2A5] at p4A5)
        have p4A6 := hG2 6 rfl; (try simp (disch := first | exact Nat.ne_of_beq_eq_false rfl | assumption | exact dschM7 | fail) only [go_sem, ↓reduceIte, p2A6] at p4A6)
        have p4A7 := hG2 7 rfl; (try simp (disch := first | exact Nat.ne_of_beq_eq_false rfl | assumption | exact dschM7 | fail) only [go_sem, ↓reduceIte, p2A7] at p4A7)
        have hle : (((n + 1 : Nat) : Int) ≤ (n : Int)) = False := eq_false (by omega)
        have hsp := @Nat.succ_ne_zero; repeat' (first | simp (disch := first | exact Nat.ne_of_beq_eq_false rfl | assumption | exact dschM7 | fail) only [go_sem, ↓reduceIte, hsp, chn, r9, p4A3, p4A4, p4A5, p4A6, p4A7, hle] | refine WP_draw (by kernel_rfl) ?_ | refine cnd_intro (fun hsp => ?_) (fun hsp => ?_))
        refine WP_count [(11, 16), (95, 131)] 0 R (Nat.zero_le _) (fun H t fr h => fr 95 = .int .i64 (t : Int) ∧ h = H) ?_ ?_ ?_
        · exact ⟨by (simp (disch := first | exact Nat.ne_of_beq_eq_false rfl | assumption | exact dschM7 | fail) only [go_sem, ↓reduceIte, Int.natCast_zero]; first | done | rfl), rfl⟩
        · rintro t fr3 H ht0 ht hG3 ⟨r95, rfl⟩
          have p5A3 := hG3 3 rfl; (try simp (disch := first | exact Nat.ne_of_beq_eq_false rfl | assumption | exact dschM7 | fail) only [go_sem, ↓reduceIte, p4A3] at p5A3)
          have p5A94 := hG3 94 rfl; (try simp (disch := first | exact Nat.ne_of_beq_eq_false rfl | assumption | exact dschM7 | fail) only [go_sem, ↓reduceIte] at p5A94)
          have hlt : ((t : Int) < (R : Int)) = True := eq_true (by omega)
          have k1 : cardS W C K S t = (((cardN K.toNat C.length t : Nat) : Int), ((moveN K.toNat C.length S.toNat W.toNat t : Nat) : Int), 0) := by
            unfold cardS; rw [if_neg (by simp [hC]), if_neg (by omega)]; simp only [Int.toNat_natCast]
          have k2 : ∀ {base : Nat} {H : Heap}, callL prog raw base (.fn 43 [] []) [.int .i64 K, .int .i64 (C.length : Int), .int .i64 S, .int .i64 W, .int .i64 (t : Int)] H = some (.tuple [.int .i64 ((cardN K.toNat C.length t : Nat) : Int), .int .i64 ((moveN K.toNat C.length S.toNat W.toNat t : Nat) : Int)], H) := fun {base H} => by
            rw [run43 hkk (by omega) (by omega) (by omega) (by omega) hz]
            simp only [Int.toNat_natCast]
          have hsp := @Nat.succ_ne_zero; repeat' (first | simp (disch := first | exact Nat.ne_of_beq_eq_false rfl | assumption | exact dschM7 | fail) only [go_sem, ↓reduceIte, hsp, chn, r95, p5A3, p5A94, g3, hlt, k1, k2, tup3, eq_self, decide_true, if_true, Bool.false_eq_true] | refine WP_draw (by kernel_rfl) ?_ | refine cnd_intro (fun hsp => ?_) (fun hsp => ?_))
          first | exact ⟨by (repeat first | exact Agree.refl | assumption | refine Agree.put rfl ?_ | refine Agree.put0 ?_ | refine Agree.sub rfl (by assumption) ?_), by first | rfl | omega | (simp (disch := first | exact Nat.ne_of_beq_eq_false rfl | assumption | exact dschM7 | fail) only [go_sem, ↓reduceIte, Int.natCast_zero]; first | done | rfl)⟩ | exact ⟨by (repeat first | exact Agree.refl | assumption | refine Agree.put rfl ?_ | refine Agree.put0 ?_ | refine Agree.sub rfl (by assumption) ?_), by first | rfl | omega | (simp (disch := first | exact Nat.ne_of_beq_eq_false rfl | assumption | exact dschM7 | fail) only [go_sem, ↓reduceIte, Int.natCast_zero]; first | done | rfl), rfl⟩ | exact (by (repeat first | exact Agree.refl | assumption | refine Agree.put rfl ?_ | refine Agree.put0 ?_ | refine Agree.sub rfl (by assumption) ?_))
        · rintro fr3 H hG3 ⟨r95, rfl⟩
          have p6A3 := hG3 3 rfl; (try simp (disch := first | exact Nat.ne_of_beq_eq_false rfl | assumption | exact dschM7 | fail) only [go_sem, ↓reduceIte, p4A3] at p6A3)
          have p6A94 := hG3 94 rfl; (try simp (disch := first | exact Nat.ne_of_beq_eq_false rfl | assumption | exact dschM7 | fail) only [go_sem, ↓reduceIte] at p6A94)
          have hlt : (((R : Nat) : Int) < (R : Int)) = False := eq_false (by omega)
          have hsp := @Nat.succ_ne_zero; repeat' (first | simp (disch := first | exact Nat.ne_of_beq_eq_false rfl | assumption | exact dschM7 | fail) only [go_sem, ↓reduceIte, hsp, chn, r95, p6A3, p6A94, hlt, hA] | refine WP_draw (by kernel_rfl) ?_ | refine cnd_intro (fun hsp => ?_) (fun hsp => ?_))
          exact fin_pl rfl rfl (by repeat' first | exact xG | refine Ext.app ?_)
  by_cases h2 : K = 2
  · have q1 : (K = 1) = False := eq_false h1
    have q2 : (K = 2) = True := eq_true h2
    have hb0 : (C.length : Int) * W = (R : Int) := by rw [← hr]; unfold rnd; rw [if_neg h1, if_pos h2]
    have q3 : IntKind.i64.wrap ((C.length : Int) * W) = (R : Int) := by rw [hb0, wrap64 (by omega) (by omega)]
    have hsp := @Nat.succ_ne_zero; repeat' (first | simp (disch := first | exact Nat.ne_of_beq_eq_false rfl | assumption | exact dschM7 | fail) only [go_sem, ↓reduceIte, hsp, chn, k3, kF4, kF5, g3, g3, q1, q2, q3] | refine WP_draw (by kernel_rfl) ?_ | refine cnd_intro (fun hsp => ?_) (fun hsp => ?_))
    refine WPS_restF fun PB ePB => ?_
    rw [WP_region]
    have kPB3 := congrFun ePB 3; (try simp (disch := first | exact Nat.ne_of_beq_eq_false rfl | assumption | exact dschM7 | fail) only [go_sem, ↓reduceIte, k3] at kPB3)
    have kPB4 := congrFun ePB 4; (try simp (disch := first | exact Nat.ne_of_beq_eq_false rfl | assumption | exact dschM7 | fail) only [go_sem, ↓reduceIte, kF4] at kPB4)
    have kPB5 := congrFun ePB 5; (try simp (disch := first | exact Nat.ne_of_beq_eq_false rfl | assumption | exact dschM7 | fail) only [go_sem, ↓reduceIte, kF5] at kPB5)
    have kPB6 := congrFun ePB 6; (try simp (disch := first | exact Nat.ne_of_beq_eq_false rfl | assumption | exact dschM7 | fail) only [go_sem, ↓reduceIte] at kPB6)
    clear ePB
    have c1 : ((n : Int) < 1) = False := eq_false (by omega)
    have c2 : ((n : Int) > (R : Int)) = False := eq_false (by omega)
    have c3 : ((R : Int)).tmod (n : Int) = 0 := by rw [tmodN, hdv]; rfl
    have c4 : (2 : Int) * (R : Int) = ((2 * R : Nat) : Int) := by omega
    have h2R : 0 < 2 * R ∧ 2 * R < 1073741824 := by omega
    have hsp := @Nat.succ_ne_zero; repeat' (first | simp (disch := first | exact Nat.ne_of_beq_eq_false rfl | assumption | exact dschM7 | fail) only [go_sem, ↓reduceIte, hsp, chn, kPB3, kPB4, kPB5, kPB6, g3, c1, c2, c3, c4, Fc.ln22, eq_self, decide_true, if_true, Bool.false_eq_true] | refine WP_draw (by kernel_rfl) ?_ | refine cnd_intro (fun hsp => ?_) (fun hsp => ?_))
    refine WP_count [(8, 8), (64, 73)] 0 (2 * R) (Nat.zero_le _) (fun H i fr h => fr 64 = .int .i64 (i : Int) ∧ h = G ++ [rowB (lst (fun t => if t < i then f t else 0) (2 * R)) 0]) ?_ ?_ ?_
    · exact ⟨by (simp (disch := first | exact Nat.ne_of_beq_eq_false rfl | assumption | exact dschM7 | fail) only [go_sem, ↓reduceIte, Int.natCast_zero]; first | done | rfl), by simp only [Nat.not_lt_zero, if_false]⟩
    · rintro i fr H hi0 hi hG1 ⟨r64, rfl⟩
      have p1B3 := hG1 3 rfl; (try simp (disch := first | exact Nat.ne_of_beq_eq_false rfl | assumption | exact dschM7 | fail) only [go_sem, ↓reduceIte, kPB3] at p1B3)
      have p1B7 := hG1 7 rfl; (try simp (disch := first | exact Nat.ne_of_beq_eq_false rfl | assumption | exact dschM7 | fail) only [go_sem, ↓reduceIte] at p1B7)
      have p1B63 := hG1 63 rfl; (try simp (disch := first | exact Nat.ne_of_beq_eq_false rfl | assumption | exact dschM7 | fail) only [go_sem, ↓reduceIte] at p1B63)
      have hlt : ((i : Int) < ((2 * R : Nat) : Int)) = True := eq_true (by omega)
      have hin : 0 ≤ (i : Int) ∧ (i : Int) ≤ 10000000 := by omega
      have hset : (fun j => if j = i then f i else (if j < i then f j else 0)) = (fun t => if t < i + 1 then f t else 0) := by
        funext j
        by_cases e : j = i
        · subst e; rw [if_pos rfl, if_pos (by omega)]
        · rw [if_neg e]
          by_cases e2 : j < i
          · rw [if_pos e2, if_pos (by omega)]
          · rw [if_neg e2, if_neg (by omega)]
      have hi64 : (i : Int) < ((2 * R : Nat) : Int) := by omega
      have hfi := hf i
      have hsp := @Nat.succ_ne_zero; repeat' (first | simp (disch := first | exact Nat.ne_of_beq_eq_false rfl | assumption | exact dschM7 | fail) only [go_sem, ↓reduceIte, hsp, chn, r64, p1B3, p1B7, p1B63, g3, hlt, Fc.as22, Int.toNat_natCast, hfi, hset] | refine WP_draw (by kernel_rfl) ?_ | refine cnd_intro (fun hsp => ?_) (fun hsp => ?_))
      first | exact ⟨by (repeat first | exact Agree.refl | assumption | refine Agree.put rfl ?_ | refine Agree.put0 ?_ | refine Agree.sub rfl (by assumption) ?_), by first | rfl | omega | (simp (disch := first | exact Nat.ne_of_beq_eq_false rfl | assumption | exact dschM7 | fail) only [go_sem, ↓reduceIte, Int.natCast_zero]; first | done | rfl)⟩ | exact ⟨by (repeat first | exact Agree.refl | assumption | refine Agree.put rfl ?_ | refine Agree.put0 ?_ | refine Agree.sub rfl (by assumption) ?_), by first | rfl | omega | (simp (disch := first | exact Nat.ne_of_beq_eq_false rfl | assumption | exact dschM7 | fail) only [go_sem, ↓reduceIte, Int.natCast_zero]; first | done | rfl), rfl⟩ | exact (by (repeat first | exact Agree.refl | assumption | refine Agree.put rfl ?_ | refine Agree.put0 ?_ | refine Agree.sub rfl (by assumption) ?_))
    · rintro fr H hG1 ⟨r64, rfl⟩
      have p2B3 := hG1 3 rfl; (try simp (disch := first | exact Nat.ne_of_beq_eq_false rfl | assumption | exact dschM7 | fail) only [go_sem, ↓reduceIte, kPB3] at p2B3)
      have p2B4 := hG1 4 rfl; (try simp (disch := first | exact Nat.ne_of_beq_eq_false rfl | assumption | exact dschM7 | fail) only [go_sem, ↓reduceIte, kPB4] at p2B4)
      have p2B5 := hG1 5 rfl; (try simp (disch := first | exact Nat.ne_of_beq_eq_false rfl | assumption | exact dschM7 | fail) only [go_sem, ↓reduceIte, kPB5] at p2B5)
      have p2B6 := hG1 6 rfl; (try simp (disch := first | exact Nat.ne_of_beq_eq_false rfl | assumption | exact dschM7 | fail) only [go_sem, ↓reduceIte, kPB6] at p2B6)
      have p2B7 := hG1 7 rfl; (try simp (disch := first | exact Nat.ne_of_beq_eq_false rfl | assumption | exact dschM7 | fail) only [go_sem, ↓reduceIte] at p2B7)
      have p2B63 := hG1 63 rfl; (try simp (disch := first | exact Nat.ne_of_beq_eq_false rfl | assumption | exact dschM7 | fail) only [go_sem, ↓reduceIte] at p2B63)
      have hlt : (((2 * R : Nat) : Int) < ((2 * R : Nat) : Int)) = False := eq_false (by omega)
      have hall : lst (fun t => if t < 2 * R then f t else 0) (2 * R) = lst f (2 * R) := lst_congr fun t ht => if_pos ht
      rw [hall]
      have hsp := @Nat.succ_ne_zero; repeat' (first | simp (disch := first | exact Nat.ne_of_beq_eq_false rfl | assumption | exact dschM7 | fail) only [go_sem, ↓reduceIte, hsp, chn, r64, p2B3, p2B4, p2B5, p2B6, p2B7, p2B63, g3, hlt] | refine WP_draw (by kernel_rfl) ?_ | refine cnd_intro (fun hsp => ?_) (fun hsp => ?_))
      have hRB : Ints (G ++ [rowB (lst f (2 * R)) 0]) (.slice (some ⟨G.length, 0, 0⟩) (2 * R) (2 * R)) (lst f (2 * R)) := slice_row rfl lst_len.symm (hsf f _ (by omega) hf512)
      refine WP_count [(9, 10), (74, 93)] 1 (n + 1) (by omega) (fun H k fr h => fr 9 = .int .i64 (k : Int) ∧ h = H) ?_ ?_ ?_
      · exact ⟨by (simp (disch := first | exact Nat.ne_of_beq_eq_false rfl | assumption | exact dschM7 | fail) only [go_sem, ↓reduceIte, Int.natCast_zero]; first | done | rfl), rfl⟩
      · rintro k fr2 H hk0 hk hG2 ⟨r9, rfl⟩
        have p3B3 := hG2 3 rfl; (try simp (disch := first | exact Nat.ne_of_beq_eq_false rfl | assumption | exact dschM7 | fail) only [go_sem, ↓reduceIte, p2B3] at p3B3)
        have p3B4 := hG2 4 rfl; (try simp (disch := first | exact Nat.ne_of_beq_eq_false rfl | assumption | exact dschM7 | fail) only [go_sem, ↓reduceIte, p2B4] at p3B4)
        have p3B5 := hG2 5 rfl; (try simp (disch := first | exact Nat.ne_of_beq_eq_false rfl | assumption | exact dschM7 | fail) only [go_sem, ↓reduceIte, p2B5] at p3B5)
        have p3B6 := hG2 6 rfl; (try simp (disch := first | exact Nat.ne_of_beq_eq_false rfl | assumption | exact dschM7 | fail) only [go_sem, ↓reduceIte, p2B6] at p3B6)
        have p3B7 := hG2 7 rfl; (try simp (disch := first | exact Nat.ne_of_beq_eq_false rfl | assumption | exact dschM7 | fail) only [go_sem, ↓reduceIte, p2B7] at p3B7)
        have hle : ((k : Int) ≤ (n : Int)) = True := eq_true (by omega)
        have s1 : sliceA prog 22 (.slice (some ⟨G.length, 0, 0⟩) (2 * R) (2 * R)) none (some (.int .i64 (R : Int))) none = some (slcV (.slice (some ⟨G.length, 0, 0⟩) (2 * R) (2 * R)) 0 R) := by
          have := sl22h (n := (R : Int)) (by omega) hRB (by rw [lst_len]; omega)
          rwa [Int.toNat_natCast] at this
        have s2 : sliceA prog 22 (.slice (some ⟨G.length, 0, 0⟩) (2 * R) (2 * R)) (some (.int .i64 (k : Int))) (some (.int .i64 ((k : Int) + (R : Int)))) none = some (slcV (.slice (some ⟨G.length, 0, 0⟩) (2 * R) (2 * R)) k (k + R)) := by
          have := sl_lh Fc.el22 Fc.ar22 (m := (k : Int)) (n := (k : Int) + (R : Int)) (by omega) (by omega) hRB (by rw [lst_len]; omega)
          rwa [Int.toNat_natCast, show ((k : Int) + (R : Int)).toNat = k + R by omega] at this
        have i1 : Ints (G ++ [rowB (lst f (2 * R)) 0]) (slcV (.slice (some ⟨G.length, 0, 0⟩) (2 * R) (2 * R)) 0 R) (lst f R) := by
          have := Ints.slc hRB (Nat.zero_le _) (show R ≤ (lst f (2 * R)).length by rw [lst_len]; omega)
          rwa [List.drop_zero, hslc0] at this
        have i2 : Ints (G ++ [rowB (lst f (2 * R)) 0]) (slcV (.slice (some ⟨G.length, 0, 0⟩) (2 * R) (2 * R)) k (k + R)) (lst (fun t => f (k + t)) R) := by
          have := Ints.slc hRB (Nat.le_add_right k R) (show k + R ≤ (lst f (2 * R)).length by rw [lst_len]; omega)
          rwa [hslc k (by omega)] at this
        have hd : (decide (lst f R = lst (fun t => f (k + t)) R) ≠ decide ((k : Int) = (n : Int))) = False := eq_false (fun hh => hh (decide_eq_decide.2 ((heq k hk0 (by omega)).trans ⟨fun e => by omega, fun e => by omega⟩)))
        have hsp := @Nat.succ_ne_zero; repeat' (first | simp (disch := first | exact Nat.ne_of_beq_eq_false rfl | assumption | exact dschM7 | fail) only [go_sem, ↓reduceIte, hsp, chn, r9, p3B3, p3B4, p3B5, p3B6, p3B7, hle, s1, s2, run41, neB4, hd] | refine WP_draw (by kernel_rfl) ?_ | refine cnd_intro (fun hsp => ?_) (fun hsp => ?_))
        first | exact ⟨by (repeat first | exact Agree.refl | assumption | refine Agree.put rfl ?_ | refine Agree.put0 ?_ | refine Agree.sub rfl (by assumption) ?_), by first | rfl | omega | (simp (disch := first | exact Nat.ne_of_beq_eq_false rfl | assumption | exact dschM7 | fail) only [go_sem, ↓reduceIte, Int.natCast_zero]; first | done | rfl)⟩ | exact ⟨by (repeat first | exact Agree.refl | assumption | refine Agree.put rfl ?_ | refine Agree.put0 ?_ | refine Agree.sub rfl (by assumption) ?_), by first | rfl | omega | (simp (disch := first | exact Nat.ne_of_beq_eq_false rfl | assumption | exact dschM7 | fail) only [go_sem, ↓reduceIte, Int.natCast_zero]; first | done | rfl), rfl⟩ | exact (by (repeat first | exact Agree.refl | assumption | refine Agree.put rfl ?_ | refine Agree.put0 ?_ | refine Agree.sub rfl (by assumption) ?_))
      · rintro fr2 H hG2 ⟨r9, rfl⟩
        have p4B3 := hG2 3 rfl; (try simp (disch := first | exact Nat.ne_of_beq_eq_false rfl | assumption | exact dschM7 | fail) only [go_sem, ↓reduceIte, p2B3] at p4B3)
        have p4B4 := hG2 4 rfl; (try simp (disch := first | exact Nat.ne_of_beq_eq_false rfl | assumption | exact dschM7 | fail) only [go_sem, ↓reduceIte, p2B4] at p4B4)
        have p4B5 := hG2 5 rfl; (try simp (disch := first | exact Nat.ne_of_beq_eq_false rfl | assumption | exact dschM7 | fail) only [go_sem, ↓reduceIte, p2B5] at p4B5)
        have p4B6 := hG2 6 rfl; (try simp (disch := first | exact Nat.ne_of_beq_eq_false rfl | assumption | exact dschM7 | fail) only [go_sem, ↓reduceIte, p2B6] at p4B6)
        have p4B7 := hG2 7 rfl; (try simp (disch := first | exact Nat.ne_of_beq_eq_false rfl | assumption | exact dschM7 | fail) only [go_sem, ↓reduceIte, p2B7] at p4B7)
        have hle : (((n + 1 : Nat) : Int) ≤ (n : Int)) = False := eq_false (by omega)
        have hsp := @Nat.succ_ne_zero; repeat' (first | simp (disch := first | exact Nat.ne_of_beq_eq_false rfl | assumption | exact dschM7 | fail) only [go_sem, ↓reduceIte, hsp, chn, r9, p4B3, p4B4, p4B5, p4B6, p4B7, hle] | refine WP_draw (by kernel_rfl) ?_ | refine cnd_intro (fun hsp => ?_) (fun hsp => ?_))
        refine WP_count [(11, 16), (95, 131)] 0 R (Nat.zero_le _) (fun H t fr h => fr 95 = .int .i64 (t : Int) ∧ h = H) ?_ ?_ ?_
        · exact ⟨by (simp (disch := first | exact Nat.ne_of_beq_eq_false rfl | assumption | exact dschM7 | fail) only [go_sem, ↓reduceIte, Int.natCast_zero]; first | done | rfl), rfl⟩
        · rintro t fr3 H ht0 ht hG3 ⟨r95, rfl⟩
          have p5B3 := hG3 3 rfl; (try simp (disch := first | exact Nat.ne_of_beq_eq_false rfl | assumption | exact dschM7 | fail) only [go_sem, ↓reduceIte, p4B3] at p5B3)
          have p5B94 := hG3 94 rfl; (try simp (disch := first | exact Nat.ne_of_beq_eq_false rfl | assumption | exact dschM7 | fail) only [go_sem, ↓reduceIte] at p5B94)
          have hlt : ((t : Int) < (R : Int)) = True := eq_true (by omega)
          have k1 : cardS W C K S t = (((cardN K.toNat C.length t : Nat) : Int), ((moveN K.toNat C.length S.toNat W.toNat t : Nat) : Int), 0) := by
            unfold cardS; rw [if_neg (by simp [hC]), if_neg (by omega)]; simp only [Int.toNat_natCast]
          have k2 : ∀ {base : Nat} {H : Heap}, callL prog raw base (.fn 43 [] []) [.int .i64 K, .int .i64 (C.length : Int), .int .i64 S, .int .i64 W, .int .i64 (t : Int)] H = some (.tuple [.int .i64 ((cardN K.toNat C.length t : Nat) : Int), .int .i64 ((moveN K.toNat C.length S.toNat W.toNat t : Nat) : Int)], H) := fun {base H} => by
            rw [run43 hkk (by omega) (by omega) (by omega) (by omega) hz]
            simp only [Int.toNat_natCast]
          have hsp := @Nat.succ_ne_zero; repeat' (first | simp (disch := first | exact Nat.ne_of_beq_eq_false rfl | assumption | exact dschM7 | fail) only [go_sem, ↓reduceIte, hsp, chn, r95, p5B3, p5B94, g3, hlt, k1, k2, tup3, eq_self, decide_true, if_true, Bool.false_eq_true] | refine WP_draw (by kernel_rfl) ?_ | refine cnd_intro (fun hsp => ?_) (fun hsp => ?_))
          first | exact ⟨by (repeat first | exact Agree.refl | assumption | refine Agree.put rfl ?_ | refine Agree.put0 ?_ | refine Agree.sub rfl (by assumption) ?_), by first | rfl | omega | (simp (disch := first | exact Nat.ne_of_beq_eq_false rfl | assumption | exact dschM7 | fail) only [go_sem, ↓reduceIte, Int.natCast_zero]; first | done | rfl)⟩ | exact ⟨by (repeat first | exact Agree.refl | assumption | refine Agree.put rfl ?_ | refine Agree.put0 ?_ | refine Agree.sub rfl (by assumption) ?_), by first | rfl | omega | (simp (disch := first | exact Nat.ne_of_beq_eq_false rfl | assumption | exact dschM7 | fail) only [go_sem, ↓reduceIte, Int.natCast_zero]; first | done | rfl), rfl⟩ | exact (by (repeat first | exact Agree.refl | assumption | refine Agree.put rfl ?_ | refine Agree.put0 ?_ | refine Agree.sub rfl (by assumption) ?_))
        · rintro fr3 H hG3 ⟨r95, rfl⟩
          have p6B3 := hG3 3 rfl; (try simp (disch := first | exact Nat.ne_of_beq_eq_false rfl | assumption | exact dschM7 | fail) only [go_sem, ↓reduceIte, p4B3] at p6B3)
          have p6B94 := hG3 94 rfl; (try simp (disch := first | exact Nat.ne_of_beq_eq_false rfl | assumption | exact dschM7 | fail) only [go_sem, ↓reduceIte] at p6B94)
          have hlt : (((R : Nat) : Int) < (R : Int)) = False := eq_false (by omega)
          have hsp := @Nat.succ_ne_zero; repeat' (first | simp (disch := first | exact Nat.ne_of_beq_eq_false rfl | assumption | exact dschM7 | fail) only [go_sem, ↓reduceIte, hsp, chn, r95, p6B3, p6B94, hlt, hA] | refine WP_draw (by kernel_rfl) ?_ | refine cnd_intro (fun hsp => ?_) (fun hsp => ?_))
          exact fin_pl rfl rfl (by repeat' first | exact xG | refine Ext.app ?_)
  have q1 : (K = 1) = False := eq_false h1
  have q2 : (K = 2) = False := eq_false h2
  have q3 : (C.length : Int) = (R : Int) := by rw [← hr]; unfold rnd; rw [if_neg h1, if_neg h2]
  have hsp := @Nat.succ_ne_zero; repeat' (first | simp (disch := first | exact Nat.ne_of_beq_eq_false rfl | assumption | exact dschM7 | fail) only [go_sem, ↓reduceIte, hsp, chn, k3, kF4, kF5, g3, g3, q1, q2, q3] | refine WP_draw (by kernel_rfl) ?_ | refine cnd_intro (fun hsp => ?_) (fun hsp => ?_))
  refine WPS_restF fun PD ePD => ?_
  rw [WP_region]
  have kPD3 := congrFun ePD 3; (try simp (disch := first | exact Nat.ne_of_beq_eq_false rfl | assumption | exact dschM7 | fail) only [go_sem, ↓reduceIte, k3] at kPD3)
  have kPD4 := congrFun ePD 4; (try simp (disch := first | exact Nat.ne_of_beq_eq_false rfl | assumption | exact dschM7 | fail) only [go_sem, ↓reduceIte, kF4] at kPD4)
  have kPD5 := congrFun ePD 5; (try simp (disch := first | exact Nat.ne_of_beq_eq_false rfl | assumption | exact dschM7 | fail) only [go_sem, ↓reduceIte, kF5] at kPD5)
  have kPD6 := congrFun ePD 6; (try simp (disch := first | exact Nat.ne_of_beq_eq_false rfl | assumption | exact dschM7 | fail) only [go_sem, ↓reduceIte] at kPD6)
  clear ePD
  have c1 : ((n : Int) < 1) = False := eq_false (by omega)
  have c2 : ((n : Int) > (R : Int)) = False := eq_false (by omega)
  have c3 : ((R : Int)).tmod (n : Int) = 0 := by rw [tmodN, hdv]; rfl
  have c4 : (2 : Int) * (R : Int) = ((2 * R : Nat) : Int) := by omega
  have h2R : 0 < 2 * R ∧ 2 * R < 1073741824 := by omega
  have hsp := @Nat.succ_ne_zero; repeat' (first | simp (disch := first | exact Nat.ne_of_beq_eq_false rfl | assumption | exact dschM7 | fail) only [go_sem, ↓reduceIte, hsp, chn, kPD3, kPD4, kPD5, kPD6, g3, c1, c2, c3, c4, Fc.ln22, eq_self, decide_true, if_true, Bool.false_eq_true] | refine WP_draw (by kernel_rfl) ?_ | refine cnd_intro (fun hsp => ?_) (fun hsp => ?_))
  refine WP_count [(8, 8), (64, 73)] 0 (2 * R) (Nat.zero_le _) (fun H i fr h => fr 64 = .int .i64 (i : Int) ∧ h = G ++ [rowB (lst (fun t => if t < i then f t else 0) (2 * R)) 0]) ?_ ?_ ?_
  · exact ⟨by (simp (disch := first | exact Nat.ne_of_beq_eq_false rfl | assumption | exact dschM7 | fail) only [go_sem, ↓reduceIte, Int.natCast_zero]; first | done | rfl), by simp only [Nat.not_lt_zero, if_false]⟩
  · rintro i fr H hi0 hi hG1 ⟨r64, rfl⟩
    have p1D3 := hG1 3 rfl; (try simp (disch := first | exact Nat.ne_of_beq_eq_false rfl | assumption | exact dschM7 | fail) only [go_sem, ↓reduceIte, kPD3] at p1D3)
    have p1D7 := hG1 7 rfl; (try simp (disch := first | exact Nat.ne_of_beq_eq_false rfl | assumption | exact dschM7 | fail) only [go_sem, ↓reduceIte] at p1D7)
    have p1D63 := hG1 63 rfl; (try simp (disch := first | exact Nat.ne_of_beq_eq_false rfl | assumption | exact dschM7 | fail) only [go_sem, ↓reduceIte] at p1D63)
    have hlt : ((i : Int) < ((2 * R : Nat) : Int)) = True := eq_true (by omega)
    have hin : 0 ≤ (i : Int) ∧ (i : Int) ≤ 10000000 := by omega
    have hset : (fun j => if j = i then f i else (if j < i then f j else 0)) = (fun t => if t < i + 1 then f t else 0) := by
      funext j
      by_cases e : j = i
      · subst e; rw [if_pos rfl, if_pos (by omega)]
      · rw [if_neg e]
        by_cases e2 : j < i
        · rw [if_pos e2, if_pos (by omega)]
        · rw [if_neg e2, if_neg (by omega)]
    have hi64 : (i : Int) < ((2 * R : Nat) : Int) := by omega
    have hfi := hf i
    have hsp := @Nat.succ_ne_zero; repeat' (first | simp (disch := first | exact Nat.ne_of_beq_eq_false rfl | assumption | exact dschM7 | fail) only [go_sem, ↓reduceIte, hsp, chn, r64, p1D3, p1D7, p1D63, g3, hlt, Fc.as22, Int.toNat_natCast, hfi, hset] | refine WP_draw (by kernel_rfl) ?_ | refine cnd_intro (fun hsp => ?_) (fun hsp => ?_))
    first | exact ⟨by (repeat first | exact Agree.refl | assumption | refine Agree.put rfl ?_ | refine Agree.put0 ?_ | refine Agree.sub rfl (by assumption) ?_), by first | rfl | omega | (simp (disch := first | exact Nat.ne_of_beq_eq_false rfl | assumption | exact dschM7 | fail) only [go_sem, ↓reduceIte, Int.natCast_zero]; first | done | rfl)⟩ | exact ⟨by (repeat first | exact Agree.refl | assumption | refine Agree.put rfl ?_ | refine Agree.put0 ?_ | refine Agree.sub rfl (by assumption) ?_), by first | rfl | omega | (simp (disch := first | exact Nat.ne_of_beq_eq_false rfl | assumption | exact dschM7 | fail) only [go_sem, ↓reduceIte, Int.natCast_zero]; first | done | rfl), rfl⟩ | exact (by (repeat first | exact Agree.refl | assumption | refine Agree.put rfl ?_ | refine Agree.put0 ?_ | refine Agree.sub rfl (by assumption) ?_))
  · rintro fr H hG1 ⟨r64, rfl⟩
    have p2D3 := hG1 3 rfl; (try simp (disch := first | exact Nat.ne_of_beq_eq_false rfl | assumption | exact dschM7 | fail) only [go_sem, ↓reduceIte, kPD3] at p2D3)
    have p2D4 := hG1 4 rfl; (try simp (disch := first | exact Nat.ne_of_beq_eq_false rfl | assumption | exact dschM7 | fail) only [go_sem, ↓reduceIte, kPD4] at p2D4)
    have p2D5 := hG1 5 rfl; (try simp (disch := first | exact Nat.ne_of_beq_eq_false rfl | assumption | exact dschM7 | fail) only [go_sem, ↓reduceIte, kPD5] at p2D5)
    have p2D6 := hG1 6 rfl; (try simp (disch := first | exact Nat.ne_of_beq_eq_false rfl | assumption | exact dschM7 | fail) only [go_sem, ↓reduceIte, kPD6] at p2D6)
    have p2D7 := hG1 7 rfl; (try simp (disch := first | exact Nat.ne_of_beq_eq_false rfl | assumption | exact dschM7 | fail) only [go_sem, ↓reduceIte] at p2D7)
    have p2D63 := hG1 63 rfl; (try simp (disch := first | exact Nat.ne_of_beq_eq_false rfl | assumption | exact dschM7 | fail) only [go_sem, ↓reduceIte] at p2D63)
    have hlt : (((2 * R : Nat) : Int) < ((2 * R : Nat) : Int)) = False := eq_false (by omega)
    have hall : lst (fun t => if t < 2 * R then f t else 0) (2 * R) = lst f (2 * R) := lst_congr fun t ht => if_pos ht
    rw [hall]
    have hsp := @Nat.succ_ne_zero; repeat' (first | simp (disch := first | exact Nat.ne_of_beq_eq_false rfl | assumption | exact dschM7 | fail) only [go_sem, ↓reduceIte, hsp, chn, r64, p2D3, p2D4, p2D5, p2D6, p2D7, p2D63, g3, hlt] | refine WP_draw (by kernel_rfl) ?_ | refine cnd_intro (fun hsp => ?_) (fun hsp => ?_))
    have hRB : Ints (G ++ [rowB (lst f (2 * R)) 0]) (.slice (some ⟨G.length, 0, 0⟩) (2 * R) (2 * R)) (lst f (2 * R)) := slice_row rfl lst_len.symm (hsf f _ (by omega) hf512)
    refine WP_count [(9, 10), (74, 93)] 1 (n + 1) (by omega) (fun H k fr h => fr 9 = .int .i64 (k : Int) ∧ h = H) ?_ ?_ ?_
    · exact ⟨by (simp (disch := first | exact Nat.ne_of_beq_eq_false rfl | assumption | exact dschM7 | fail) only [go_sem, ↓reduceIte, Int.natCast_zero]; first | done | rfl), rfl⟩
    · rintro k fr2 H hk0 hk hG2 ⟨r9, rfl⟩
      have p3D3 := hG2 3 rfl; (try simp (disch := first | exact Nat.ne_of_beq_eq_false rfl | assumption | exact dschM7 | fail) only [go_sem, ↓reduceIte, p2D3] at p3D3)
      have p3D4 := hG2 4 rfl; (try simp (disch := first | exact Nat.ne_of_beq_eq_false rfl | assumption | exact dschM7 | fail) only [go_sem, ↓reduceIte, p2D4] at p3D4)
      have p3D5 := hG2 5 rfl; (try simp (disch := first | exact Nat.ne_of_beq_eq_false rfl | assumption | exact dschM7 | fail) only [go_sem, ↓reduceIte, p2D5] at p3D5)
      have p3D6 := hG2 6 rfl; (try simp (disch := first | exact Nat.ne_of_beq_eq_false rfl | assumption | exact dschM7 | fail) only [go_sem, ↓reduceIte, p2D6] at p3D6)
      have p3D7 := hG2 7 rfl; (try simp (disch := first | exact Nat.ne_of_beq_eq_false rfl | assumption | exact dschM7 | fail) only [go_sem, ↓reduceIte, p2D7] at p3D7)
      have hle : ((k : Int) ≤ (n : Int)) = True := eq_true (by omega)
      have s1 : sliceA prog 22 (.slice (some ⟨G.length, 0, 0⟩) (2 * R) (2 * R)) none (some (.int .i64 (R : Int))) none = some (slcV (.slice (some ⟨G.length, 0, 0⟩) (2 * R) (2 * R)) 0 R) := by
        have := sl22h (n := (R : Int)) (by omega) hRB (by rw [lst_len]; omega)
        rwa [Int.toNat_natCast] at this
      have s2 : sliceA prog 22 (.slice (some ⟨G.length, 0, 0⟩) (2 * R) (2 * R)) (some (.int .i64 (k : Int))) (some (.int .i64 ((k : Int) + (R : Int)))) none = some (slcV (.slice (some ⟨G.length, 0, 0⟩) (2 * R) (2 * R)) k (k + R)) := by
        have := sl_lh Fc.el22 Fc.ar22 (m := (k : Int)) (n := (k : Int) + (R : Int)) (by omega) (by omega) hRB (by rw [lst_len]; omega)
        rwa [Int.toNat_natCast, show ((k : Int) + (R : Int)).toNat = k + R by omega] at this
      have i1 : Ints (G ++ [rowB (lst f (2 * R)) 0]) (slcV (.slice (some ⟨G.length, 0, 0⟩) (2 * R) (2 * R)) 0 R) (lst f R) := by
        have := Ints.slc hRB (Nat.zero_le _) (show R ≤ (lst f (2 * R)).length by rw [lst_len]; omega)
        rwa [List.drop_zero, hslc0] at this
      have i2 : Ints (G ++ [rowB (lst f (2 * R)) 0]) (slcV (.slice (some ⟨G.length, 0, 0⟩) (2 * R) (2 * R)) k (k + R)) (lst (fun t => f (k + t)) R) := by
        have := Ints.slc hRB (Nat.le_add_right k R) (show k + R ≤ (lst f (2 * R)).length by rw [lst_len]; omega)
        rwa [hslc k (by omega)] at this
      have hd : (decide (lst f R = lst (fun t => f (k + t)) R) ≠ decide ((k : Int) = (n : Int))) = False := eq_false (fun hh => hh (decide_eq_decide.2 ((heq k hk0 (by omega)).trans ⟨fun e => by omega, fun e => by omega⟩)))
      have hsp := @Nat.succ_ne_zero; repeat' (first | simp (disch := first | exact Nat.ne_of_beq_eq_false rfl | assumption | exact dschM7 | fail) only [go_sem, ↓reduceIte, hsp, chn, r9, p3D3, p3D4, p3D5, p3D6, p3D7, hle, s1, s2, run41, neB4, hd] | refine WP_draw (by kernel_rfl) ?_ | refine cnd_intro (fun hsp => ?_) (fun hsp => ?_))
      first | exact ⟨by (repeat first | exact Agree.refl | assumption | refine Agree.put rfl ?_ | refine Agree.put0 ?_ | refine Agree.sub rfl (by assumption) ?_), by first | rfl | omega | (simp (disch := first | exact Nat.ne_of_beq_eq_false rfl | assumption | exact dschM7 | fail) only [go_sem, ↓reduceIte, Int.natCast_zero]; first | done | rfl)⟩ | exact ⟨by (repeat first | exact Agree.refl | assumption | refine Agree.put rfl ?_ | refine Agree.put0 ?_ | refine Agree.sub rfl (by assumption) ?_), by first | rfl | omega | (simp (disch := first | exact Nat.ne_of_beq_eq_false rfl | assumption | exact dschM7 | fail) only [go_sem, ↓reduceIte, Int.natCast_zero]; first | done | rfl), rfl⟩ | exact (by (repeat first | exact Agree.refl | assumption | refine Agree.put rfl ?_ | refine Agree.put0 ?_ | refine Agree.sub rfl (by assumption) ?_))
    · rintro fr2 H hG2 ⟨r9, rfl⟩
      have p4D3 := hG2 3 rfl; (try simp (disch := first | exact Nat.ne_of_beq_eq_false rfl | assumption | exact dschM7 | fail) only [go_sem, ↓reduceIte, p2D3] at p4D3)
      have p4D4 := hG2 4 rfl; (try simp (disch := first | exact Nat.ne_of_beq_eq_false rfl | assumption | exact dschM7 | fail) only [go_sem, ↓reduceIte, p2D4] at p4D4)
      have p4D5 := hG2 5 rfl; (try simp (disch := first | exact Nat.ne_of_beq_eq_false rfl | assumption | exact dschM7 | fail) only [go_sem, ↓reduceIte, p2D5] at p4D5)
      have p4D6 := hG2 6 rfl; (try simp (disch := first | exact Nat.ne_of_beq_eq_false rfl | assumption | exact dschM7 | fail) only [go_sem, ↓reduceIte, p2D6] at p4D6)
      have p4D7 := hG2 7 rfl; (try simp (disch := first | exact Nat.ne_of_beq_eq_false rfl | assumption | exact dschM7 | fail) only [go_sem, ↓reduceIte, p2D7] at p4D7)
      have hle : (((n + 1 : Nat) : Int) ≤ (n : Int)) = False := eq_false (by omega)
      have hsp := @Nat.succ_ne_zero; repeat' (first | simp (disch := first | exact Nat.ne_of_beq_eq_false rfl | assumption | exact dschM7 | fail) only [go_sem, ↓reduceIte, hsp, chn, r9, p4D3, p4D4, p4D5, p4D6, p4D7, hle] | refine WP_draw (by kernel_rfl) ?_ | refine cnd_intro (fun hsp => ?_) (fun hsp => ?_))
      refine WP_count [(11, 16), (95, 131)] 0 R (Nat.zero_le _) (fun H t fr h => fr 95 = .int .i64 (t : Int) ∧ h = H) ?_ ?_ ?_
      · exact ⟨by (simp (disch := first | exact Nat.ne_of_beq_eq_false rfl | assumption | exact dschM7 | fail) only [go_sem, ↓reduceIte, Int.natCast_zero]; first | done | rfl), rfl⟩
      · rintro t fr3 H ht0 ht hG3 ⟨r95, rfl⟩
        have p5D3 := hG3 3 rfl; (try simp (disch := first | exact Nat.ne_of_beq_eq_false rfl | assumption | exact dschM7 | fail) only [go_sem, ↓reduceIte, p4D3] at p5D3)
        have p5D94 := hG3 94 rfl; (try simp (disch := first | exact Nat.ne_of_beq_eq_false rfl | assumption | exact dschM7 | fail) only [go_sem, ↓reduceIte] at p5D94)
        have hlt : ((t : Int) < (R : Int)) = True := eq_true (by omega)
        have k1 : cardS W C K S t = (((cardN K.toNat C.length t : Nat) : Int), ((moveN K.toNat C.length S.toNat W.toNat t : Nat) : Int), 0) := by
          unfold cardS; rw [if_neg (by simp [hC]), if_neg (by omega)]; simp only [Int.toNat_natCast]
        have k2 : ∀ {base : Nat} {H : Heap}, callL prog raw base (.fn 43 [] []) [.int .i64 K, .int .i64 (C.length : Int), .int .i64 S, .int .i64 W, .int .i64 (t : Int)] H = some (.tuple [.int .i64 ((cardN K.toNat C.length t : Nat) : Int), .int .i64 ((moveN K.toNat C.length S.toNat W.toNat t : Nat) : Int)], H) := fun {base H} => by
          rw [run43 hkk (by omega) (by omega) (by omega) (by omega) hz]
          simp only [Int.toNat_natCast]
        have hsp := @Nat.succ_ne_zero; repeat' (first | simp (disch := first | exact Nat.ne_of_beq_eq_false rfl | assumption | exact dschM7 | fail) only [go_sem, ↓reduceIte, hsp, chn, r95, p5D3, p5D94, g3, hlt, k1, k2, tup3, eq_self, decide_true, if_true, Bool.false_eq_true] | refine WP_draw (by kernel_rfl) ?_ | refine cnd_intro (fun hsp => ?_) (fun hsp => ?_))
        first | exact ⟨by (repeat first | exact Agree.refl | assumption | refine Agree.put rfl ?_ | refine Agree.put0 ?_ | refine Agree.sub rfl (by assumption) ?_), by first | rfl | omega | (simp (disch := first | exact Nat.ne_of_beq_eq_false rfl | assumption | exact dschM7 | fail) only [go_sem, ↓reduceIte, Int.natCast_zero]; first | done | rfl)⟩ | exact ⟨by (repeat first | exact Agree.refl | assumption | refine Agree.put rfl ?_ | refine Agree.put0 ?_ | refine Agree.sub rfl (by assumption) ?_), by first | rfl | omega | (simp (disch := first | exact Nat.ne_of_beq_eq_false rfl | assumption | exact dschM7 | fail) only [go_sem, ↓reduceIte, Int.natCast_zero]; first | done | rfl), rfl⟩ | exact (by (repeat first | exact Agree.refl | assumption | refine Agree.put rfl ?_ | refine Agree.put0 ?_ | refine Agree.sub rfl (by assumption) ?_))
      · rintro fr3 H hG3 ⟨r95, rfl⟩
        have p6D3 := hG3 3 rfl; (try simp (disch := first | exact Nat.ne_of_beq_eq_false rfl | assumption | exact dschM7 | fail) only [go_sem, ↓reduceIte, p4D3] at p6D3)
        have p6D94 := hG3 94 rfl; (try simp (disch := first | exact Nat.ne_of_beq_eq_false rfl | assumption | exact dschM7 | fail) only [go_sem, ↓reduceIte] at p6D94)
        have hlt : (((R : Nat) : Int) < (R : Int)) = False := eq_false (by omega)
        have hsp := @Nat.succ_ne_zero; repeat' (first | simp (disch := first | exact Nat.ne_of_beq_eq_false rfl | assumption | exact dschM7 | fail) only [go_sem, ↓reduceIte, hsp, chn, r95, p6D3, p6D94, hlt, hA] | refine WP_draw (by kernel_rfl) ?_ | refine cnd_intro (fun hsp => ?_) (fun hsp => ?_))
        exact fin_pl rfl rfl (by repeat' first | exact xG | refine Ext.app ?_)
end Go.AM
