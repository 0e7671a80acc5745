/-
  The law CardForever.
-/
import Derived.Test.YtppkmjfplhenmaaM0
import Derived.Test.YtppkmjfplhenmaaP7
set_option linter.unusedSimpArgs false
set_option linter.unusedVariables false
namespace Go.AM
open Go.Proofs.Try
theorem dschM15 {p : Prop} (h : p := by first | exact Nat.ne_of_beq_eq_false rfl | assumption | (apply asOne; (first | exact One.int | exact One.bool | exact newV_one | exact nlV_one | exact grV_one | exact cloneV_one | exact takF_one | assumption | exact Ints.one (by assumption) | exact slcV_one (by assumption) | exact Bytes.one (by assumption) | exact One.lit ⟨rfl, rfl, rfl⟩)) | (apply asSp; (repeat first | assumption | apply SpAt.set | (refine SpAt.new ?_ (by (first | rfl | (simp only [List.length_append, List.length_cons, List.length_nil, List.length_set]; done) | (simp only [List.length_append, List.length_cons, List.length_nil, List.length_set]; omega)))) | apply SpAt.app | apply Bytes.app); done) | (apply asBytes; (repeat first | assumption | apply Bytes.app); done) | (apply asInts; first | ((repeat first | assumption | (apply nlV_ints <;> first | assumption | (first | rfl | (simp only [List.length_append, List.length_cons, List.length_nil, List.length_set]; done) | (simp only [List.length_append, List.length_cons, List.length_nil, List.length_set]; omega))) | exact ints_nil | (apply newV_ints' <;> first | assumption | (first | rfl | (simp only [List.length_append, List.length_cons, List.length_nil, List.length_set]; done) | (simp only [List.length_append, List.length_cons, List.length_nil, List.length_set]; omega))) | (apply grV_ints <;> first | assumption | (first | rfl | (simp only [List.length_append, List.length_cons, List.length_nil, List.length_set]; done) | (simp only [List.length_append, List.length_cons, List.length_nil, List.length_set]; omega))) | (apply Ints.slc <;> first | (repeat first | assumption | apply Ints.app); done | omega) | apply Ints.app); done) | ((repeat first | (apply slice_row <;> first | assumption | (first | rfl | (simp only [List.length_append, List.length_cons, List.length_nil, List.length_set]; done) | (simp only [List.length_append, List.length_cons, List.length_nil, List.length_set]; omega))) | apply Ints.app); done) | ((repeat first | assumption | (apply ver_ints <;> first | assumption | (first | rfl | (simp only [List.length_append, List.length_cons, List.length_nil, List.length_set]; done) | (simp only [List.length_append, List.length_cons, List.length_nil, List.length_set]; omega))) | apply Ints.app); done)) | (apply asTak; (repeat first | assumption | (refine TakAt.new ?_; (first | rfl | (simp only [List.length_append, List.length_cons, List.length_nil, List.length_set]; done) | (simp only [List.length_append, List.length_cons, List.length_nil, List.length_set]; omega))) | apply TakAt.app); done) | (apply asScal; (first | apply allS1 | apply allS2 | apply allS3 | apply allS4) <;> (first | exact One.int | exact One.bool | exact newV_one | exact nlV_one | exact grV_one | exact cloneV_one | exact takF_one | assumption | exact Ints.one (by assumption) | exact slcV_one (by assumption) | exact Bytes.one (by assumption) | exact One.lit ⟨rfl, rfl, rfl⟩)) | exact litT rfl | exact litF rfl | omega | (simp only [List.length_append, List.length_cons, List.length_nil, lst_len, List.length_set, ints_length, List.length_reverse]; first | done | omega) | fail) : p := h
attribute [-go_sem] put_ne put_same
attribute [local go_sem ↓] put_if


theorem st15 {base : Nat} {l : List Oper} {s : St} {Q : AExit → St → Prop} : WP prog raw base (.region 3 l.toArray false) s Q = WPS prog raw base (.region 3 l.toArray false) s Q := WP_stop
attribute [local go_sem ↓ 3000] st15
set_option maxRecDepth 100000 in
set_option maxHeartbeats 4000000 in
theorem run15 (hA : Awake) {base : Nat} {h : Heap} {v : AVal} {silk : List Int} {x1 x2 : Int} (hB : Bytes h v silk) (hx1 : 0 ≤ x1 ∧ x1 ≤ 255) (hx2 : 0 ≤ x2 ∧ x2 ≤ 255) :
    callL prog raw base (.fn 15 [] []) [v, .int .u8 x1, .int .u8 x2] h = some (.bool true, h) := by
  unfold Awake at hA
  obtain ⟨W, K, S, C, E, hC, hW, hCl, hE1, hE2, hmc⟩ := mc_pkg (silk := silk) (k := 0) (width := 4) (cards := 6) (by omega) (by omega) (by omega)
  have hsC := small_chn hC
  obtain ⟨hw8, hn, hkk, hss, hst, hx⟩ := chkC_ok hC
  obtain ⟨w, rfl⟩ := Int.eq_ofNat_of_zero_le (show 0 ≤ W by omega)
  have hlst := perN_lst (w := w) (k := K.toNat) (s := S.toNat) (l := C) (by omega) (by omega)
  have hper := lift_per (w := w) (k := K.toNat) (s := S.toNat) (l := C) (by omega)
  have hdv := hlst.dvd hper
  have hrb := rndN_bd (k := K.toNat) (n := C.length) (w := w) hn.1 hn.2 (by omega) (by omega)
  have e1 : perS (w : Int) C K S = (((perN w C K.toNat S.toNat : Nat) : Int), 0) := by unfold perS; rw [if_neg (by simp [hC])]; rfl
  have hcw : C.length * w ≤ 6 * 4 := Nat.mul_le_mul (by omega) (by omega)
  have hR24 : rndN K.toNat C.length w ≤ 24 := by
    unfold rndN
    split
    · omega
    · split <;> omega
  have hnR : perN w C K.toNat S.toNat ≤ rndN K.toNat C.length w := by
    rcases Nat.lt_or_ge (rndN K.toNat C.length w) (perN w C K.toNat S.toNat) with hh | hh
    · rw [Nat.mod_eq_of_lt hh] at hdv; omega
    · exact hh
  have hpn := hlst.2.1
  have hn1 := hlst.1
  obtain ⟨n, en⟩ : ∃ n, perN w C K.toNat S.toNat = n := ⟨_, rfl⟩
  rw [en] at hlst hdv e1 hnR hpn hn1
  have hn48 : 1 ≤ n ∧ n ≤ 48 := by omega
  have r1 := remN (x := x1) (n := n) hx1.1 (by omega)
  have hkn := Nat.mod_lt x1.toNat (show n > 0 by omega)
  generalize x1.toNat % n = k at *
  have h256 : 2 ^ w ≤ 256 := Nat.le_trans (Nat.pow_le_pow_right (by decide) (show w ≤ 8 by omega)) (by decide)
  have hBp : 0 < 2 ^ w := Nat.pow_pos (by decide)
  have hB1 : ((2 : Int) ^ w) = ((2 ^ w : Nat) : Int) := by simp
  have hshl : ∀ {t : TypeId}, binA prog .shl t (.int .i64 1) (.int .i64 (w : Int)) = some (.int .i64 ((2 ^ w : Nat) : Int)) := fun {t} => by
    rw [bin_shl (by omega)]
    have e1 : min ((w : Int)).toNat IntKind.i64.bits = w := by simp [IntKind.bits]; omega
    rw [e1, Int.one_mul, hB1, wrap64 (by omega) (by omega)]
  have hag := fun x h => again_dif (x := x) (k := k) hC hn48 hpn hkn h
  simp only [Int.toNat_natCast] at hag
  simp only [hB1] at hag
  have hlk : liftN w C K.toNat S.toNat k < 2 ^ w := by
    have h1 := (chk_ok (wov_ok hC hn48)).2.2 _ (getD_mem (i := k) (by unfold wov; rw [lst_len]; exact hkn))
    rw [wov_get hkn] at h1
    simp only [Int.toNat_natCast, hB1] at h1
    omega
  have r2 := remN (x := x2) (n := 2 ^ w) hx2.1 hBp
  have hxb := Nat.mod_lt x2.toNat hBp
  generalize x2.toNat % 2 ^ w = x at *
  generalize 2 ^ w = B at *
  obtain ⟨L, eL⟩ : ∃ L, wov (w : Int) C K S n = L := ⟨_, rfl⟩
  have hwl : ∀ i, (wov (w : Int) C K S i).length = i := fun i => by unfold wov; rw [lst_len]
  have hwg : ∀ i t, t < i → (wov (w : Int) C K S i).getD t 0 = ((liftN w C K.toNat S.toNat t : Nat) : Int) := fun i t h => by rw [wov_get h, Int.toNat_natCast]
  have w0 : wov (w : Int) C K S 0 = [] := rfl
  have ws : ∀ n, wov (w : Int) C K S (n + 1) = wov (w : Int) C K S n ++ [((liftN w C K.toNat S.toNat n : Nat) : Int)] := fun n => lst_succ
  have hLl := hwl n
  have hLg := hwg n k hkn
  have hLok := wov_ok hC hn48
  rw [eL] at hag hLl hLg hLok
  have hsL := small_of hLok
  obtain ⟨dS0, dA0, dB0, dW0⟩ := hag ((liftN w C K.toNat S.toNat k : Nat) : Int) (by omega)
  obtain ⟨dS, dA, dB, dW⟩ := hag (x : Int) (by omega)
  have hself : L.set k ((liftN w C K.toNat S.toNat k : Nat) : Int) = L := by
    rw [← hLg]
    refine List.ext_getElem (by simp) fun i h1 h2 => ?_
    rw [List.getElem_set]
    split
    · rename_i e; subst e; rw [List.getD_eq_getElem?_getD, List.getElem?_eq_getElem h2]; rfl
    · rfl
  rw [hself, if_pos rfl] at dA0
  rw [hself] at dS0
  have hgx : (L.set k (x : Int)).getD k 0 = (x : Int) := getD_set_eq (by omega)
  have hlS : (L.set k (x : Int)).length = n := by rw [List.length_set, hLl]
  have hsS : Small (L.set k (x : Int)) := small_chn dS
  have f1 : difS (w : Int) C K S (w : Int) L 0 0 = (0, 6) := by
    unfold difS
    rw [if_neg (by simp [hC]), if_neg (by simp [dS0]), if_neg (by simp)]
    simp only [Int.toNat_natCast, Int.toNat_zero]
    rw [dA0]
  refine callL_run func15 rfl rfl ?_
  have hsp := @Nat.succ_ne_zero; repeat' (first | simp (disch := first | exact Nat.ne_of_beq_eq_false rfl | assumption | exact dschM15 | fail) only [go_sem, ↓reduceIte, hsp, chn, pap, run32, hmc, e1, tup2] | refine WP_draw (by kernel_rfl) ?_ | refine cnd_intro (fun hsp => ?_) (fun hsp => ?_))
  refine WPS_rest fun F G eF eG => ?_
  rw [WP_region]
  have kF1 := congrFun eF 1; (try simp (disch := first | exact Nat.ne_of_beq_eq_false rfl | assumption | exact dschM15 | fail) only [go_sem, ↓reduceIte] at kF1)
  have kF2 := congrFun eF 2; (try simp (disch := first | exact Nat.ne_of_beq_eq_false rfl | assumption | exact dschM15 | fail) only [go_sem, ↓reduceIte] at kF2)
  have kF7 := congrFun eF 7; (try simp (disch := first | exact Nat.ne_of_beq_eq_false rfl | assumption | exact dschM15 | fail) only [go_sem, ↓reduceIte] at kF7)
  have kF8 := congrFun eF 8; (try simp (disch := first | exact Nat.ne_of_beq_eq_false rfl | assumption | exact dschM15 | fail) only [go_sem, ↓reduceIte] at kF8)
  have kF9 := congrFun eF 9; (try simp (disch := first | exact Nat.ne_of_beq_eq_false rfl | assumption | exact dschM15 | fail) only [go_sem, ↓reduceIte] at kF9)
  have gF7 := congrArg (fun X => atP X (F 7)) eG; (try simp only [kF7, atP_ptr] at gF7); (try simp (disch := first | exact Nat.ne_of_beq_eq_false rfl | assumption | exact dschM15 | fail) only [go_sem, ↓reduceIte] at gF7)
  have lG := congrArg List.length eG; (try simp (disch := first | exact Nat.ne_of_beq_eq_false rfl | assumption | exact dschM15 | fail) only [go_sem, ↓reduceIte] at lG)
  have xG : Ext h G := by rw [eG]; repeat' first | exact Ext.refl | refine Ext.app ?_
  obtain ⟨a7, k7, V7, g7, i7⟩ : ∃ a, F 7 = .ptr (some ⟨a, 0, 0⟩) ∧ ∃ V, G[a]? = some ⟨.cells [.int .i64 (w : Int), V, .int .i64 K, .int .i64 S] 34 false false, 0⟩ ∧ Ints G V (C) := ⟨_, kF7, _, gF7, by rw [eG]; exact dschM15⟩
  have b7 := lt_of_get g7; clear kF7 gF7
  clear eG lG eF
  have hG := xG.len
  have c1 : ((n : Int) < 1) = False := eq_false (by omega)
  have c2 : ((n : Int) > 48) = False := eq_false (by omega)
  have hsp := @Nat.succ_ne_zero; repeat' (first | simp (disch := first | exact Nat.ne_of_beq_eq_false rfl | assumption | exact dschM15 | fail) only [go_sem, ↓reduceIte, hsp, chn, pap, kF1, kF2, k7, kF8, kF9, g7, g7, c1, c2, eq_self, decide_true, if_true, Bool.false_eq_true] | refine WP_draw (by kernel_rfl) ?_ | refine cnd_intro (fun hsp => ?_) (fun hsp => ?_))
  refine WP_count [(11, 11), (44, 55)] 0 n (Nat.zero_le _) (fun H i fr h => fr 44 = .int .i64 (i : Int) ∧ h = H.set G.length ⟨.cells [.int .i64 (w : Int), grV H.length (wov (w : Int) C K S i), .int .i64 0, .int .i64 0] 34 false false, 0⟩ ++ grH (wov (w : Int) C K S i)) ?_ ?_ ?_
  · refine ⟨by (simp (disch := first | exact Nat.ne_of_beq_eq_false rfl | assumption | exact dschM15 | fail) only [go_sem, ↓reduceIte, Int.natCast_zero]; first | done | rfl), ?_⟩
    simp only [w0, grV_nil, grH_nil, List.append_nil]
    simp (disch := first | exact Nat.ne_of_beq_eq_false rfl | assumption | exact dschM15 | fail) only [go_sem, ↓reduceIte]
  · rintro i fr H hi0 hi hA2 ⟨r44, rfl⟩
    have q7 := hA2 7 rfl; (try simp (disch := first | exact Nat.ne_of_beq_eq_false rfl | assumption | exact dschM15 | fail) only [go_sem, ↓reduceIte, k7] at q7)
    have q10 := hA2 10 rfl; (try simp (disch := first | exact Nat.ne_of_beq_eq_false rfl | assumption | exact dschM15 | fail) only [go_sem, ↓reduceIte] at q10)
    have q43 := hA2 43 rfl; (try simp (disch := first | exact Nat.ne_of_beq_eq_false rfl | assumption | exact dschM15 | fail) only [go_sem, ↓reduceIte] at q43)
    have hlt : ((i : Int) < (n : Int)) = True := eq_true (by omega)
    have htl : (wov (w : Int) C K S i).length < 1073741824 := by rw [hwl]; omega
    have hin : 0 ≤ (i : Int) ∧ (i : Int) ≤ 10000000 := by omega
    have hsp := @Nat.succ_ne_zero; repeat' (first | simp (disch := first | exact Nat.ne_of_beq_eq_false rfl | assumption | exact dschM15 | fail) only [go_sem, ↓reduceIte, hsp, chn, pap, r44, q7, q10, q43, g7, hlt, Int.toNat_natCast] | refine WP_draw (by kernel_rfl) ?_ | refine cnd_intro (fun hsp => ?_) (fun hsp => ?_))
    refine ⟨by (repeat first | exact Agree.refl | assumption | refine Agree.put rfl ?_ | refine Agree.put0 ?_ | refine Agree.sub rfl (by assumption) ?_), ?_⟩
    rw [ws]
    first | exact ⟨by omega, rfl⟩ | rfl | (refine ⟨by first | rfl | omega | (simp (disch := first | exact Nat.ne_of_beq_eq_false rfl | assumption | exact dschM15 | fail) only [go_sem, ↓reduceIte, Int.natCast_zero]; first | done | rfl), ?_⟩; simp (disch := first | exact Nat.ne_of_beq_eq_false rfl | assumption | exact dschM15 | fail) only [go_sem, ↓reduceIte])
  · rintro fr H hA2 ⟨r44, rfl⟩
    have p1 := hA2 1 rfl; (try simp (disch := first | exact Nat.ne_of_beq_eq_false rfl | assumption | exact dschM15 | fail) only [go_sem, ↓reduceIte, kF1] at p1)
    have p2 := hA2 2 rfl; (try simp (disch := first | exact Nat.ne_of_beq_eq_false rfl | assumption | exact dschM15 | fail) only [go_sem, ↓reduceIte, kF2] at p2)
    have p7 := hA2 7 rfl; (try simp (disch := first | exact Nat.ne_of_beq_eq_false rfl | assumption | exact dschM15 | fail) only [go_sem, ↓reduceIte, k7] at p7)
    have p8 := hA2 8 rfl; (try simp (disch := first | exact Nat.ne_of_beq_eq_false rfl | assumption | exact dschM15 | fail) only [go_sem, ↓reduceIte, kF8] at p8)
    have p9 := hA2 9 rfl; (try simp (disch := first | exact Nat.ne_of_beq_eq_false rfl | assumption | exact dschM15 | fail) only [go_sem, ↓reduceIte, kF9] at p9)
    have p10 := hA2 10 rfl; (try simp (disch := first | exact Nat.ne_of_beq_eq_false rfl | assumption | exact dschM15 | fail) only [go_sem, ↓reduceIte] at p10)
    have p43 := hA2 43 rfl; (try simp (disch := first | exact Nat.ne_of_beq_eq_false rfl | assumption | exact dschM15 | fail) only [go_sem, ↓reduceIte] at p43)
    have hlt : (((n : Nat) : Int) < (n : Int)) = False := eq_false (by omega)
    rw [eL]
    have hne : L ≠ [] := by intro e; rw [e, List.length_nil] at hLl; omega
    have gr1 : ∀ {m : Nat}, grV m L = .slice (some ⟨m, n - 1, 0⟩) n n := fun {m} => by
      have : ∀ l : List Int, l ≠ [] → grV m l = .slice (some ⟨m, l.length - 1, 0⟩) l.length l.length := fun l hl => by cases l with | nil => exact absurd rfl hl | cons x xs => rfl
      rw [this _ hne, hLl]
    have gr2 : grH L = [rowB L (n - 1)] := by
      have : ∀ l : List Int, l ≠ [] → grH l = [rowB l (l.length - 1)] := fun l hl => by cases l with | nil => exact absurd rfl hl | cons x xs => rfl
      rw [this _ hne, hLl]
    have hnn : n = L.length := hLl.symm
    have hnn2 : n = (L.set k (x : Int)).length := hlS.symm
    by_cases hxe : (x : Int) = ((liftN w C K.toNat S.toNat k : Nat) : Int)
    · have f2 : difS (w : Int) C K S (w : Int) (L.set k (x : Int)) 0 0 = (0, 6) := by
        unfold difS
        rw [if_neg (by simp [hC]), if_neg (by simp [dS]), if_neg (by simp)]
        simp only [Int.toNat_natCast, Int.toNat_zero]
        rw [dA, if_pos hxe]
      have f3 : difS (w : Int) (L.set k (x : Int)) 0 0 (w : Int) C K S = (0, 6) := by
        unfold difS
        rw [if_neg (by simp [dS]), if_neg (by simp [hC]), if_neg (by simp)]
        simp only [Int.toNat_natCast, Int.toNat_zero]
        rw [dB, if_pos hxe]
      have c5 : ((x : Int) = ((liftN w C K.toNat S.toNat k : Nat) : Int)) = True := eq_true hxe
      have hsp := @Nat.succ_ne_zero; repeat' (first | simp (disch := first | exact Nat.ne_of_beq_eq_false rfl | assumption | exact dschM15 | fail) only [go_sem, ↓reduceIte, hsp, chn, pap, r44, p1, p2, p7, p8, p9, p10, p43, g7, hlt, gr1, gr2, f1, f2, f3, tup2, cvt53, r1, r2, hshl, hgx, c5, hA, Fc.as22, Fc.ln22, Int.toNat_natCast, eq_self, decide_true, if_true, Bool.false_eq_true] | refine WP_draw (by kernel_rfl) ?_ | refine cnd_intro (fun hsp => ?_) (fun hsp => ?_))
      exact fin_pl rfl rfl (by repeat' first | exact xG | refine Ext.app ?_)
    · have f2 : difS (w : Int) C K S (w : Int) (L.set k (x : Int)) 0 0 = ((k : Int), 0) := by
        unfold difS
        rw [if_neg (by simp [hC]), if_neg (by simp [dS]), if_neg (by simp)]
        simp only [Int.toNat_natCast, Int.toNat_zero]
        rw [dA, if_neg hxe]
      have f3 : difS (w : Int) (L.set k (x : Int)) 0 0 (w : Int) C K S = ((k : Int), 0) := by
        unfold difS
        rw [if_neg (by simp [dS]), if_neg (by simp [hC]), if_neg (by simp)]
        simp only [Int.toNat_natCast, Int.toNat_zero]
        rw [dB, if_neg hxe]
      have c5 : ((x : Int) = ((liftN w C K.toNat S.toNat k : Nat) : Int)) = False := eq_false hxe
      by_cases hk0 : 0 < k
      · have c6 : ((k : Int) > 0) = True := eq_true (by omega)
        have f4 : weaveS (w : Int) C K S k = ((w : Int), wov w C K S k, 0) := by
          unfold weaveS; rw [if_neg (by simp [hC]), if_neg (by omega), Int.toNat_natCast]
        have f5 : weaveS (w : Int) (L.set k (x : Int)) 0 0 k = ((w : Int), wov w C K S k, 0) := by
          unfold weaveS; rw [if_neg (by simp [dS]), if_neg (by omega), Int.toNat_natCast, dW k (Nat.le_refl _)]
        have hwk := hwl k
        have hsk := small_of (wov_ok hC (n := k) (by omega))
        generalize wov (w : Int) C K S k = Q at *
        have hneQ : Q ≠ [] := by rintro rfl; simp at hwk; omega
        have n1 : ∀ {m : Nat}, nlV m Q = .slice (some ⟨m, 0, 0⟩) Q.length Q.length := fun {m} => nlV_ne hneQ
        have n2 : newH Q = [rowB Q 0] := newH_ne hneQ
        have hsp := @Nat.succ_ne_zero; repeat' (first | simp (disch := first | exact Nat.ne_of_beq_eq_false rfl | assumption | exact dschM15 | fail) only [go_sem, ↓reduceIte, hsp, chn, pap, r44, p1, p2, p7, p8, p9, p10, p43, g7, hlt, gr1, gr2, f1, f2, f3, f4, f5, run30, and_self, n1, n2, tup2, cvt53, r1, r2, hshl, hgx, c5, c6, hA, Fc.as22, Fc.ln22, Int.toNat_natCast, eq_self, decide_true, if_true, Bool.false_eq_true] | refine WP_draw (by kernel_rfl) ?_ | refine cnd_intro (fun hsp => ?_) (fun hsp => ?_))
        exact fin_pl rfl rfl (by repeat' first | exact xG | refine Ext.app ?_)
      · have c6 : ((k : Int) > 0) = False := eq_false (by omega)
        have hsp := @Nat.succ_ne_zero; repeat' (first | simp (disch := first | exact Nat.ne_of_beq_eq_false rfl | assumption | exact dschM15 | fail) only [go_sem, ↓reduceIte, hsp, chn, pap, r44, p1, p2, p7, p8, p9, p10, p43, g7, hlt, gr1, gr2, f1, f2, f3, tup2, cvt53, r1, r2, hshl, hgx, c5, c6, hA, Fc.as22, Fc.ln22, Int.toNat_natCast, eq_self, decide_true, if_true, Bool.false_eq_true] | refine WP_draw (by kernel_rfl) ?_ | refine cnd_intro (fun hsp => ?_) (fun hsp => ?_))
        exact fin_pl rfl rfl (by repeat' first | exact xG | refine Ext.app ?_)
end Go.AM
