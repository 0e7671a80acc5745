/-
  The law CardRuns.
-/
import Derived.Test.YtppkmjfplhenmaaM0
import Derived.Test.YtppkmjfplhenmaaP9
import Derived.Test.YtppkmjfplhenmaaQ1
set_option linter.unusedSimpArgs false
set_option linter.unusedVariables false
namespace Go.AM
open Go.Proofs.Try
theorem dschM16 {p : Prop} (h : p := by first | exact Nat.ne_of_beq_eq_false rfl | assumption | (apply asOne; (first | exact One.int | exact One.bool | exact newV_one | exact nlV_one | exact grV_one | exact cloneV_one | exact takF_one | assumption | exact Ints.one (by assumption) | exact slcV_one (by assumption) | exact Bytes.one (by assumption) | exact One.lit ⟨rfl, rfl, rfl⟩)) | (apply asSp; (repeat first | assumption | apply SpAt.set | (refine SpAt.new ?_ (by (first | rfl | (simp only [List.length_append, List.length_cons, List.length_nil, List.length_set]; done) | (simp only [List.length_append, List.length_cons, List.length_nil, List.length_set]; omega)))) | apply SpAt.app | apply Bytes.app); done) | (apply asBytes; (repeat first | assumption | apply Bytes.app); done) | (apply asInts; first | ((repeat first | assumption | (apply nlV_ints <;> first | assumption | (first | rfl | (simp only [List.length_append, List.length_cons, List.length_nil, List.length_set]; done) | (simp only [List.length_append, List.length_cons, List.length_nil, List.length_set]; omega))) | exact ints_nil | (apply newV_ints' <;> first | assumption | (first | rfl | (simp only [List.length_append, List.length_cons, List.length_nil, List.length_set]; done) | (simp only [List.length_append, List.length_cons, List.length_nil, List.length_set]; omega))) | (apply grV_ints <;> first | assumption | (first | rfl | (simp only [List.length_append, List.length_cons, List.length_nil, List.length_set]; done) | (simp only [List.length_append, List.length_cons, List.length_nil, List.length_set]; omega))) | (apply Ints.slc <;> first | (repeat first | assumption | apply Ints.app); done | omega) | apply Ints.app); done) | ((repeat first | (apply slice_row <;> first | assumption | (first | rfl | (simp only [List.length_append, List.length_cons, List.length_nil, List.length_set]; done) | (simp only [List.length_append, List.length_cons, List.length_nil, List.length_set]; omega))) | apply Ints.app); done)) | (apply asTak; (repeat first | assumption | (refine TakAt.new ?_; (first | rfl | (simp only [List.length_append, List.length_cons, List.length_nil, List.length_set]; done) | (simp only [List.length_append, List.length_cons, List.length_nil, List.length_set]; omega))) | apply TakAt.app); done) | (apply asScal; (first | apply allS1 | apply allS2 | apply allS3 | apply allS4) <;> (first | exact One.int | exact One.bool | exact newV_one | exact nlV_one | exact grV_one | exact cloneV_one | exact takF_one | assumption | exact Ints.one (by assumption) | exact slcV_one (by assumption) | exact Bytes.one (by assumption) | exact One.lit ⟨rfl, rfl, rfl⟩)) | exact litT rfl | exact litF rfl | omega | (simp only [List.length_append, List.length_cons, List.length_nil, lst_len, List.length_set, ints_length, List.length_reverse]; first | done | omega) | fail) : p := h
attribute [-go_sem] put_ne put_same
attribute [local go_sem ↓] put_if


theorem bytes_at {h G : Heap} {v : AVal} {l : List Int} (hB : Bytes h v l) (x : Ext h G) : Bytes G v l := by
  obtain ⟨T, rfl⟩ := x
  exact hB.app

theorem Ints.low_app {h T : Heap} {v : AVal} {l : List Int} (hI : Ints h v l) : refsLow (h ++ T).length v := by
  rcases hI.2 with ⟨rfl, _⟩ | ⟨rfl, _⟩ | ⟨r, k, c, e, row, ro, rfl, h2, _⟩
  · rfl
  · rfl
  · refine refsLow_slice ?_
    have := lt_of_get h2
    rw [List.length_append]; omega

theorem st16 {base : Nat} {l : List Oper} {s : St} {Q : AExit → St → Prop} : WP prog raw base (.region 2 l.toArray false) s Q = WPS prog raw base (.region 2 l.toArray false) s Q := WP_stop
attribute [local go_sem ↓ 3000] st16
theorem st16b {base : Nat} {l : List Oper} {s : St} {Q : AExit → St → Prop} : WP prog raw base (.region 11 l.toArray false) s Q = WPS prog raw base (.region 11 l.toArray false) s Q := WP_stop
attribute [local go_sem ↓ 3000] st16b
theorem st16c {base : Nat} {l : List Oper} {s : St} {Q : AExit → St → Prop} : WP prog raw base (.region 19 l.toArray true) s Q = WPS prog raw base (.region 19 l.toArray true) s Q := WP_stop
attribute [local go_sem ↓ 3000] st16c
theorem st16d {base : Nat} {l : List Oper} {s : St} {Q : AExit → St → Prop} : WP prog raw base (.region 17 l.toArray false) s Q = WPS prog raw base (.region 17 l.toArray false) s Q := WP_stop
attribute [local go_sem ↓ 3000] st16d
set_option maxRecDepth 100000 in
set_option maxHeartbeats 1000000 in
theorem run16 (hA : Awake) {base : Nat} {h : Heap} {v v2 v3 : AVal} {silk silk2 silk3 : List Int} (hB : Bytes h v silk) (hB2 : Bytes h v2 silk2) (hB3 : Bytes h v3 silk3) :
    callL prog raw base (.fn 16 [] []) [v, v2, v3] h = some (.bool true, h) := by
  unfold Awake at hA
  obtain ⟨W, K, S, L, C, E, hL, hC, hW, hLl, hCl, hE, hmd⟩ := md_pkg (silk := silk) (k := 0) (width := 3) (cards := 5) (throws := 20) (changed := 4) (by omega) (by omega) (by omega) (by omega) (by omega)
  obtain ⟨W2, K2, S2, L2, C2, E2, hL2, hC2, hW2, hLl2, hCl2, hE2, hmd2⟩ := md_pkg (silk := silk2) (k := 0) (width := 3) (cards := 5) (throws := 20) (changed := 4) (by omega) (by omega) (by omega) (by omega) (by omega)
  obtain ⟨hw8, hn, hx⟩ := chk_ok hL
  obtain ⟨hw82, hn2, hx2⟩ := chk_ok hL2
  have hLQ := remL_ok (W := W) hw8 hL2
  obtain ⟨w, rfl⟩ := Int.eq_ofNat_of_zero_le (show 0 ≤ W by omega)
  have h256 : 2 ^ w ≤ 256 := Nat.le_trans (Nat.pow_le_pow_right (by decide) (show w ≤ 8 by omega)) (by decide)
  have hB1 : ((2 : Int) ^ w) = ((2 ^ w : Nat) : Int) := by simp
  have hBp : 0 < 2 ^ w := Nat.pow_pos (by decide)
  have hshl : ∀ {t : TypeId}, binA prog .shl t (.int .i64 1) (.int .i64 (w : Int)) = some (.int .i64 ((2 ^ w : Nat) : Int)) := fun {t} => by
    rw [bin_shl (by omega)]
    have e1 : min ((w : Int)).toNat IntKind.i64.bits = w := by simp [IntKind.bits]; omega
    rw [e1, Int.one_mul, hB1, wrap64 (by omega) (by omega)]
  rw [Int.toNat_natCast] at hLQ
  have hin : ∀ t, t < L2.length → 0 ≤ L2.getD t 0 ∧ L2.getD t 0 ≤ 255 := fun t ht => by
    have h1 := hx2 _ (getD_mem ht)
    have h2 := pow_256 hw82.1 hw82.2
    omega
  obtain ⟨f, ef⟩ : ∃ f : Nat → Int, f = fun t => (((L2.getD t 0).toNat % 2 ^ w : Nat) : Int) := ⟨_, rfl⟩
  have hf : ∀ t, t < L2.length → binA prog .rem 3 (.int .i64 (L2.getD t 0)) (.int .i64 ((2 ^ w : Nat) : Int)) = some (.int .i64 (f t)) := fun t ht => by
    rw [remN (hin t ht).1 hBp, ef]
  have hfb : ∀ t, 0 ≤ f t ∧ f t ≤ 255 := fun t => by
    have := Nat.mod_lt (L2.getD t 0).toNat hBp
    rw [ef]
    show 0 ≤ (((L2.getD t 0).toNat % 2 ^ w : Nat) : Int) ∧ (((L2.getD t 0).toNat % 2 ^ w : Nat) : Int) ≤ 255
    generalize (L2.getD t 0).toNat % 2 ^ w = y at *
    omega
  obtain ⟨LQ, eQ⟩ : ∃ LQ, remL w L2 = LQ := ⟨_, rfl⟩
  have lQ : LQ.length = L2.length := by rw [← eQ]; exact remL_len
  obtain ⟨mx, emx⟩ : ∃ mx : Nat → List Int, mx = fun i => lst (fun t => if t < i then f t else L2.getD t 0) L2.length := ⟨_, rfl⟩
  have m0 : mx 0 = L2 := by
    rw [emx]; dsimp only
    simp only [Nat.not_lt_zero, if_false]
    exact lst_ext lst_len fun j hj => by rw [lst_len] at hj; rw [lst_get hj]
  have mN : mx L2.length = LQ := by
    rw [← eQ, emx]; dsimp only
    unfold remL
    exact lst_congr fun t ht => by rw [if_pos ht, ef]
  have ml : ∀ i, (mx i).length = L2.length := fun i => by rw [emx]; dsimp only; rw [lst_len]
  have mg : ∀ i, i < L2.length → (mx i).getD i 0 = L2.getD i 0 := fun i hi => by rw [emx]; dsimp only; rw [lst_get hi, if_neg (by omega)]
  have msm : ∀ i, Small (mx i) := fun i => ⟨by rw [ml]; omega, fun x hx => by
    rw [emx] at hx
    obtain ⟨t, ht, rfl⟩ := List.mem_map.1 hx
    have ht2 := List.mem_range.1 ht
    have := hfb t
    have := hin t ht2
    split <;> omega⟩
  have ms : ∀ i, i < L2.length → (mx i).set i (f i) = mx (i + 1) := fun i hi => by
    refine List.ext_getElem (by rw [List.length_set, ml, ml]) fun j h1 h2 => ?_
    rw [List.getElem_set]
    have hj : j < L2.length := by rw [ml] at h2; exact h2
    have g : ∀ n, (h : j < (mx n).length) → (mx n)[j] = if j < n then f j else L2.getD j 0 := fun n h => by
      have := lst_get (f := fun t => if t < n then f t else L2.getD t 0) hj
      rw [List.getD_eq_getElem?_getD] at this
      have e : (lst (fun t => if t < n then f t else L2.getD t 0) L2.length) = mx n := by rw [emx]
      rw [e, List.getElem?_eq_getElem h] at this
      exact this
    rw [g, g]
    by_cases e : i = j
    · subst e; rw [if_pos rfl, if_pos (by omega)]
    · rw [if_neg e]
      by_cases e2 : j < i
      · rw [if_pos e2, if_pos (by omega)]
      · rw [if_neg e2, if_neg (by omega)]
  have hsL := small_of hL
  have hsQ := small_of hLQ
  have hsL2 := small_of hL2
  rw [eQ] at hLQ hsQ
  generalize 2 ^ w = B at *
  have hLn : L.length ≤ 20 := by omega
  have hLQn : LQ.length ≤ 20 := by omega
  have hbs : bothS (w : Int) L (w : Int) LQ = 0 := by unfold bothS; rw [if_neg (by simp [hL]), if_neg (by simp [hLQ]), if_neg (by simp)]
  have hbs2 : bothS (w : Int) LQ (w : Int) L = 0 := by unfold bothS; rw [if_neg (by simp [hLQ]), if_neg (by simp [hL]), if_neg (by simp)]
  have hbs3 : bothS (w : Int) L (w : Int) L = 0 := by unfold bothS; rw [if_neg (by simp [hL]), if_neg (by simp [hL]), if_neg (by simp)]
  have hLp : L.length ≠ 0 := by omega
  have hown := own_run (p := L) (by omega)
  have e3 : shareS (w : Int) L (w : Int) L = ((0, 0, L.length, false), 0) := by unfold shareS; rw [if_neg (by simp [hbs3]), hown, if_neg hLp]
  have hLr : chk (w : Int) L.reverse = 0 := by
    unfold chk
    rw [if_neg (by omega), if_neg (by rw [List.length_reverse]; omega), if_neg]
    exact fun hh => hh (List.all_eq_true.2 fun x hxm => decide_eq_true (hx x (List.mem_reverse.1 hxm)))
  have htr : turnS (w : Int) L = ((w : Int), L.reverse, 0) := by unfold turnS; rw [if_neg (by simp [hL])]
  have hbs4 : bothS (w : Int) L (w : Int) L.reverse = 0 := by unfold bothS; rw [if_neg (by simp [hL]), if_neg (by simp [hLr]), if_neg (by simp)]
  have htl := turned_run (p := L) (by omega)
  obtain ⟨ta, tb, tm, td, etS⟩ : ∃ a b c d, shAll L L.reverse L.length = (a, b, c, d) := ⟨_, _, _, _, rfl⟩
  rw [etS] at htl
  obtain rfl : tm = L.length := htl
  have e4 : shareS (w : Int) L (w : Int) L.reverse = ((ta, tb, L.length, td), 0) := by unfold shareS; rw [if_neg (by simp [hbs4]), etS, if_neg hLp]
  have hlong := long_swap (p := L) (q := LQ)
  have hmin := long_min (p := L) (q := LQ)
  have his := long_is (p := L) (q := LQ)
  have hbest := fun a b k n => long_best (p := L) (q := LQ) (a := a) (b := b) (k := k) (L := n)
  have hz := (sh_spec (p := L) (q := LQ)).2
  have hz2 := (sh_spec (p := LQ) (q := L)).2
  obtain ⟨ra, rb, rm, rk, eS⟩ : ∃ a b c d, shAll L LQ L.length = (a, b, c, d) := ⟨_, _, _, _, rfl⟩
  obtain ⟨sa, sb, sm, sk, eS2⟩ : ∃ a b c d, shAll LQ L LQ.length = (a, b, c, d) := ⟨_, _, _, _, rfl⟩
  rw [eS, eS2] at hlong
  rw [eS] at hmin his hbest hz
  rw [eS2] at hz2
  dsimp only at hlong hmin his hbest
  subst hlong
  obtain ⟨e, he, e1, e2⟩ : ∃ e : Int, ((e = 0 ∧ 0 < rm) ∨ (e = 6 ∧ rm = 0)) ∧ shareS (w : Int) L (w : Int) LQ = ((ra, rb, rm, rk), e) ∧ shareS (w : Int) LQ (w : Int) L = ((sa, sb, rm, sk), e) := by
    by_cases h0 : rm = 0
    · refine ⟨6, .inr ⟨rfl, h0⟩, ?_, ?_⟩
      · unfold shareS
        rw [if_neg (by simp [hbs]), eS, if_pos h0]
        rcases hz with h1 | h1
        · rw [h1]
        · have := h1.1; dsimp only at this; omega
      · unfold shareS
        rw [if_neg (by simp [hbs2]), eS2, if_pos h0]
        rcases hz2 with h1 | h1
        · rw [h1]
        · have := h1.1; dsimp only at this; omega
    · refine ⟨0, .inl ⟨rfl, by omega⟩, ?_, ?_⟩
      · unfold shareS; rw [if_neg (by simp [hbs]), eS, if_neg h0]
      · unfold shareS; rw [if_neg (by simp [hbs2]), eS2, if_neg h0]
  have hz0 : rm = 0 → ra = 0 ∧ rb = 0 := fun h0 => by
    rcases hz with h1 | h1
    · simp only [Prod.mk.injEq] at h1; exact ⟨h1.1, h1.2.1⟩
    · have := h1.1; dsimp only at this; omega
  clear hz hz2 eS eS2 etS
  have hneR : L.reverse ≠ [] := fun hh => hLp (by rw [← List.length_reverse, hh]; rfl)
  have hsR := small_of hLr
  have n1 : ∀ {n : Nat}, nlV n L.reverse = .slice (some ⟨n, 0, 0⟩) L.reverse.length L.reverse.length := fun {n} => nlV_ne hneR
  have n2 : newH L.reverse = [rowB L.reverse 0] := newH_ne hneR
  have hL1000 : L.length ≤ 1000 := by omega
  have hQ1000 : LQ.length ≤ 1000 := by omega
  refine callL_run func16 rfl rfl ?_
  have hsp := @Nat.succ_ne_zero; repeat' (first | simp (disch := first | exact Nat.ne_of_beq_eq_false rfl | assumption | exact dschM16 | fail) only [go_sem, ↓reduceIte, hsp, chn, pap, run32, hmd] | refine WP_draw (by kernel_rfl) ?_ | refine cnd_intro (fun hsp => ?_) (fun hsp => ?_))
  refine WPS_rest fun F G eF eG => ?_
  rw [WP_region]
  have kF1 := congrFun eF 1; (try simp (disch := first | exact Nat.ne_of_beq_eq_false rfl | assumption | exact dschM16 | fail) only [go_sem, ↓reduceIte] at kF1)
  have kF2 := congrFun eF 2; (try simp (disch := first | exact Nat.ne_of_beq_eq_false rfl | assumption | exact dschM16 | fail) only [go_sem, ↓reduceIte] at kF2)
  have kF7 := congrFun eF 7; (try simp (disch := first | exact Nat.ne_of_beq_eq_false rfl | assumption | exact dschM16 | fail) only [go_sem, ↓reduceIte] at kF7)
  have gF7 := congrArg (fun X => atP X (F 7)) eG; (try simp only [kF7, atP_ptr] at gF7); (try simp (disch := first | exact Nat.ne_of_beq_eq_false rfl | assumption | exact dschM16 | fail) only [go_sem, ↓reduceIte] at gF7)
  have lG := congrArg List.length eG; (try simp (disch := first | exact Nat.ne_of_beq_eq_false rfl | assumption | exact dschM16 | fail) only [go_sem, ↓reduceIte] at lG)
  have xG : Ext h G := by rw [eG]; repeat' first | exact Ext.refl | refine Ext.app ?_
  obtain ⟨a7, k7, V7, g7, i7⟩ : ∃ a, F 7 = .ptr (some ⟨a, 0, 0⟩) ∧ ∃ V, G[a]? = some ⟨.cells [.int .i64 (w : Int), V] 24 false false, 0⟩ ∧ Ints G V (L) := ⟨_, kF7, _, gF7, by rw [eG]; exact dschM16⟩
  have b7 := lt_of_get g7; clear kF7 gF7
  clear eG lG eF
  have hG := xG.len
  have hB2' := bytes_at hB2 xG
  have hB3' := bytes_at hB3 xG
  have hsp := @Nat.succ_ne_zero; repeat' (first | simp (disch := first | exact Nat.ne_of_beq_eq_false rfl | assumption | exact dschM16 | fail) only [go_sem, ↓reduceIte, hsp, chn, pap, run32, hmd2, kF1, kF2, k7, g7, g7] | refine WP_draw (by kernel_rfl) ?_ | refine cnd_intro (fun hsp => ?_) (fun hsp => ?_))
  refine WP_count [(11, 11), (40, 53)] 0 L2.length (Nat.zero_le _) (fun H i fr h => fr 40 = .int .i64 (i : Int) ∧ h = G ++ [spB v2 silk2 E2] ++ [rowB (mx i) 0] ++ [rowB C2 0] ++ [⟨.cells [.int .i64 W2, .slice (some ⟨G.length + 1, 0, 0⟩) L2.length L2.length] 24 false false, 0⟩] ++ [⟨.cells [.int .i64 W2, .slice (some ⟨G.length + 1 + 1, 0, 0⟩) C2.length C2.length, .int .i64 K2, .int .i64 S2] 34 false false, 0⟩]) ?_ ?_ ?_
  · exact ⟨by (simp (disch := first | exact Nat.ne_of_beq_eq_false rfl | assumption | exact dschM16 | fail) only [go_sem, ↓reduceIte, Int.natCast_zero]; first | done | rfl), by rw [m0]⟩
  · rintro i fr H hi0 hi hG1 ⟨r40, rfl⟩
    have p2 := hG1 2 rfl; (try simp (disch := first | exact Nat.ne_of_beq_eq_false rfl | assumption | exact dschM16 | fail) only [go_sem, ↓reduceIte, kF2] at p2)
    have p7 := hG1 7 rfl; (try simp (disch := first | exact Nat.ne_of_beq_eq_false rfl | assumption | exact dschM16 | fail) only [go_sem, ↓reduceIte, k7] at p7)
    have p9 := hG1 9 rfl; simp (disch := first | exact Nat.ne_of_beq_eq_false rfl | assumption | exact dschM16 | fail) only [go_sem, ↓reduceIte, kF1, kF2, k7, g7] at p9
    have p39 := hG1 39 rfl; simp (disch := first | exact Nat.ne_of_beq_eq_false rfl | assumption | exact dschM16 | fail) only [go_sem, ↓reduceIte, kF1, kF2, k7, g7] at p39
    have hlt : ((i : Int) < (L2.length : Int)) = True := eq_true (by omega)
    have hfi := hf i hi
    have hbi := hfb i
    have hgi := mg i hi
    have hsi := ms i hi
    have hsm := msm i
    have hml := (ml i).symm
    have hin1 : (i : Int) < ((mx i).length : Int) := by omega
    have hsp := @Nat.succ_ne_zero; repeat' (first | simp (disch := first | exact Nat.ne_of_beq_eq_false rfl | assumption | exact dschM16 | fail) only [go_sem, ↓reduceIte, hsp, chn, pap, r40, p2, p7, p9, p39, g7, hlt, hshl, hfi, hgi, hsi, Fc.as22, Int.toNat_natCast] | refine WP_draw (by kernel_rfl) ?_ | refine cnd_intro (fun hsp => ?_) (fun hsp => ?_))
    first | exact ⟨by (repeat first | exact Agree.refl | assumption | refine Agree.put rfl ?_ | refine Agree.put0 ?_ | refine Agree.sub rfl (by assumption) ?_), by first | rfl | omega | (simp (disch := first | exact Nat.ne_of_beq_eq_false rfl | assumption | exact dschM16 | fail) only [go_sem, ↓reduceIte, Int.natCast_zero]; first | done | rfl)⟩ | exact ⟨by (repeat first | exact Agree.refl | assumption | refine Agree.put rfl ?_ | refine Agree.put0 ?_ | refine Agree.sub rfl (by assumption) ?_), by first | rfl | omega | (simp (disch := first | exact Nat.ne_of_beq_eq_false rfl | assumption | exact dschM16 | fail) only [go_sem, ↓reduceIte, Int.natCast_zero]; first | done | rfl), rfl⟩ | exact (by (repeat first | exact Agree.refl | assumption | refine Agree.put rfl ?_ | refine Agree.put0 ?_ | refine Agree.sub rfl (by assumption) ?_))
  · rintro fr H hG1 ⟨r40, rfl⟩
    have q2 := hG1 2 rfl; (try simp (disch := first | exact Nat.ne_of_beq_eq_false rfl | assumption | exact dschM16 | fail) only [go_sem, ↓reduceIte, kF2] at q2)
    have q7 := hG1 7 rfl; (try simp (disch := first | exact Nat.ne_of_beq_eq_false rfl | assumption | exact dschM16 | fail) only [go_sem, ↓reduceIte, k7] at q7)
    have q9 := hG1 9 rfl; (try simp (disch := first | exact Nat.ne_of_beq_eq_false rfl | assumption | exact dschM16 | fail) only [go_sem, ↓reduceIte] at q9)
    have q39 := hG1 39 rfl; (try simp (disch := first | exact Nat.ne_of_beq_eq_false rfl | assumption | exact dschM16 | fail) only [go_sem, ↓reduceIte] at q39)
    have hlt : (((L2.length : Nat) : Int) < (L2.length : Int)) = False := eq_false (by omega)
    rw [mN]
    have lQ2 := lQ.symm
    have hsp := @Nat.succ_ne_zero; repeat' (first | simp (disch := first | exact Nat.ne_of_beq_eq_false rfl | assumption | exact dschM16 | fail) only [go_sem, ↓reduceIte, hsp, chn, pap, runW, runV, r40, q2, q7, q9, q39, g7, hlt, tup2, e1, e2] | refine WP_draw (by kernel_rfl) ?_ | refine cnd_intro (fun hsp => ?_) (fun hsp => ?_))
    refine WPS_rest fun Z Y eZ eY => ?_
    rw [WP_region]
    have kZ2 := congrFun eZ 2; (try simp (disch := first | exact Nat.ne_of_beq_eq_false rfl | assumption | exact dschM16 | fail) only [go_sem, ↓reduceIte, q2] at kZ2)
    have kZ7 := congrFun eZ 7; (try simp (disch := first | exact Nat.ne_of_beq_eq_false rfl | assumption | exact dschM16 | fail) only [go_sem, ↓reduceIte, q7] at kZ7)
    have kZ9 := congrFun eZ 9; (try simp (disch := first | exact Nat.ne_of_beq_eq_false rfl | assumption | exact dschM16 | fail) only [go_sem, ↓reduceIte, q9] at kZ9)
    have kZ12 := congrFun eZ 12; (try simp (disch := first | exact Nat.ne_of_beq_eq_false rfl | assumption | exact dschM16 | fail) only [go_sem, ↓reduceIte] at kZ12)
    have kZ13 := congrFun eZ 13; (try simp (disch := first | exact Nat.ne_of_beq_eq_false rfl | assumption | exact dschM16 | fail) only [go_sem, ↓reduceIte] at kZ13)
    have kZ14 := congrFun eZ 14; (try simp (disch := first | exact Nat.ne_of_beq_eq_false rfl | assumption | exact dschM16 | fail) only [go_sem, ↓reduceIte] at kZ14)
    have kZ15 := congrFun eZ 15; (try simp (disch := first | exact Nat.ne_of_beq_eq_false rfl | assumption | exact dschM16 | fail) only [go_sem, ↓reduceIte] at kZ15)
    have gZ7 := congrArg (fun X => atP X (Z 7)) eY; (try simp only [kZ7, atP_ptr] at gZ7); (try simp (disch := first | exact Nat.ne_of_beq_eq_false rfl | assumption | exact dschM16 | fail) only [go_sem, ↓reduceIte] at gZ7)
    have gZ9 := congrArg (fun X => atP X (Z 9)) eY; (try simp only [kZ9, atP_ptr] at gZ9); (try simp (disch := first | exact Nat.ne_of_beq_eq_false rfl | assumption | exact dschM16 | fail) only [go_sem, ↓reduceIte] at gZ9)
    have gZ12 := congrArg (fun X => atP X (Z 12)) eY; (try simp only [kZ12, atP_ptr] at gZ12); (try simp (disch := first | exact Nat.ne_of_beq_eq_false rfl | assumption | exact dschM16 | fail) only [go_sem, ↓reduceIte] at gZ12)
    have gZ14 := congrArg (fun X => atP X (Z 14)) eY; (try simp only [kZ14, atP_ptr] at gZ14); (try simp (disch := first | exact Nat.ne_of_beq_eq_false rfl | assumption | exact dschM16 | fail) only [go_sem, ↓reduceIte] at gZ14)
    have lY := congrArg List.length eY; (try simp (disch := first | exact Nat.ne_of_beq_eq_false rfl | assumption | exact dschM16 | fail) only [go_sem, ↓reduceIte] at lY)
    have xY : Ext h Y := by rw [eY]; repeat' first | exact xG | refine Ext.app ?_
    have hB3Y := bytes_at hB3 xY
    rw [g7] at gZ7
    obtain ⟨a7, k7, V7, g7, i7⟩ : ∃ a, Z 7 = .ptr (some ⟨a, 0, 0⟩) ∧ ∃ V, Y[a]? = some ⟨.cells [.int .i64 (w : Int), V] 24 false false, 0⟩ ∧ Ints Y V (L) := ⟨_, kZ7, _, gZ7, by rw [eY]; exact dschM16⟩
    have b7 := lt_of_get g7; clear kZ7 gZ7
    obtain ⟨a9, k9, V9, g9, i9⟩ : ∃ a, Z 9 = .ptr (some ⟨a, 0, 0⟩) ∧ ∃ V, Y[a]? = some ⟨.cells [.int .i64 (w : Int), V] 24 false false, 0⟩ ∧ Ints Y V (LQ) := ⟨_, kZ9, _, gZ9, by rw [eY]; exact dschM16⟩
    have b9 := lt_of_get g9; clear kZ9 gZ9
    obtain ⟨a12, k12, g12⟩ : ∃ a, Z 12 = .ptr (some ⟨a, 0, 0⟩) ∧ Y[a]? = some ⟨.cells [.int .i64 (ra : Int), .int .i64 (rb : Int), .int .i64 (rm : Int), .bool rk] 82 false false, 0⟩ := ⟨_, kZ12, gZ12⟩
    have b12 := lt_of_get g12; clear kZ12 gZ12
    obtain ⟨a14, k14, g14⟩ : ∃ a, Z 14 = .ptr (some ⟨a, 0, 0⟩) ∧ Y[a]? = some ⟨.cells [.int .i64 (sa : Int), .int .i64 (sb : Int), .int .i64 (rm : Int), .bool sk] 82 false false, 0⟩ := ⟨_, kZ14, gZ14⟩
    have b14 := lt_of_get g14; clear kZ14 gZ14
    clear eY lY eZ
    have hY := xY.len
    have r70 : ∀ {base a b n : Nat} {k : Bool}, a ≤ 1000 → b ≤ 1000 → n ≤ 1000 → callL prog raw base (.fn 70 [] [.ptr (some ⟨a7, 0, 0⟩), .ptr (some ⟨a9, 0, 0⟩)]) [.agg [.int .i64 (a : Int), .int .i64 (b : Int), .int .i64 (n : Int), .bool k]] Y = some (.bool (runB L LQ a b k n), Y) := fun ha hb hn => run70 i7 i9 g7 g9 (by omega) (by omega) ha hb hn
    have r70c : ∀ {base a b n : Nat} {k : Bool} {b1 b2 : ABlk} {T : Heap}, a ≤ 1000 → b ≤ 1000 → n ≤ 1000 → callL prog raw base (.fn 70 [] [.ptr (some ⟨a7, 0, 0⟩), .ptr (some ⟨a9, 0, 0⟩)]) [.agg [.int .i64 (a : Int), .int .i64 (b : Int), .int .i64 (n : Int), .bool k]] (Y ++ [b1] ++ T ++ [b2]) = some (.bool (runB L LQ a b k n), Y ++ [b1] ++ T ++ [b2]) := fun ha hb hn => run70 i7.app.app.app i9.app.app.app (get_app (get_app (get_app g7))) (get_app (get_app (get_app g9))) (by omega) (by omega) ha hb hn
    have hne : (e ≠ e) = False := eq_false (fun hh => hh rfl)
    have hnm : ((rm : Int) ≠ (rm : Int)) = False := eq_false (fun hh => hh rfl)
    have hrm : rm ≤ 1000 := by omega
    have hrab : rm > 0 → ra < L.length ∧ rb < LQ.length := fun h0 => by
      have h1 := runAt_p (of_decide_eq_true his 0 h0)
      have : posI rb rk 0 = rb := by unfold posI; split <;> omega
      omega
    have hup : ∀ k (n : Int), 0 ≤ n → ∃ x : Nat, up silk3 k n = (x : Int) ∧ (x : Int) ≤ n := fun k n hn => by
      have := up_bd (silk := silk3) (k := k) (n := n) hn
      exact ⟨(up silk3 k n).toNat, by omega, by omega⟩
    rcases he with ⟨rfl, hm⟩ | ⟨rfl, hm⟩
    · have c0 : ((0 : Int) = 0) = True := eq_true rfl
      have c1 : ((rm : Int) < 1) = False := eq_false (by omega)
      have c2 : ((rm : Int) > (L.length : Int)) = False := eq_false (by omega)
      have hz1 := hz0
      have hra : ra ≤ 1000 := by omega
      have hrb : rb ≤ 1000 := by omega
      have hsp := @Nat.succ_ne_zero; repeat' (first | simp (disch := first | exact Nat.ne_of_beq_eq_false rfl | assumption | exact dschM16 | fail) only [go_sem, ↓reduceIte, hsp, chn, pap, runV, run32, kZ2, k7, k9, k12, kZ13, k14, kZ15, g7, g9, g12, g14, g7, g9, g12, g14, hne, hnm, c0, c1, c2, his, r70, Fc.ln22, eq_self, decide_true, if_true, Bool.false_eq_true] | refine WP_draw (by kernel_rfl) ?_ | refine cnd_intro (fun hsp => ?_) (fun hsp => ?_))
      refine WPS_restF fun X eX => ?_
      rw [WP_region]
      have kX7 := congrFun eX 7; (try simp (disch := first | exact Nat.ne_of_beq_eq_false rfl | assumption | exact dschM16 | fail) only [go_sem, ↓reduceIte, k7] at kX7)
      have kX9 := congrFun eX 9; (try simp (disch := first | exact Nat.ne_of_beq_eq_false rfl | assumption | exact dschM16 | fail) only [go_sem, ↓reduceIte, k9] at kX9)
      have kX12 := congrFun eX 12; (try simp (disch := first | exact Nat.ne_of_beq_eq_false rfl | assumption | exact dschM16 | fail) only [go_sem, ↓reduceIte, k12] at kX12)
      have kX16 := congrFun eX 16; (try simp (disch := first | exact Nat.ne_of_beq_eq_false rfl | assumption | exact dschM16 | fail) only [go_sem, ↓reduceIte] at kX16)
      have kX17 := congrFun eX 17; (try simp (disch := first | exact Nat.ne_of_beq_eq_false rfl | assumption | exact dschM16 | fail) only [go_sem, ↓reduceIte] at kX17)
      clear eX
      have hsp := @Nat.succ_ne_zero; repeat' (first | simp (disch := first | exact Nat.ne_of_beq_eq_false rfl | assumption | exact dschM16 | fail) only [go_sem, ↓reduceIte, hsp, kX7, kX9, kX12, kX16, kX17] | refine WP_draw (by kernel_rfl) ?_ | refine cnd_intro (fun hsp => ?_) (fun hsp => ?_))
      refine WP_count [(18, 20), (111, 204)] 0 16 (Nat.zero_le _) (fun H i fr h => fr 111 = .int .i64 (i : Int) ∧ ∃ T, h = Y ++ [spB v3 silk3 (4 * i)] ++ T) ?_ ?_ ?_
      · exact ⟨by (simp (disch := first | exact Nat.ne_of_beq_eq_false rfl | assumption | exact dschM16 | fail) only [go_sem, ↓reduceIte, Int.natCast_zero]; first | done | rfl), [], by rw [List.append_nil]⟩
      · rintro i fr3 H3 hi0 hi hA3 ⟨r111, T, rfl⟩
        have m7 := hA3 7 rfl; (try simp (disch := first | exact Nat.ne_of_beq_eq_false rfl | assumption | exact dschM16 | fail) only [go_sem, ↓reduceIte, kX7] at m7)
        have m9 := hA3 9 rfl; (try simp (disch := first | exact Nat.ne_of_beq_eq_false rfl | assumption | exact dschM16 | fail) only [go_sem, ↓reduceIte, kX9] at m9)
        have m12 := hA3 12 rfl; (try simp (disch := first | exact Nat.ne_of_beq_eq_false rfl | assumption | exact dschM16 | fail) only [go_sem, ↓reduceIte, kX12] at m12)
        have m16 := hA3 16 rfl; (try simp (disch := first | exact Nat.ne_of_beq_eq_false rfl | assumption | exact dschM16 | fail) only [go_sem, ↓reduceIte, kX16] at m16)
        have m17 := hA3 17 rfl; (try simp (disch := first | exact Nat.ne_of_beq_eq_false rfl | assumption | exact dschM16 | fail) only [go_sem, ↓reduceIte, kX17] at m17)
        have hlt : ((i : Int) < 16) = True := eq_true (by omega)
        obtain ⟨xa, exa, hxa⟩ := hup (4 * i) ((L.length : Int) - 1) (by omega)
        obtain ⟨xb, exb, hxb⟩ := hup (4 * i + 1) ((LQ.length : Int) - 1) (by omega)
        obtain ⟨xf, exf, hxf⟩ := hup (4 * i + 1 + 1) (1 - -2) (by omega)
        obtain ⟨xl, exl⟩ : ∃ xl : Nat, max 1 ((rm : Int) + (-2 + (xf : Int))) = (xl : Int) := ⟨(max 1 ((rm : Int) + (-2 + (xf : Int)))).toNat, by omega⟩
        obtain ⟨xk, exk⟩ : ∃ xk : Bool, decide (up silk3 (4 * i + 1 + 1 + 1) (2 - 1) = 0) = xk := ⟨_, rfl⟩
        have hxl : 1 ≤ xl ∧ xl ≤ 21 := by omega
        have e4 : 4 * i + 1 + 1 + 1 + 1 = 4 * (i + 1) := by omega
        have e5 : sharedS (w : Int) L (w : Int) LQ (xa : Int) (xb : Int) (xl : Int) xk = (runB L LQ xa xb xk xl, 0) := by
          unfold sharedS
          rw [if_neg (by simp [hbs]), if_neg (by omega), if_neg (by omega)]
          simp only [Int.toNat_natCast]
        have hbx := hbest xa xb xk xl (by omega)
        have hxa1000 : xa ≤ 1000 := by omega
        have hxb1000 : xb ≤ 1000 := by omega
        have hxl1000 : xl ≤ 1000 := by omega
        have hsp := @Nat.succ_ne_zero; repeat' (first | simp (disch := first | exact Nat.ne_of_beq_eq_false rfl | assumption | exact dschM16 | fail) only [go_sem, ↓reduceIte, hsp, chn, pap, r111, m7, m9, m12, m16, m17, hlt] | refine WP_draw (by kernel_rfl) ?_ | refine cnd_intro (fun hsp => ?_) (fun hsp => ?_))
        refine WPS_go ?_
        have hl7 := i7.low_app (T := [spB v3 silk3 (4 * i)] ++ T)
        have hl9 := i9.low_app (T := [spB v3 silk3 (4 * i)] ++ T)
        rw [← List.append_assoc] at hl7 hl9
        refine WP_wild [⟨8, 22, 120, ⟨a9, 0, 1⟩, V9, 100⟩, ⟨13, 3, 125, ⟨a12, 0, 2⟩, .int .i64 (rm : Int), 100⟩] (by kernel_rfl) (by kernel_rfl) (by kernel_rfl) ⟨hl9, refsLow_int, trivial⟩ fun K hK => ?_
        iterate 23
          rw [TRS_cons]
          refine ⟨by first | (simp (disch := first | exact Nat.ne_of_beq_eq_false rfl | assumption | exact dschM16 | fail) only [go_sem, ↓reduceIte, chn, run71, run72, run73, r111, m7, m9, m12, m16, m17, g7, g9, g12, exa, exb, exf, exl, exk, Fc.ln22, ldsQ_cons, ldsQ_nil, if_true, Nat.reduceLeDiff]; done) | exact trivial, ?_⟩
          simp (disch := first | exact Nat.ne_of_beq_eq_false rfl | assumption | exact dschM16 | fail) only [go_sem, ↓reduceIte, chn, run71, run72, run73, r111, m7, m9, m12, m16, m17, g7, g9, g12, exa, exb, exf, exl, exk, Fc.ln22]
        rw [TRS_nil]
        refine ⟨by first | (simp (disch := first | exact Nat.ne_of_beq_eq_false rfl | assumption | exact dschM16 | fail) only [go_sem, ↓reduceIte, chn, run71, run72, run73, r111, m7, m9, m12, m16, m17, g7, g9, g12, exa, exb, exf, exl, exk, Fc.ln22, ldsQ_cons, ldsQ_nil, if_true, Nat.reduceLeDiff]; done) | exact trivial, ?_⟩
        subst hK
        cases hrun : runB L LQ xa xb xk xl with
        | false =>
          rw [hrun] at e5
          have hsp := @Nat.succ_ne_zero; repeat' (first | simp (disch := first | exact Nat.ne_of_beq_eq_false rfl | assumption | exact dschM16 | fail) only [go_sem, ↓reduceIte, hsp, chn, pap, runV, r111, m7, m9, m12, m16, m17, g7, g9, g12, e4, e5, tupBI, neB4, hrun, r70c, eq_self, decide_true, if_true, Bool.false_eq_true] | refine WP_draw (by kernel_rfl) ?_ | refine cnd_intro (fun hsp => ?_) (fun hsp => ?_))
          exact ⟨by (repeat first | exact Agree.refl | assumption | refine Agree.put rfl ?_ | refine Agree.put0 ?_ | refine Agree.sub rfl (by assumption) ?_), by first | rfl | omega | (simp (disch := first | exact Nat.ne_of_beq_eq_false rfl | assumption | exact dschM16 | fail) only [go_sem, ↓reduceIte, Int.natCast_zero]; first | done | rfl), T ++ [_], by rw [← List.append_assoc]⟩
        | true =>
          rw [hrun] at e5
          obtain ⟨hb1, hb2⟩ := hbx hrun
          have hb3 : ¬ (xl = rm ∧ (xa < ra ∨ (xa = ra ∧ (xb < rb ∨ (xb = rb ∧ xk = false ∧ rk = true))))) := fun hh => hb2 hh.1 hh.2
          have d1 : ((xl : Int) > (rm : Int)) = False := eq_false (by omega)
          by_cases d2 : xl = rm
          · have d2' : ((xl : Int) = (rm : Int)) = True := eq_true (by omega)
            have d3 : ((xa : Int) < (ra : Int)) = False := eq_false (by omega)
            by_cases d4 : xa = ra
            · have d4' : ((xa : Int) = (ra : Int)) = True := eq_true (by omega)
              have d5 : ((xb : Int) < (rb : Int)) = False := eq_false (by omega)
              by_cases d6 : xb = rb
              · have d6' : ((xb : Int) = (rb : Int)) = True := eq_true (by omega)
                have d7 : (rk = true) = (xk = true ∧ rk = true) := propext ⟨fun hh => ⟨by cases xk with | true => rfl | false => exact absurd ⟨d2, .inr ⟨d4, .inr ⟨d6, rfl, hh⟩⟩⟩ hb3, hh⟩, fun hh => hh.2⟩
                cases rk with
                | false =>
                  have hsp := @Nat.succ_ne_zero; repeat' (first | simp (disch := first | exact Nat.ne_of_beq_eq_false rfl | assumption | exact dschM16 | fail) only [go_sem, ↓reduceIte, hsp, chn, pap, runV, r111, m7, m9, m12, m16, m17, g7, g9, g12, e4, e5, tupBI, neB4, hrun, r70c, d1, d2', d3, d4', d5, d6', eq_self, decide_true, if_true, Bool.false_eq_true] | refine WP_draw (by kernel_rfl) ?_ | refine cnd_intro (fun hsp => ?_) (fun hsp => ?_))
                  exact ⟨by (repeat first | exact Agree.refl | assumption | refine Agree.put rfl ?_ | refine Agree.put0 ?_ | refine Agree.sub rfl (by assumption) ?_), by first | rfl | omega | (simp (disch := first | exact Nat.ne_of_beq_eq_false rfl | assumption | exact dschM16 | fail) only [go_sem, ↓reduceIte, Int.natCast_zero]; first | done | rfl), T ++ [_], by rw [← List.append_assoc]⟩
                | true =>
                  obtain rfl : xk = true := (d7.mp rfl).1
                  have hsp := @Nat.succ_ne_zero; repeat' (first | simp (disch := first | exact Nat.ne_of_beq_eq_false rfl | assumption | exact dschM16 | fail) only [go_sem, ↓reduceIte, hsp, chn, pap, runV, r111, m7, m9, m12, m16, m17, g7, g9, g12, e4, e5, tupBI, neB4, hrun, r70c, d1, d2', d3, d4', d5, d6', eq_self, decide_true, if_true, Bool.false_eq_true] | refine WP_draw (by kernel_rfl) ?_ | refine cnd_intro (fun hsp => ?_) (fun hsp => ?_))
                  exact ⟨by (repeat first | exact Agree.refl | assumption | refine Agree.put rfl ?_ | refine Agree.put0 ?_ | refine Agree.sub rfl (by assumption) ?_), by first | rfl | omega | (simp (disch := first | exact Nat.ne_of_beq_eq_false rfl | assumption | exact dschM16 | fail) only [go_sem, ↓reduceIte, Int.natCast_zero]; first | done | rfl), T ++ [_], by rw [← List.append_assoc]⟩
              · have d6' : ((xb : Int) = (rb : Int)) = False := eq_false (by omega)
                have hsp := @Nat.succ_ne_zero; repeat' (first | simp (disch := first | exact Nat.ne_of_beq_eq_false rfl | assumption | exact dschM16 | fail) only [go_sem, ↓reduceIte, hsp, chn, pap, runV, r111, m7, m9, m12, m16, m17, g7, g9, g12, e4, e5, tupBI, neB4, hrun, r70c, d1, d2', d3, d4', d5, d6', eq_self, decide_true, if_true, Bool.false_eq_true] | refine WP_draw (by kernel_rfl) ?_ | refine cnd_intro (fun hsp => ?_) (fun hsp => ?_))
                exact ⟨by (repeat first | exact Agree.refl | assumption | refine Agree.put rfl ?_ | refine Agree.put0 ?_ | refine Agree.sub rfl (by assumption) ?_), by first | rfl | omega | (simp (disch := first | exact Nat.ne_of_beq_eq_false rfl | assumption | exact dschM16 | fail) only [go_sem, ↓reduceIte, Int.natCast_zero]; first | done | rfl), T ++ [_], by rw [← List.append_assoc]⟩
            · have d4' : ((xa : Int) = (ra : Int)) = False := eq_false (by omega)
              have hsp := @Nat.succ_ne_zero; repeat' (first | simp (disch := first | exact Nat.ne_of_beq_eq_false rfl | assumption | exact dschM16 | fail) only [go_sem, ↓reduceIte, hsp, chn, pap, runV, r111, m7, m9, m12, m16, m17, g7, g9, g12, e4, e5, tupBI, neB4, hrun, r70c, d1, d2', d3, d4', eq_self, decide_true, if_true, Bool.false_eq_true] | refine WP_draw (by kernel_rfl) ?_ | refine cnd_intro (fun hsp => ?_) (fun hsp => ?_))
              exact ⟨by (repeat first | exact Agree.refl | assumption | refine Agree.put rfl ?_ | refine Agree.put0 ?_ | refine Agree.sub rfl (by assumption) ?_), by first | rfl | omega | (simp (disch := first | exact Nat.ne_of_beq_eq_false rfl | assumption | exact dschM16 | fail) only [go_sem, ↓reduceIte, Int.natCast_zero]; first | done | rfl), T ++ [_], by rw [← List.append_assoc]⟩
          · have d2' : ((xl : Int) = (rm : Int)) = False := eq_false (by omega)
            have hsp := @Nat.succ_ne_zero; repeat' (first | simp (disch := first | exact Nat.ne_of_beq_eq_false rfl | assumption | exact dschM16 | fail) only [go_sem, ↓reduceIte, hsp, chn, pap, runV, r111, m7, m9, m12, m16, m17, g7, g9, g12, e4, e5, tupBI, neB4, hrun, r70c, d1, d2', eq_self, decide_true, if_true, Bool.false_eq_true] | refine WP_draw (by kernel_rfl) ?_ | refine cnd_intro (fun hsp => ?_) (fun hsp => ?_))
            exact ⟨by (repeat first | exact Agree.refl | assumption | refine Agree.put rfl ?_ | refine Agree.put0 ?_ | refine Agree.sub rfl (by assumption) ?_), by first | rfl | omega | (simp (disch := first | exact Nat.ne_of_beq_eq_false rfl | assumption | exact dschM16 | fail) only [go_sem, ↓reduceIte, Int.natCast_zero]; first | done | rfl), T ++ [_], by rw [← List.append_assoc]⟩
      · rintro fr3 H3 hA3 ⟨r111, T, rfl⟩
        have n7 := hA3 7 rfl; (try simp (disch := first | exact Nat.ne_of_beq_eq_false rfl | assumption | exact dschM16 | fail) only [go_sem, ↓reduceIte, kX7] at n7)
        have n9 := hA3 9 rfl; (try simp (disch := first | exact Nat.ne_of_beq_eq_false rfl | assumption | exact dschM16 | fail) only [go_sem, ↓reduceIte, kX9] at n9)
        have n12 := hA3 12 rfl; (try simp (disch := first | exact Nat.ne_of_beq_eq_false rfl | assumption | exact dschM16 | fail) only [go_sem, ↓reduceIte, kX12] at n12)
        have n16 := hA3 16 rfl; (try simp (disch := first | exact Nat.ne_of_beq_eq_false rfl | assumption | exact dschM16 | fail) only [go_sem, ↓reduceIte, kX16] at n16)
        have n17 := hA3 17 rfl; (try simp (disch := first | exact Nat.ne_of_beq_eq_false rfl | assumption | exact dschM16 | fail) only [go_sem, ↓reduceIte, kX17] at n17)
        have hlt : (((16 : Nat) : Int) < 16) = False := eq_false (by omega)
        have hiL : ∀ {T : Heap}, Ints (Y ++ T) V7 L := i7.app
        have hsp := @Nat.succ_ne_zero; repeat' (first | simp (disch := first | exact Nat.ne_of_beq_eq_false rfl | assumption | exact dschM16 | fail) only [go_sem, ↓reduceIte, hsp, chn, pap, runV, runW, r111, n7, n9, n12, n16, n17, g7, g9, g12, hlt, e3, e4, htr, n1, n2, tup2, hA, Fc.ln22, Fc.eq82, eq_self, decide_true, if_true, Bool.false_eq_true, and_true, true_and, and_self] | refine WP_draw (by kernel_rfl) ?_ | refine cnd_intro (fun hsp => ?_) (fun hsp => ?_))
        exact fin_pl rfl rfl (by repeat' first | exact xY | refine Ext.app ?_)
    · have c0 : ((6 : Int) = 0) = False := eq_false (by omega)
      have c1 : ((rm : Int) < 1) = True := eq_true (by omega)
      have c2 : ((rm : Int) > (L.length : Int)) = False := eq_false (by omega)
      have hz1 := hz0
      have hra : ra ≤ 1000 := by omega
      have hrb : rb ≤ 1000 := by omega
      have hsp := @Nat.succ_ne_zero; repeat' (first | simp (disch := first | exact Nat.ne_of_beq_eq_false rfl | assumption | exact dschM16 | fail) only [go_sem, ↓reduceIte, hsp, chn, pap, runV, run32, kZ2, k7, k9, k12, kZ13, k14, kZ15, g7, g9, g12, g14, g7, g9, g12, g14, hne, hnm, c0, c1, c2, his, r70, Fc.ln22, eq_self, decide_true, if_true, Bool.false_eq_true] | refine WP_draw (by kernel_rfl) ?_ | refine cnd_intro (fun hsp => ?_) (fun hsp => ?_))
      refine WPS_restF fun X eX => ?_
      rw [WP_region]
      have kX7 := congrFun eX 7; (try simp (disch := first | exact Nat.ne_of_beq_eq_false rfl | assumption | exact dschM16 | fail) only [go_sem, ↓reduceIte, k7] at kX7)
      have kX9 := congrFun eX 9; (try simp (disch := first | exact Nat.ne_of_beq_eq_false rfl | assumption | exact dschM16 | fail) only [go_sem, ↓reduceIte, k9] at kX9)
      have kX12 := congrFun eX 12; (try simp (disch := first | exact Nat.ne_of_beq_eq_false rfl | assumption | exact dschM16 | fail) only [go_sem, ↓reduceIte, k12] at kX12)
      have kX16 := congrFun eX 16; (try simp (disch := first | exact Nat.ne_of_beq_eq_false rfl | assumption | exact dschM16 | fail) only [go_sem, ↓reduceIte] at kX16)
      have kX17 := congrFun eX 17; (try simp (disch := first | exact Nat.ne_of_beq_eq_false rfl | assumption | exact dschM16 | fail) only [go_sem, ↓reduceIte] at kX17)
      clear eX
      have hsp := @Nat.succ_ne_zero; repeat' (first | simp (disch := first | exact Nat.ne_of_beq_eq_false rfl | assumption | exact dschM16 | fail) only [go_sem, ↓reduceIte, hsp, kX7, kX9, kX12, kX16, kX17] | refine WP_draw (by kernel_rfl) ?_ | refine cnd_intro (fun hsp => ?_) (fun hsp => ?_))
      refine WP_count [(18, 20), (111, 204)] 0 16 (Nat.zero_le _) (fun H i fr h => fr 111 = .int .i64 (i : Int) ∧ ∃ T, h = Y ++ [spB v3 silk3 (4 * i)] ++ T) ?_ ?_ ?_
      · exact ⟨by (simp (disch := first | exact Nat.ne_of_beq_eq_false rfl | assumption | exact dschM16 | fail) only [go_sem, ↓reduceIte, Int.natCast_zero]; first | done | rfl), [], by rw [List.append_nil]⟩
      · rintro i fr3 H3 hi0 hi hA3 ⟨r111, T, rfl⟩
        have m7 := hA3 7 rfl; (try simp (disch := first | exact Nat.ne_of_beq_eq_false rfl | assumption | exact dschM16 | fail) only [go_sem, ↓reduceIte, kX7] at m7)
        have m9 := hA3 9 rfl; (try simp (disch := first | exact Nat.ne_of_beq_eq_false rfl | assumption | exact dschM16 | fail) only [go_sem, ↓reduceIte, kX9] at m9)
        have m12 := hA3 12 rfl; (try simp (disch := first | exact Nat.ne_of_beq_eq_false rfl | assumption | exact dschM16 | fail) only [go_sem, ↓reduceIte, kX12] at m12)
        have m16 := hA3 16 rfl; (try simp (disch := first | exact Nat.ne_of_beq_eq_false rfl | assumption | exact dschM16 | fail) only [go_sem, ↓reduceIte, kX16] at m16)
        have m17 := hA3 17 rfl; (try simp (disch := first | exact Nat.ne_of_beq_eq_false rfl | assumption | exact dschM16 | fail) only [go_sem, ↓reduceIte, kX17] at m17)
        have hlt : ((i : Int) < 16) = True := eq_true (by omega)
        obtain ⟨xa, exa, hxa⟩ := hup (4 * i) ((L.length : Int) - 1) (by omega)
        obtain ⟨xb, exb, hxb⟩ := hup (4 * i + 1) ((LQ.length : Int) - 1) (by omega)
        obtain ⟨xf, exf, hxf⟩ := hup (4 * i + 1 + 1) (1 - -2) (by omega)
        obtain ⟨xl, exl⟩ : ∃ xl : Nat, max 1 ((rm : Int) + (-2 + (xf : Int))) = (xl : Int) := ⟨(max 1 ((rm : Int) + (-2 + (xf : Int)))).toNat, by omega⟩
        obtain ⟨xk, exk⟩ : ∃ xk : Bool, decide (up silk3 (4 * i + 1 + 1 + 1) (2 - 1) = 0) = xk := ⟨_, rfl⟩
        have hxl : 1 ≤ xl ∧ xl ≤ 21 := by omega
        have e4 : 4 * i + 1 + 1 + 1 + 1 = 4 * (i + 1) := by omega
        have e5 : sharedS (w : Int) L (w : Int) LQ (xa : Int) (xb : Int) (xl : Int) xk = (runB L LQ xa xb xk xl, 0) := by
          unfold sharedS
          rw [if_neg (by simp [hbs]), if_neg (by omega), if_neg (by omega)]
          simp only [Int.toNat_natCast]
        have hbx := hbest xa xb xk xl (by omega)
        have hxa1000 : xa ≤ 1000 := by omega
        have hxb1000 : xb ≤ 1000 := by omega
        have hxl1000 : xl ≤ 1000 := by omega
        have hsp := @Nat.succ_ne_zero; repeat' (first | simp (disch := first | exact Nat.ne_of_beq_eq_false rfl | assumption | exact dschM16 | fail) only [go_sem, ↓reduceIte, hsp, chn, pap, r111, m7, m9, m12, m16, m17, hlt] | refine WP_draw (by kernel_rfl) ?_ | refine cnd_intro (fun hsp => ?_) (fun hsp => ?_))
        refine WPS_go ?_
        have hl7 := i7.low_app (T := [spB v3 silk3 (4 * i)] ++ T)
        have hl9 := i9.low_app (T := [spB v3 silk3 (4 * i)] ++ T)
        rw [← List.append_assoc] at hl7 hl9
        refine WP_wild [⟨8, 22, 120, ⟨a9, 0, 1⟩, V9, 100⟩, ⟨13, 3, 125, ⟨a12, 0, 2⟩, .int .i64 (rm : Int), 100⟩] (by kernel_rfl) (by kernel_rfl) (by kernel_rfl) ⟨hl9, refsLow_int, trivial⟩ fun K hK => ?_
        iterate 23
          rw [TRS_cons]
          refine ⟨by first | (simp (disch := first | exact Nat.ne_of_beq_eq_false rfl | assumption | exact dschM16 | fail) only [go_sem, ↓reduceIte, chn, run71, run72, run73, r111, m7, m9, m12, m16, m17, g7, g9, g12, exa, exb, exf, exl, exk, Fc.ln22, ldsQ_cons, ldsQ_nil, if_true, Nat.reduceLeDiff]; done) | exact trivial, ?_⟩
          simp (disch := first | exact Nat.ne_of_beq_eq_false rfl | assumption | exact dschM16 | fail) only [go_sem, ↓reduceIte, chn, run71, run72, run73, r111, m7, m9, m12, m16, m17, g7, g9, g12, exa, exb, exf, exl, exk, Fc.ln22]
        rw [TRS_nil]
        refine ⟨by first | (simp (disch := first | exact Nat.ne_of_beq_eq_false rfl | assumption | exact dschM16 | fail) only [go_sem, ↓reduceIte, chn, run71, run72, run73, r111, m7, m9, m12, m16, m17, g7, g9, g12, exa, exb, exf, exl, exk, Fc.ln22, ldsQ_cons, ldsQ_nil, if_true, Nat.reduceLeDiff]; done) | exact trivial, ?_⟩
        subst hK
        cases hrun : runB L LQ xa xb xk xl with
        | false =>
          rw [hrun] at e5
          have hsp := @Nat.succ_ne_zero; repeat' (first | simp (disch := first | exact Nat.ne_of_beq_eq_false rfl | assumption | exact dschM16 | fail) only [go_sem, ↓reduceIte, hsp, chn, pap, runV, r111, m7, m9, m12, m16, m17, g7, g9, g12, e4, e5, tupBI, neB4, hrun, r70c, eq_self, decide_true, if_true, Bool.false_eq_true] | refine WP_draw (by kernel_rfl) ?_ | refine cnd_intro (fun hsp => ?_) (fun hsp => ?_))
          exact ⟨by (repeat first | exact Agree.refl | assumption | refine Agree.put rfl ?_ | refine Agree.put0 ?_ | refine Agree.sub rfl (by assumption) ?_), by first | rfl | omega | (simp (disch := first | exact Nat.ne_of_beq_eq_false rfl | assumption | exact dschM16 | fail) only [go_sem, ↓reduceIte, Int.natCast_zero]; first | done | rfl), T ++ [_], by rw [← List.append_assoc]⟩
        | true =>
          rw [hrun] at e5
          obtain ⟨hb1, hb2⟩ := hbx hrun
          exfalso; omega
      · rintro fr3 H3 hA3 ⟨r111, T, rfl⟩
        have n7 := hA3 7 rfl; (try simp (disch := first | exact Nat.ne_of_beq_eq_false rfl | assumption | exact dschM16 | fail) only [go_sem, ↓reduceIte, kX7] at n7)
        have n9 := hA3 9 rfl; (try simp (disch := first | exact Nat.ne_of_beq_eq_false rfl | assumption | exact dschM16 | fail) only [go_sem, ↓reduceIte, kX9] at n9)
        have n12 := hA3 12 rfl; (try simp (disch := first | exact Nat.ne_of_beq_eq_false rfl | assumption | exact dschM16 | fail) only [go_sem, ↓reduceIte, kX12] at n12)
        have n16 := hA3 16 rfl; (try simp (disch := first | exact Nat.ne_of_beq_eq_false rfl | assumption | exact dschM16 | fail) only [go_sem, ↓reduceIte, kX16] at n16)
        have n17 := hA3 17 rfl; (try simp (disch := first | exact Nat.ne_of_beq_eq_false rfl | assumption | exact dschM16 | fail) only [go_sem, ↓reduceIte, kX17] at n17)
        have hlt : (((16 : Nat) : Int) < 16) = False := eq_false (by omega)
        have hiL : ∀ {T : Heap}, Ints (Y ++ T) V7 L := i7.app
        have hsp := @Nat.succ_ne_zero; repeat' (first | simp (disch := first | exact Nat.ne_of_beq_eq_false rfl | assumption | exact dschM16 | fail) only [go_sem, ↓reduceIte, hsp, chn, pap, runV, runW, r111, n7, n9, n12, n16, n17, g7, g9, g12, hlt, e3, e4, htr, n1, n2, tup2, hA, Fc.ln22, Fc.eq82, eq_self, decide_true, if_true, Bool.false_eq_true, and_true, true_and, and_self] | refine WP_draw (by kernel_rfl) ?_ | refine cnd_intro (fun hsp => ?_) (fun hsp => ?_))
        exact fin_pl rfl rfl (by repeat' first | exact xY | refine Ext.app ?_)
end Go.AM
