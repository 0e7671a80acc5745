/-
  The law CardFewest.
-/
import Derived.Test.YtppkmjfplhenmaaM0
import Derived.Test.YtppkmjfplhenmaaP5
set_option linter.unusedSimpArgs false
set_option linter.unusedVariables false
namespace Go.AM
open Go.Proofs.Try
theorem dschM13 {p : Prop} (h : p := by first | exact Nat.ne_of_beq_eq_false rfl | assumption | (apply asOne; (first | exact One.int | exact One.bool | exact newV_one | exact nlV_one | exact grV_one | exact cloneV_one | exact takF_one | assumption | exact Ints.one (by assumption) | exact slcV_one (by assumption) | exact Bytes.one (by assumption) | exact One.lit ⟨rfl, rfl, rfl⟩)) | (apply asSp; (repeat first | assumption | apply SpAt.set | (refine SpAt.new ?_ (by (first | rfl | (simp only [List.length_append, List.length_cons, List.length_nil, List.length_set]; done) | (simp only [List.length_append, List.length_cons, List.length_nil, List.length_set]; omega)))) | apply SpAt.app | apply Bytes.app); done) | (apply asBytes; (repeat first | assumption | apply Bytes.app); done) | (apply asInts; first | ((repeat first | assumption | (apply nlV_ints <;> first | assumption | (first | rfl | (simp only [List.length_append, List.length_cons, List.length_nil, List.length_set]; done) | (simp only [List.length_append, List.length_cons, List.length_nil, List.length_set]; omega))) | exact ints_nil | (apply newV_ints' <;> first | assumption | (first | rfl | (simp only [List.length_append, List.length_cons, List.length_nil, List.length_set]; done) | (simp only [List.length_append, List.length_cons, List.length_nil, List.length_set]; omega))) | (apply grV_ints <;> first | assumption | (first | rfl | (simp only [List.length_append, List.length_cons, List.length_nil, List.length_set]; done) | (simp only [List.length_append, List.length_cons, List.length_nil, List.length_set]; omega))) | (apply Ints.slc <;> first | (repeat first | assumption | apply Ints.app); done | omega) | apply Ints.app); done) | ((repeat first | (apply slice_row <;> first | assumption | (first | rfl | (simp only [List.length_append, List.length_cons, List.length_nil, List.length_set]; done) | (simp only [List.length_append, List.length_cons, List.length_nil, List.length_set]; omega))) | apply Ints.app); done)) | (apply asTak; (repeat first | assumption | (refine TakAt.new ?_; (first | rfl | (simp only [List.length_append, List.length_cons, List.length_nil, List.length_set]; done) | (simp only [List.length_append, List.length_cons, List.length_nil, List.length_set]; omega))) | apply TakAt.app); done) | (apply asScal; (first | apply allS1 | apply allS2 | apply allS3 | apply allS4) <;> (first | exact One.int | exact One.bool | exact newV_one | exact nlV_one | exact grV_one | exact cloneV_one | exact takF_one | assumption | exact Ints.one (by assumption) | exact slcV_one (by assumption) | exact Bytes.one (by assumption) | exact One.lit ⟨rfl, rfl, rfl⟩)) | exact litT rfl | exact litF rfl | omega | (simp only [List.length_append, List.length_cons, List.length_nil, lst_len, List.length_set, ints_length, List.length_reverse]; first | done | omega) | fail) : p := h
attribute [-go_sem] put_ne put_same
attribute [local go_sem ↓] put_if


theorem st13 {base : Nat} {l : List Oper} {s : St} {Q : AExit → St → Prop} : WP prog raw base (.region 3 l.toArray false) s Q = WPS prog raw base (.region 3 l.toArray false) s Q := WP_stop
attribute [local go_sem ↓ 3000] st13
set_option maxRecDepth 100000 in
set_option maxHeartbeats 4000000 in
theorem run13 (hA : Awake) {base : Nat} {h : Heap} {v : AVal} {silk : List Int} (hB : Bytes h v silk) :
    callL prog raw base (.fn 13 [] []) [v] h = some (.bool true, h) := by
  unfold Awake at hA
  obtain ⟨W, K, S, L, C, E, hL, hC, hW, hLl, hCl, hE, hmd⟩ := md_pkg (silk := silk) (k := 0) (width := 6) (cards := 8) (throws := 30) (changed := 2) (by omega) (by omega) (by omega) (by omega) (by omega)
  obtain ⟨hw8, hp, hx⟩ := chk_ok hL
  have hsL := small_of hL
  have hsC := small_chn hC
  have f1 := few_eq hL
  have l1 := few_len hL
  have d1 := fewest_bd hL
  have m1 := small_take (n := (fewestS W.toNat L).2.1.toNat) hsL
  have w1 := few_weaves hL
  obtain ⟨⟨fk, fs, hfk, hfs, hfst, hfe1, hfe2, hfe, hfirst⟩, hmin⟩ := few_min hL
  obtain ⟨cw8, cn, ckk, css, cst, cx⟩ := chkC_ok hC
  have hreal : weavesR W C K S W L = true → (fewestS W.toNat L).2.1 ≤ C.length := fun hwv => by
    unfold weavesR at hwv
    rw [if_neg (fun hh => hh.elim (fun h1 => h1 hC) (fun h1 => h1 rfl))] at hwv
    rcases Nat.lt_or_ge L.length C.length with hh | hh
    · omega
    · have hE : L.take C.length = C := by
        have hwv2 := of_decide_eq_true hwv
        refine List.ext_getElem (by rw [List.length_take]; omega) fun i h1 h2 => ?_
        have h3 := hwv2 i (by omega)
        have h4 := cx _ (List.getElem_mem h2)
        have h8 := pow_nat (w := W) (by omega)
        have e : C.getD i 0 = C[i] := by rw [List.getD_eq_getElem?_getD, List.getElem?_eq_getElem h2]; rfl
        have h5 : liftN W.toNat C K.toNat S.toNat i = C[i].toNat := by
          unfold liftN
          rw [cardN_small h2, moveN_small h2, e, rot0 (by omega)]
        rw [h5] at h3
        have h6 : L.getD i 0 = (L.take C.length)[i] := by rw [List.getElem_take, List.getD_eq_getElem?_getD, List.getElem?_eq_getElem (by omega)]; rfl
        rw [← h6, ← h3]
        omega
      have hwf := weave_first (w := W.toNat) (k := K.toNat) (n := C.length) (s := S.toNat) (l := L) ⟨cn.1, by omega⟩
      rw [hE, hwv] at hwf
      have h2 := step_lt (by omega) cst
      refine few_le hL (k := K.toNat) (s := S.toNat) (by omega) (by omega) ?_ cn.1 (by simpa using hwf.symm)
      rw [show ((K.toNat : Nat) : Int) = K by omega, show ((S.toNat : Nat) : Int) = S by omega, show ((W.toNat : Nat) : Int) = W by omega]
      exact cst
  have hneL : L ≠ [] := by rintro rfl; simp at hp
  have n1 : ∀ {n : Nat}, nlV n (L.take (fewestS W.toNat L).2.1.toNat) = .slice (some ⟨n, 0, 0⟩) (L.take (fewestS W.toNat L).2.1.toNat).length (L.take (fewestS W.toNat L).2.1.toNat).length := fun {n} => nlV_ne (by intro e; rw [e] at l1; simp at l1; omega)
  have ww : weavesS W (L.take (fewestS W.toNat L).2.1.toNat) (fewestS W.toNat L).1 (fewestS W.toNat L).2.2 W L = (true, 0) := by
    have h1 := w1
    unfold weavesR at h1
    split at h1
    · cases h1
    · rename_i h2
      have h3 : chkC W (L.take (fewestS W.toNat L).2.1.toNat) (fewestS W.toNat L).1 (fewestS W.toNat L).2.2 = 0 := Classical.byContradiction fun hh => h2 (.inl hh)
      unfold weavesS
      rw [if_neg (by simp [h3]), if_neg (by simp [hL]), if_neg (by simp)]
      unfold weaveB at h1
      rw [h1]
  have hp1000 : L.length ≤ 1000 := by omega
  obtain ⟨nf, hnf⟩ : ∃ nf : Nat, (fewestS W.toNat L).2.1 = nf := ⟨(fewestS W.toNat L).2.1.toNat, by omega⟩
  rw [hfe1, hfe2, hnf] at f1 w1 ww
  simp only [hnf] at l1 d1 m1 n1 hreal hfe hfirst hmin
  simp only [Int.toNat_natCast] at f1 w1 ww l1 m1 n1
  refine callL_run func13 rfl rfl ?_
  have hsp := @Nat.succ_ne_zero; repeat' (first | simp (disch := first | exact Nat.ne_of_beq_eq_false rfl | assumption | exact dschM13 | fail) only [go_sem, ↓reduceIte, hsp, chn, pap, run32, hmd, f1] | refine WP_draw (by kernel_rfl) ?_ | refine cnd_intro (fun hsp => ?_) (fun hsp => ?_))
  refine WPS_rest fun F G eF eG => ?_
  rw [WP_region]
  have kF3 := congrFun eF 3; (try simp (disch := first | exact Nat.ne_of_beq_eq_false rfl | assumption | exact dschM13 | fail) only [go_sem, ↓reduceIte] at kF3)
  have kF4 := congrFun eF 4; (try simp (disch := first | exact Nat.ne_of_beq_eq_false rfl | assumption | exact dschM13 | fail) only [go_sem, ↓reduceIte] at kF4)
  have kF5 := congrFun eF 5; (try simp (disch := first | exact Nat.ne_of_beq_eq_false rfl | assumption | exact dschM13 | fail) only [go_sem, ↓reduceIte] at kF5)
  have kF6 := congrFun eF 6; (try simp (disch := first | exact Nat.ne_of_beq_eq_false rfl | assumption | exact dschM13 | fail) only [go_sem, ↓reduceIte] at kF6)
  have gF3 := congrArg (fun X => atP X (F 3)) eG; (try simp only [kF3, atP_ptr] at gF3); (try simp (disch := first | exact Nat.ne_of_beq_eq_false rfl | assumption | exact dschM13 | fail) only [go_sem, ↓reduceIte] at gF3)
  have gF4 := congrArg (fun X => atP X (F 4)) eG; (try simp only [kF4, atP_ptr] at gF4); (try simp (disch := first | exact Nat.ne_of_beq_eq_false rfl | assumption | exact dschM13 | fail) only [go_sem, ↓reduceIte] at gF4)
  have gF5 := congrArg (fun X => atP X (F 5)) eG; (try simp only [kF5, atP_ptr] at gF5); (try simp (disch := first | exact Nat.ne_of_beq_eq_false rfl | assumption | exact dschM13 | fail) only [go_sem, ↓reduceIte] at gF5)
  have lG := congrArg List.length eG; (try simp (disch := first | exact Nat.ne_of_beq_eq_false rfl | assumption | exact dschM13 | fail) only [go_sem, ↓reduceIte] at lG)
  have xG : Ext h G := by rw [eG]; repeat' first | exact Ext.refl | refine Ext.app ?_
  obtain ⟨a3, k3, V3, g3, i3⟩ : ∃ a, F 3 = .ptr (some ⟨a, 0, 0⟩) ∧ ∃ V, G[a]? = some ⟨.cells [.int .i64 W, V] 24 false false, 0⟩ ∧ Ints G V (L) := ⟨_, kF3, _, gF3, by rw [eG]; exact dschM13⟩
  have b3 := lt_of_get g3; clear kF3 gF3
  obtain ⟨a4, k4, V4, g4, i4⟩ : ∃ a, F 4 = .ptr (some ⟨a, 0, 0⟩) ∧ ∃ V, G[a]? = some ⟨.cells [.int .i64 W, V, .int .i64 K, .int .i64 S] 34 false false, 0⟩ ∧ Ints G V (C) := ⟨_, kF4, _, gF4, by rw [eG]; exact dschM13⟩
  have b4 := lt_of_get g4; clear kF4 gF4
  obtain ⟨a5, k5, V5, g5, i5⟩ : ∃ a, F 5 = .ptr (some ⟨a, 0, 0⟩) ∧ ∃ V, G[a]? = some ⟨.cells [.int .i64 W, V, .int .i64 (fk : Int), .int .i64 (fs : Int)] 34 false false, 0⟩ ∧ Ints G V (L.take nf) := ⟨_, kF5, _, gF5, by rw [eG]; exact dschM13⟩
  have b5 := lt_of_get g5; clear kF5 gF5
  clear eG lG eF
  have hG := xG.len
  have c1 : ((nf : Int) > (L.length : Int)) = False := eq_false (by omega)
  obtain ⟨rv, hrv⟩ : ∃ b, weavesR W C K S W L = b := ⟨_, rfl⟩
  have c2 : rv = true → ((nf : Int) > (C.length : Int)) = False := fun hh => eq_false (by have := hreal (by rw [hrv]; exact hh); omega)
  have hdir : ∀ n k s : Nat, 1 ≤ n → n ≤ nf → k ≤ 2 → s < W.toNat → stepOk k s W.toNat = true → ¬ (n = nf ∧ (k > fk ∨ (k = fk ∧ s ≥ fs))) → (firstS W.toNat L k n s).2.2 = true := fun n k s h1 h2 hk hs hst hb => by
    obtain ⟨o1, o2, o3⟩ := only_is hL k s
    refine o3 n h1 ?_
    by_cases e : n = nf
    · have := hfirst k s (by omega) hk hs hst
      omega
    · have := hmin k s hk hs hst
      omega
  cases rv with
  | true =>
    have c3 := c2 rfl
    have hsp := @Nat.succ_ne_zero; repeat' (first | simp (disch := first | exact Nat.ne_of_beq_eq_false rfl | assumption | exact dschM13 | fail) only [go_sem, ↓reduceIte, hsp, chn, pap, k3, k4, k5, kF6, g3, g4, g5, g3, g4, g5, hL, w1, l1, c1, hrv, c3, ww, tupBI, eq_self, decide_true, if_true, Bool.false_eq_true] | refine WP_draw (by kernel_rfl) ?_ | refine cnd_intro (fun hsp => ?_) (fun hsp => ?_))
    refine WP_count [(9, 20), (80, 217)] 1 (nf + 1) (by omega) (fun H n fr h => fr 9 = .int .i64 (n : Int) ∧ h = H) ?_ ?_ ?_
    · exact ⟨by (simp (disch := first | exact Nat.ne_of_beq_eq_false rfl | assumption | exact dschM13 | fail) only [go_sem, ↓reduceIte, Int.natCast_zero]; first | done | rfl), rfl⟩
    · rintro n fr H hn0 hn hG1 ⟨r9, rfl⟩
      have pA3 := hG1 3 rfl; (try simp (disch := first | exact Nat.ne_of_beq_eq_false rfl | assumption | exact dschM13 | fail) only [go_sem, ↓reduceIte, k3] at pA3)
      have pA5 := hG1 5 rfl; (try simp (disch := first | exact Nat.ne_of_beq_eq_false rfl | assumption | exact dschM13 | fail) only [go_sem, ↓reduceIte, k5] at pA5)
      have hlt : ((n : Int) ≤ (nf : Int)) = True := eq_true (by omega)
      have hsp := @Nat.succ_ne_zero; repeat' (first | simp (disch := first | exact Nat.ne_of_beq_eq_false rfl | assumption | exact dschM13 | fail) only [go_sem, ↓reduceIte, hsp, chn, pap, r9, pA3, pA5, g3, g5, l1, hlt] | refine WP_draw (by kernel_rfl) ?_ | refine cnd_intro (fun hsp => ?_) (fun hsp => ?_))
      refine WP_count [(10, 20), (87, 217)] 0 3 (by omega) (fun H k fr h => fr 10 = .int .i64 (k : Int) ∧ h = H) ?_ ?_ ?_
      · exact ⟨by (simp (disch := first | exact Nat.ne_of_beq_eq_false rfl | assumption | exact dschM13 | fail) only [go_sem, ↓reduceIte, Int.natCast_zero]; first | done | rfl), rfl⟩
      · rintro k fr2 H hk0 hk hG2 ⟨r10, rfl⟩
        have qA3 := hG2 3 rfl; (try simp (disch := first | exact Nat.ne_of_beq_eq_false rfl | assumption | exact dschM13 | fail) only [go_sem, ↓reduceIte, pA3] at qA3)
        have qA5 := hG2 5 rfl; (try simp (disch := first | exact Nat.ne_of_beq_eq_false rfl | assumption | exact dschM13 | fail) only [go_sem, ↓reduceIte, pA5] at qA5)
        have q9 := hG2 9 rfl; simp (disch := first | exact Nat.ne_of_beq_eq_false rfl | assumption | exact dschM13 | fail) only [go_sem, ↓reduceIte, r9] at q9
        have hlt2 : ((k : Int) ≤ 2) = True := eq_true (by omega)
        have hsp := @Nat.succ_ne_zero; repeat' (first | simp (disch := first | exact Nat.ne_of_beq_eq_false rfl | assumption | exact dschM13 | fail) only [go_sem, ↓reduceIte, hsp, chn, pap, r10, q9, qA3, qA5, g3, g5, l1, hlt2] | refine WP_draw (by kernel_rfl) ?_ | refine cnd_intro (fun hsp => ?_) (fun hsp => ?_))
        refine WP_count [(11, 20), (93, 217)] 0 W.toNat (by omega) (fun H s fr h => fr 93 = .int .i64 (s : Int) ∧ h = H) ?_ ?_ ?_
        · exact ⟨by (simp (disch := first | exact Nat.ne_of_beq_eq_false rfl | assumption | exact dschM13 | fail) only [go_sem, ↓reduceIte, Int.natCast_zero]; first | done | rfl), rfl⟩
        · rintro s fr3 H hs0 hs hG3 ⟨r93, rfl⟩
          have uA3 := hG3 3 rfl; (try simp (disch := first | exact Nat.ne_of_beq_eq_false rfl | assumption | exact dschM13 | fail) only [go_sem, ↓reduceIte, qA3] at uA3)
          have uA5 := hG3 5 rfl; (try simp (disch := first | exact Nat.ne_of_beq_eq_false rfl | assumption | exact dschM13 | fail) only [go_sem, ↓reduceIte, qA5] at uA5)
          have uA92 := hG3 92 rfl; (try simp (disch := first | exact Nat.ne_of_beq_eq_false rfl | assumption | exact dschM13 | fail) only [go_sem, ↓reduceIte] at uA92)
          have u9 := hG3 9 rfl; simp (disch := first | exact Nat.ne_of_beq_eq_false rfl | assumption | exact dschM13 | fail) only [go_sem, ↓reduceIte, q9] at u9
          have u10 := hG3 10 rfl; simp (disch := first | exact Nat.ne_of_beq_eq_false rfl | assumption | exact dschM13 | fail) only [go_sem, ↓reduceIte, r10] at u10
          have hlt3 : ((s : Int) < W) = True := eq_true (by omega)
          by_cases hst2 : stepOk k s W.toNat = true
          · have hst3 : stepOk (k : Int) (s : Int) W = true := by rw [show W = ((W.toNat : Nat) : Int) by omega]; exact hst2
            have hsz : k ≠ 2 → (s : Int) = 0 := fun e2 => by rw [stepN, if_neg e2] at hst2; omega
            have ht : ((decide ((k : Int) = 2)) ≠ (decide ((s : Int) > 0))) = False := eq_false (by
              rw [stepN] at hst2
              by_cases e2 : k = 2
              · rw [if_pos e2] at hst2; simp; omega
              · rw [if_neg e2] at hst2; simp; omega)
            by_cases hb : n = nf ∧ (k > fk ∨ (k = fk ∧ s ≥ fs))
            · have t1 : ((n : Int) = (nf : Int)) = True := eq_true (by omega)
              by_cases hb2 : k > fk
              · have t2 : ((k : Int) > (fk : Int)) = True := eq_true (by omega)
                have hsp := @Nat.succ_ne_zero; repeat' (first | simp (disch := first | exact Nat.ne_of_beq_eq_false rfl | assumption | exact dschM13 | fail) only [go_sem, ↓reduceIte, hsp, chn, pap, r93, u9, u10, uA3, uA5, uA92, g3, g5, l1, hlt3, neB4, ht, t1, t2, eq_self, decide_true, if_true, Bool.false_eq_true] | refine WP_draw (by kernel_rfl) ?_ | refine cnd_intro (fun hsp => ?_) (fun hsp => ?_))
                first | exact ⟨by (repeat first | exact Agree.refl | assumption | refine Agree.put rfl ?_ | refine Agree.put0 ?_ | refine Agree.sub rfl (by assumption) ?_), by first | rfl | omega | (simp (disch := first | exact Nat.ne_of_beq_eq_false rfl | assumption | exact dschM13 | fail) only [go_sem, ↓reduceIte, Int.natCast_zero]; first | done | rfl)⟩ | exact ⟨by (repeat first | exact Agree.refl | assumption | refine Agree.put rfl ?_ | refine Agree.put0 ?_ | refine Agree.sub rfl (by assumption) ?_), by first | rfl | omega | (simp (disch := first | exact Nat.ne_of_beq_eq_false rfl | assumption | exact dschM13 | fail) only [go_sem, ↓reduceIte, Int.natCast_zero]; first | done | rfl), rfl⟩ | exact (by (repeat first | exact Agree.refl | assumption | refine Agree.put rfl ?_ | refine Agree.put0 ?_ | refine Agree.sub rfl (by assumption) ?_))
              · have t2 : ((k : Int) > (fk : Int)) = False := eq_false (by omega)
                have t3 : ((k : Int) = (fk : Int)) = True := eq_true (by omega)
                have t4 : ((s : Int) ≥ (fs : Int)) = True := eq_true (by omega)
                have hsp := @Nat.succ_ne_zero; repeat' (first | simp (disch := first | exact Nat.ne_of_beq_eq_false rfl | assumption | exact dschM13 | fail) only [go_sem, ↓reduceIte, hsp, chn, pap, r93, u9, u10, uA3, uA5, uA92, g3, g5, l1, hlt3, neB4, ht, t1, t2, t3, t4, eq_self, decide_true, if_true, Bool.false_eq_true] | refine WP_draw (by kernel_rfl) ?_ | refine cnd_intro (fun hsp => ?_) (fun hsp => ?_))
                first | exact ⟨by (repeat first | exact Agree.refl | assumption | refine Agree.put rfl ?_ | refine Agree.put0 ?_ | refine Agree.sub rfl (by assumption) ?_), by first | rfl | omega | (simp (disch := first | exact Nat.ne_of_beq_eq_false rfl | assumption | exact dschM13 | fail) only [go_sem, ↓reduceIte, Int.natCast_zero]; first | done | rfl)⟩ | exact ⟨by (repeat first | exact Agree.refl | assumption | refine Agree.put rfl ?_ | refine Agree.put0 ?_ | refine Agree.sub rfl (by assumption) ?_), by first | rfl | omega | (simp (disch := first | exact Nat.ne_of_beq_eq_false rfl | assumption | exact dschM13 | fail) only [go_sem, ↓reduceIte, Int.natCast_zero]; first | done | rfl), rfl⟩ | exact (by (repeat first | exact Agree.refl | assumption | refine Agree.put rfl ?_ | refine Agree.put0 ?_ | refine Agree.sub rfl (by assumption) ?_))
            · have hex := hdir n k s hn0 (by omega) (by omega) hs hst2 hb
              obtain ⟨a, b, e1, e2, e3, e4, e5, e6, e7, e8, e9, e10⟩ := excl_pkg hL ⟨hn0, by omega⟩ hex
              have ep : planS W L k n s = 0 := by unfold planS; rw [if_neg (by simp [hL]), if_neg (by omega), if_neg (by omega), if_neg (by simp [hst3])]
              have ee : exclS W L k n s = ((a : Int), (b : Int), 0) := by
                unfold exclS
                rw [if_neg (by simp [ep])]
                simp only [Int.toNat_natCast, e1]
                rfl
              have es : exclsS W L k n s a b = (true, 0) := by
                unfold exclsS
                rw [if_neg (by simp [ep]), if_neg (by omega)]
                simp only [Int.toNat_natCast, e10]
              have v1 : ((a : Int) < 0) = False := eq_false (by omega)
              have v2 : ((b : Int) ≤ (a : Int)) = False := eq_false (by omega)
              have v3 : ((b : Int) ≥ (L.length : Int)) = False := eq_false (by omega)
              have ka : ∀ {base : Nat} {H : Heap}, callL prog raw base (.fn 43 [] []) [.int .i64 (k : Int), .int .i64 (n : Int), .int .i64 (s : Int), .int .i64 W, .int .i64 (a : Int)] H = some (.tuple [.int .i64 (a : Int), .int .i64 ((0 : Nat) : Int)], H) := fun {base H} => by
                rw [run43 (by omega) (by omega) (by omega) (by omega) (by omega) (fun hh => hsz (by omega))]
                simp only [Int.toNat_natCast, e6, e7]
              have kb : ∀ {base : Nat} {H : Heap}, callL prog raw base (.fn 43 [] []) [.int .i64 (k : Int), .int .i64 (n : Int), .int .i64 (s : Int), .int .i64 W, .int .i64 (b : Int)] H = some (.tuple [.int .i64 (a : Int), .int .i64 ((moveN k n s W.toNat b : Nat) : Int)], H) := fun {base H} => by
                rw [run43 (by omega) (by omega) (by omega) (by omega) (by omega) (fun hh => hsz (by omega))]
                simp only [Int.toNat_natCast, e5]
              obtain ⟨m, hm⟩ : ∃ m, moveN k n s W.toNat b = m := ⟨_, rfl⟩
              rw [hm] at e8 e9 kb
              have hrem : ((m : Int) - 0 + W).tmod W = (m : Int) := by
                rw [Int.tmod_eq_emod_of_nonneg (by omega), show (m : Int) - 0 + W = m + W by omega, Int.add_emod_right, Int.emod_eq_of_lt (by omega) (by omega)]
              have hxa := hx _ (getD_mem (l := L) (i := a) (by omega))
              have k35 : ∀ {base : Nat} {H : Heap}, callL prog raw base (.fn 35 [] []) [.int .i64 (L.getD a 0), .int .i64 (m : Int), .int .i64 W] H = some (.int .i64 ((rotN (L.getD a 0).toNat m W.toNat : Nat) : Int), H) := fun {base H} => by
                rw [run35 hw8 hxa (by omega), Int.toNat_natCast]
              have e9' : (((rotN (L.getD a 0).toNat m W.toNat : Nat) : Int) = L.getD b 0) = False := eq_false e9
              have hla : (a : Int) < L.length := by omega
              have hlb : (b : Int) < L.length := by omega
              by_cases hnn : n = nf
              · have t1 : ((n : Int) = (nf : Int)) = True := eq_true (by omega)
                have t2 : ((k : Int) > (fk : Int)) = False := eq_false (by omega)
                by_cases hkk : k = fk
                · have t3 : ((k : Int) = (fk : Int)) = True := eq_true (by omega)
                  have t4 : ((s : Int) ≥ (fs : Int)) = False := eq_false (by omega)
                  have hsp := @Nat.succ_ne_zero; repeat' (first | simp (disch := first | exact Nat.ne_of_beq_eq_false rfl | assumption | exact dschM13 | fail) only [go_sem, ↓reduceIte, hsp, chn, pap, r93, u9, u10, uA3, uA5, uA92, g3, g5, l1, hlt3, neB4, ht, t1, t2, t3, t4, ee, es, tup3, tupBI, v1, v2, v3, ka, kb, hrem, k35, e9', Int.toNat_natCast, eq_self, decide_true, if_true, Bool.false_eq_true] | refine WP_draw (by kernel_rfl) ?_ | refine cnd_intro (fun hsp => ?_) (fun hsp => ?_))
                  first | exact ⟨by (repeat first | exact Agree.refl | assumption | refine Agree.put rfl ?_ | refine Agree.put0 ?_ | refine Agree.sub rfl (by assumption) ?_), by first | rfl | omega | (simp (disch := first | exact Nat.ne_of_beq_eq_false rfl | assumption | exact dschM13 | fail) only [go_sem, ↓reduceIte, Int.natCast_zero]; first | done | rfl)⟩ | exact ⟨by (repeat first | exact Agree.refl | assumption | refine Agree.put rfl ?_ | refine Agree.put0 ?_ | refine Agree.sub rfl (by assumption) ?_), by first | rfl | omega | (simp (disch := first | exact Nat.ne_of_beq_eq_false rfl | assumption | exact dschM13 | fail) only [go_sem, ↓reduceIte, Int.natCast_zero]; first | done | rfl), rfl⟩ | exact (by (repeat first | exact Agree.refl | assumption | refine Agree.put rfl ?_ | refine Agree.put0 ?_ | refine Agree.sub rfl (by assumption) ?_))
                · have t3 : ((k : Int) = (fk : Int)) = False := eq_false (by omega)
                  have hsp := @Nat.succ_ne_zero; repeat' (first | simp (disch := first | exact Nat.ne_of_beq_eq_false rfl | assumption | exact dschM13 | fail) only [go_sem, ↓reduceIte, hsp, chn, pap, r93, u9, u10, uA3, uA5, uA92, g3, g5, l1, hlt3, neB4, ht, t1, t2, t3, ee, es, tup3, tupBI, v1, v2, v3, ka, kb, hrem, k35, e9', Int.toNat_natCast, eq_self, decide_true, if_true, Bool.false_eq_true] | refine WP_draw (by kernel_rfl) ?_ | refine cnd_intro (fun hsp => ?_) (fun hsp => ?_))
                  first | exact ⟨by (repeat first | exact Agree.refl | assumption | refine Agree.put rfl ?_ | refine Agree.put0 ?_ | refine Agree.sub rfl (by assumption) ?_), by first | rfl | omega | (simp (disch := first | exact Nat.ne_of_beq_eq_false rfl | assumption | exact dschM13 | fail) only [go_sem, ↓reduceIte, Int.natCast_zero]; first | done | rfl)⟩ | exact ⟨by (repeat first | exact Agree.refl | assumption | refine Agree.put rfl ?_ | refine Agree.put0 ?_ | refine Agree.sub rfl (by assumption) ?_), by first | rfl | omega | (simp (disch := first | exact Nat.ne_of_beq_eq_false rfl | assumption | exact dschM13 | fail) only [go_sem, ↓reduceIte, Int.natCast_zero]; first | done | rfl), rfl⟩ | exact (by (repeat first | exact Agree.refl | assumption | refine Agree.put rfl ?_ | refine Agree.put0 ?_ | refine Agree.sub rfl (by assumption) ?_))
              · have t1 : ((n : Int) = (nf : Int)) = False := eq_false (by omega)
                have hsp := @Nat.succ_ne_zero; repeat' (first | simp (disch := first | exact Nat.ne_of_beq_eq_false rfl | assumption | exact dschM13 | fail) only [go_sem, ↓reduceIte, hsp, chn, pap, r93, u9, u10, uA3, uA5, uA92, g3, g5, l1, hlt3, neB4, ht, t1, ee, es, tup3, tupBI, v1, v2, v3, ka, kb, hrem, k35, e9', Int.toNat_natCast, eq_self, decide_true, if_true, Bool.false_eq_true] | refine WP_draw (by kernel_rfl) ?_ | refine cnd_intro (fun hsp => ?_) (fun hsp => ?_))
                first | exact ⟨by (repeat first | exact Agree.refl | assumption | refine Agree.put rfl ?_ | refine Agree.put0 ?_ | refine Agree.sub rfl (by assumption) ?_), by first | rfl | omega | (simp (disch := first | exact Nat.ne_of_beq_eq_false rfl | assumption | exact dschM13 | fail) only [go_sem, ↓reduceIte, Int.natCast_zero]; first | done | rfl)⟩ | exact ⟨by (repeat first | exact Agree.refl | assumption | refine Agree.put rfl ?_ | refine Agree.put0 ?_ | refine Agree.sub rfl (by assumption) ?_), by first | rfl | omega | (simp (disch := first | exact Nat.ne_of_beq_eq_false rfl | assumption | exact dschM13 | fail) only [go_sem, ↓reduceIte, Int.natCast_zero]; first | done | rfl), rfl⟩ | exact (by (repeat first | exact Agree.refl | assumption | refine Agree.put rfl ?_ | refine Agree.put0 ?_ | refine Agree.sub rfl (by assumption) ?_))
          · have ht : ((decide ((k : Int) = 2)) ≠ (decide ((s : Int) > 0))) = True := eq_true (by
              rw [stepN] at hst2
              by_cases e2 : k = 2
              · rw [if_pos e2] at hst2; simp; omega
              · rw [if_neg e2] at hst2; simp; omega)
            have hsp := @Nat.succ_ne_zero; repeat' (first | simp (disch := first | exact Nat.ne_of_beq_eq_false rfl | assumption | exact dschM13 | fail) only [go_sem, ↓reduceIte, hsp, chn, pap, r93, u9, u10, uA3, uA5, uA92, g3, g5, l1, hlt3, neB4, ht] | refine WP_draw (by kernel_rfl) ?_ | refine cnd_intro (fun hsp => ?_) (fun hsp => ?_))
            first | exact ⟨by (repeat first | exact Agree.refl | assumption | refine Agree.put rfl ?_ | refine Agree.put0 ?_ | refine Agree.sub rfl (by assumption) ?_), by first | rfl | omega | (simp (disch := first | exact Nat.ne_of_beq_eq_false rfl | assumption | exact dschM13 | fail) only [go_sem, ↓reduceIte, Int.natCast_zero]; first | done | rfl)⟩ | exact ⟨by (repeat first | exact Agree.refl | assumption | refine Agree.put rfl ?_ | refine Agree.put0 ?_ | refine Agree.sub rfl (by assumption) ?_), by first | rfl | omega | (simp (disch := first | exact Nat.ne_of_beq_eq_false rfl | assumption | exact dschM13 | fail) only [go_sem, ↓reduceIte, Int.natCast_zero]; first | done | rfl), rfl⟩ | exact (by (repeat first | exact Agree.refl | assumption | refine Agree.put rfl ?_ | refine Agree.put0 ?_ | refine Agree.sub rfl (by assumption) ?_))
        · rintro fr3 H hG3 ⟨r93, rfl⟩
          have zA3 := hG3 3 rfl; (try simp (disch := first | exact Nat.ne_of_beq_eq_false rfl | assumption | exact dschM13 | fail) only [go_sem, ↓reduceIte, qA3] at zA3)
          have zA5 := hG3 5 rfl; (try simp (disch := first | exact Nat.ne_of_beq_eq_false rfl | assumption | exact dschM13 | fail) only [go_sem, ↓reduceIte, qA5] at zA5)
          have zA92 := hG3 92 rfl; (try simp (disch := first | exact Nat.ne_of_beq_eq_false rfl | assumption | exact dschM13 | fail) only [go_sem, ↓reduceIte] at zA92)
          have u9 := hG3 9 rfl; simp (disch := first | exact Nat.ne_of_beq_eq_false rfl | assumption | exact dschM13 | fail) only [go_sem, ↓reduceIte, q9] at u9
          have u10 := hG3 10 rfl; simp (disch := first | exact Nat.ne_of_beq_eq_false rfl | assumption | exact dschM13 | fail) only [go_sem, ↓reduceIte, r10] at u10
          have hlt3 : (((W.toNat : Nat) : Int) < W) = False := eq_false (by omega)
          have hsp := @Nat.succ_ne_zero; repeat' (first | simp (disch := first | exact Nat.ne_of_beq_eq_false rfl | assumption | exact dschM13 | fail) only [go_sem, ↓reduceIte, hsp, chn, pap, r93, u9, u10, zA3, zA5, zA92, hlt3] | refine WP_draw (by kernel_rfl) ?_ | refine cnd_intro (fun hsp => ?_) (fun hsp => ?_))
          first | exact ⟨by (repeat first | exact Agree.refl | assumption | refine Agree.put rfl ?_ | refine Agree.put0 ?_ | refine Agree.sub rfl (by assumption) ?_), by first | rfl | omega | (simp (disch := first | exact Nat.ne_of_beq_eq_false rfl | assumption | exact dschM13 | fail) only [go_sem, ↓reduceIte, Int.natCast_zero]; first | done | rfl)⟩ | exact ⟨by (repeat first | exact Agree.refl | assumption | refine Agree.put rfl ?_ | refine Agree.put0 ?_ | refine Agree.sub rfl (by assumption) ?_), by first | rfl | omega | (simp (disch := first | exact Nat.ne_of_beq_eq_false rfl | assumption | exact dschM13 | fail) only [go_sem, ↓reduceIte, Int.natCast_zero]; first | done | rfl), rfl⟩ | exact (by (repeat first | exact Agree.refl | assumption | refine Agree.put rfl ?_ | refine Agree.put0 ?_ | refine Agree.sub rfl (by assumption) ?_))
      · rintro fr2 H hG2 ⟨r10, rfl⟩
        have yA3 := hG2 3 rfl; (try simp (disch := first | exact Nat.ne_of_beq_eq_false rfl | assumption | exact dschM13 | fail) only [go_sem, ↓reduceIte, pA3] at yA3)
        have yA5 := hG2 5 rfl; (try simp (disch := first | exact Nat.ne_of_beq_eq_false rfl | assumption | exact dschM13 | fail) only [go_sem, ↓reduceIte, pA5] at yA5)
        have q9 := hG2 9 rfl; simp (disch := first | exact Nat.ne_of_beq_eq_false rfl | assumption | exact dschM13 | fail) only [go_sem, ↓reduceIte, r9] at q9
        have hlt2 : ((3 : Int) ≤ 2) = False := eq_false (by omega)
        have hsp := @Nat.succ_ne_zero; repeat' (first | simp (disch := first | exact Nat.ne_of_beq_eq_false rfl | assumption | exact dschM13 | fail) only [go_sem, ↓reduceIte, hsp, chn, pap, r10, q9, yA3, yA5, hlt2] | refine WP_draw (by kernel_rfl) ?_ | refine cnd_intro (fun hsp => ?_) (fun hsp => ?_))
        first | exact ⟨by (repeat first | exact Agree.refl | assumption | refine Agree.put rfl ?_ | refine Agree.put0 ?_ | refine Agree.sub rfl (by assumption) ?_), by first | rfl | omega | (simp (disch := first | exact Nat.ne_of_beq_eq_false rfl | assumption | exact dschM13 | fail) only [go_sem, ↓reduceIte, Int.natCast_zero]; first | done | rfl)⟩ | exact ⟨by (repeat first | exact Agree.refl | assumption | refine Agree.put rfl ?_ | refine Agree.put0 ?_ | refine Agree.sub rfl (by assumption) ?_), by first | rfl | omega | (simp (disch := first | exact Nat.ne_of_beq_eq_false rfl | assumption | exact dschM13 | fail) only [go_sem, ↓reduceIte, Int.natCast_zero]; first | done | rfl), rfl⟩ | exact (by (repeat first | exact Agree.refl | assumption | refine Agree.put rfl ?_ | refine Agree.put0 ?_ | refine Agree.sub rfl (by assumption) ?_))
    · rintro fr H hG1 ⟨r9, rfl⟩
      have xA3 := hG1 3 rfl; (try simp (disch := first | exact Nat.ne_of_beq_eq_false rfl | assumption | exact dschM13 | fail) only [go_sem, ↓reduceIte, k3] at xA3)
      have xA5 := hG1 5 rfl; (try simp (disch := first | exact Nat.ne_of_beq_eq_false rfl | assumption | exact dschM13 | fail) only [go_sem, ↓reduceIte, k5] at xA5)
      have hlt : (((nf + 1 : Nat) : Int) ≤ (nf : Int)) = False := eq_false (by omega)
      have hsp := @Nat.succ_ne_zero; repeat' (first | simp (disch := first | exact Nat.ne_of_beq_eq_false rfl | assumption | exact dschM13 | fail) only [go_sem, ↓reduceIte, hsp, chn, pap, r9, xA3, xA5, g3, g5, l1, hlt, hA] | refine WP_draw (by kernel_rfl) ?_ | refine cnd_intro (fun hsp => ?_) (fun hsp => ?_))
      exact fin_pl rfl rfl (by repeat' first | exact xG | refine Ext.app ?_)
  | false =>
    have hsp := @Nat.succ_ne_zero; repeat' (first | simp (disch := first | exact Nat.ne_of_beq_eq_false rfl | assumption | exact dschM13 | fail) only [go_sem, ↓reduceIte, hsp, chn, pap, k3, k4, k5, kF6, g3, g4, g5, g3, g4, g5, hL, w1, l1, c1, hrv, ww, tupBI, eq_self, decide_true, if_true, Bool.false_eq_true] | refine WP_draw (by kernel_rfl) ?_ | refine cnd_intro (fun hsp => ?_) (fun hsp => ?_))
    refine WP_count [(9, 20), (80, 217)] 1 (nf + 1) (by omega) (fun H n fr h => fr 9 = .int .i64 (n : Int) ∧ h = H) ?_ ?_ ?_
    · exact ⟨by (simp (disch := first | exact Nat.ne_of_beq_eq_false rfl | assumption | exact dschM13 | fail) only [go_sem, ↓reduceIte, Int.natCast_zero]; first | done | rfl), rfl⟩
    · rintro n fr H hn0 hn hG1 ⟨r9, rfl⟩
      have pB3 := hG1 3 rfl; (try simp (disch := first | exact Nat.ne_of_beq_eq_false rfl | assumption | exact dschM13 | fail) only [go_sem, ↓reduceIte, k3] at pB3)
      have pB5 := hG1 5 rfl; (try simp (disch := first | exact Nat.ne_of_beq_eq_false rfl | assumption | exact dschM13 | fail) only [go_sem, ↓reduceIte, k5] at pB5)
      have hlt : ((n : Int) ≤ (nf : Int)) = True := eq_true (by omega)
      have hsp := @Nat.succ_ne_zero; repeat' (first | simp (disch := first | exact Nat.ne_of_beq_eq_false rfl | assumption | exact dschM13 | fail) only [go_sem, ↓reduceIte, hsp, chn, pap, r9, pB3, pB5, g3, g5, l1, hlt] | refine WP_draw (by kernel_rfl) ?_ | refine cnd_intro (fun hsp => ?_) (fun hsp => ?_))
      refine WP_count [(10, 20), (87, 217)] 0 3 (by omega) (fun H k fr h => fr 10 = .int .i64 (k : Int) ∧ h = H) ?_ ?_ ?_
      · exact ⟨by (simp (disch := first | exact Nat.ne_of_beq_eq_false rfl | assumption | exact dschM13 | fail) only [go_sem, ↓reduceIte, Int.natCast_zero]; first | done | rfl), rfl⟩
      · rintro k fr2 H hk0 hk hG2 ⟨r10, rfl⟩
        have qB3 := hG2 3 rfl; (try simp (disch := first | exact Nat.ne_of_beq_eq_false rfl | assumption | exact dschM13 | fail) only [go_sem, ↓reduceIte, pB3] at qB3)
        have qB5 := hG2 5 rfl; (try simp (disch := first | exact Nat.ne_of_beq_eq_false rfl | assumption | exact dschM13 | fail) only [go_sem, ↓reduceIte, pB5] at qB5)
        have q9 := hG2 9 rfl; simp (disch := first | exact Nat.ne_of_beq_eq_false rfl | assumption | exact dschM13 | fail) only [go_sem, ↓reduceIte, r9] at q9
        have hlt2 : ((k : Int) ≤ 2) = True := eq_true (by omega)
        have hsp := @Nat.succ_ne_zero; repeat' (first | simp (disch := first | exact Nat.ne_of_beq_eq_false rfl | assumption | exact dschM13 | fail) only [go_sem, ↓reduceIte, hsp, chn, pap, r10, q9, qB3, qB5, g3, g5, l1, hlt2] | refine WP_draw (by kernel_rfl) ?_ | refine cnd_intro (fun hsp => ?_) (fun hsp => ?_))
        refine WP_count [(11, 20), (93, 217)] 0 W.toNat (by omega) (fun H s fr h => fr 93 = .int .i64 (s : Int) ∧ h = H) ?_ ?_ ?_
        · exact ⟨by (simp (disch := first | exact Nat.ne_of_beq_eq_false rfl | assumption | exact dschM13 | fail) only [go_sem, ↓reduceIte, Int.natCast_zero]; first | done | rfl), rfl⟩
        · rintro s fr3 H hs0 hs hG3 ⟨r93, rfl⟩
          have uB3 := hG3 3 rfl; (try simp (disch := first | exact Nat.ne_of_beq_eq_false rfl | assumption | exact dschM13 | fail) only [go_sem, ↓reduceIte, qB3] at uB3)
          have uB5 := hG3 5 rfl; (try simp (disch := first | exact Nat.ne_of_beq_eq_false rfl | assumption | exact dschM13 | fail) only [go_sem, ↓reduceIte, qB5] at uB5)
          have uB92 := hG3 92 rfl; (try simp (disch := first | exact Nat.ne_of_beq_eq_false rfl | assumption | exact dschM13 | fail) only [go_sem, ↓reduceIte] at uB92)
          have u9 := hG3 9 rfl; simp (disch := first | exact Nat.ne_of_beq_eq_false rfl | assumption | exact dschM13 | fail) only [go_sem, ↓reduceIte, q9] at u9
          have u10 := hG3 10 rfl; simp (disch := first | exact Nat.ne_of_beq_eq_false rfl | assumption | exact dschM13 | fail) only [go_sem, ↓reduceIte, r10] at u10
          have hlt3 : ((s : Int) < W) = True := eq_true (by omega)
          by_cases hst2 : stepOk k s W.toNat = true
          · have hst3 : stepOk (k : Int) (s : Int) W = true := by rw [show W = ((W.toNat : Nat) : Int) by omega]; exact hst2
            have hsz : k ≠ 2 → (s : Int) = 0 := fun e2 => by rw [stepN, if_neg e2] at hst2; omega
            have ht : ((decide ((k : Int) = 2)) ≠ (decide ((s : Int) > 0))) = False := eq_false (by
              rw [stepN] at hst2
              by_cases e2 : k = 2
              · rw [if_pos e2] at hst2; simp; omega
              · rw [if_neg e2] at hst2; simp; omega)
            by_cases hb : n = nf ∧ (k > fk ∨ (k = fk ∧ s ≥ fs))
            · have t1 : ((n : Int) = (nf : Int)) = True := eq_true (by omega)
              by_cases hb2 : k > fk
              · have t2 : ((k : Int) > (fk : Int)) = True := eq_true (by omega)
                have hsp := @Nat.succ_ne_zero; repeat' (first | simp (disch := first | exact Nat.ne_of_beq_eq_false rfl | assumption | exact dschM13 | fail) only [go_sem, ↓reduceIte, hsp, chn, pap, r93, u9, u10, uB3, uB5, uB92, g3, g5, l1, hlt3, neB4, ht, t1, t2, eq_self, decide_true, if_true, Bool.false_eq_true] | refine WP_draw (by kernel_rfl) ?_ | refine cnd_intro (fun hsp => ?_) (fun hsp => ?_))
                first | exact ⟨by (repeat first | exact Agree.refl | assumption | refine Agree.put rfl ?_ | refine Agree.put0 ?_ | refine Agree.sub rfl (by assumption) ?_), by first | rfl | omega | (simp (disch := first | exact Nat.ne_of_beq_eq_false rfl | assumption | exact dschM13 | fail) only [go_sem, ↓reduceIte, Int.natCast_zero]; first | done | rfl)⟩ | exact ⟨by (repeat first | exact Agree.refl | assumption | refine Agree.put rfl ?_ | refine Agree.put0 ?_ | refine Agree.sub rfl (by assumption) ?_), by first | rfl | omega | (simp (disch := first | exact Nat.ne_of_beq_eq_false rfl | assumption | exact dschM13 | fail) only [go_sem, ↓reduceIte, Int.natCast_zero]; first | done | rfl), rfl⟩ | exact (by (repeat first | exact Agree.refl | assumption | refine Agree.put rfl ?_ | refine Agree.put0 ?_ | refine Agree.sub rfl (by assumption) ?_))
              · have t2 : ((k : Int) > (fk : Int)) = False := eq_false (by omega)
                have t3 : ((k : Int) = (fk : Int)) = True := eq_true (by omega)
                have t4 : ((s : Int) ≥ (fs : Int)) = True := eq_true (by omega)
                have hsp := @Nat.succ_ne_zero; repeat' (first | simp (disch := first | exact Nat.ne_of_beq_eq_false rfl | assumption | exact dschM13 | fail) only [go_sem, ↓reduceIte, hsp, chn, pap, r93, u9, u10, uB3, uB5, uB92, g3, g5, l1, hlt3, neB4, ht, t1, t2, t3, t4, eq_self, decide_true, if_true, Bool.false_eq_true] | refine WP_draw (by kernel_rfl) ?_ | refine cnd_intro (fun hsp => ?_) (fun hsp => ?_))
                first | exact ⟨by (repeat first | exact Agree.refl | assumption | refine Agree.put rfl ?_ | refine Agree.put0 ?_ | refine Agree.sub rfl (by assumption) ?_), by first | rfl | omega | (simp (disch := first | exact Nat.ne_of_beq_eq_false rfl | assumption | exact dschM13 | fail) only [go_sem, ↓reduceIte, Int.natCast_zero]; first | done | rfl)⟩ | exact ⟨by (repeat first | exact Agree.refl | assumption | refine Agree.put rfl ?_ | refine Agree.put0 ?_ | refine Agree.sub rfl (by assumption) ?_), by first | rfl | omega | (simp (disch := first | exact Nat.ne_of_beq_eq_false rfl | assumption | exact dschM13 | fail) only [go_sem, ↓reduceIte, Int.natCast_zero]; first | done | rfl), rfl⟩ | exact (by (repeat first | exact Agree.refl | assumption | refine Agree.put rfl ?_ | refine Agree.put0 ?_ | refine Agree.sub rfl (by assumption) ?_))
            · have hex := hdir n k s hn0 (by omega) (by omega) hs hst2 hb
              obtain ⟨a, b, e1, e2, e3, e4, e5, e6, e7, e8, e9, e10⟩ := excl_pkg hL ⟨hn0, by omega⟩ hex
              have ep : planS W L k n s = 0 := by unfold planS; rw [if_neg (by simp [hL]), if_neg (by omega), if_neg (by omega), if_neg (by simp [hst3])]
              have ee : exclS W L k n s = ((a : Int), (b : Int), 0) := by
                unfold exclS
                rw [if_neg (by simp [ep])]
                simp only [Int.toNat_natCast, e1]
                rfl
              have es : exclsS W L k n s a b = (true, 0) := by
                unfold exclsS
                rw [if_neg (by simp [ep]), if_neg (by omega)]
                simp only [Int.toNat_natCast, e10]
              have v1 : ((a : Int) < 0) = False := eq_false (by omega)
              have v2 : ((b : Int) ≤ (a : Int)) = False := eq_false (by omega)
              have v3 : ((b : Int) ≥ (L.length : Int)) = False := eq_false (by omega)
              have ka : ∀ {base : Nat} {H : Heap}, callL prog raw base (.fn 43 [] []) [.int .i64 (k : Int), .int .i64 (n : Int), .int .i64 (s : Int), .int .i64 W, .int .i64 (a : Int)] H = some (.tuple [.int .i64 (a : Int), .int .i64 ((0 : Nat) : Int)], H) := fun {base H} => by
                rw [run43 (by omega) (by omega) (by omega) (by omega) (by omega) (fun hh => hsz (by omega))]
                simp only [Int.toNat_natCast, e6, e7]
              have kb : ∀ {base : Nat} {H : Heap}, callL prog raw base (.fn 43 [] []) [.int .i64 (k : Int), .int .i64 (n : Int), .int .i64 (s : Int), .int .i64 W, .int .i64 (b : Int)] H = some (.tuple [.int .i64 (a : Int), .int .i64 ((moveN k n s W.toNat b : Nat) : Int)], H) := fun {base H} => by
                rw [run43 (by omega) (by omega) (by omega) (by omega) (by omega) (fun hh => hsz (by omega))]
                simp only [Int.toNat_natCast, e5]
              obtain ⟨m, hm⟩ : ∃ m, moveN k n s W.toNat b = m := ⟨_, rfl⟩
              rw [hm] at e8 e9 kb
              have hrem : ((m : Int) - 0 + W).tmod W = (m : Int) := by
                rw [Int.tmod_eq_emod_of_nonneg (by omega), show (m : Int) - 0 + W = m + W by omega, Int.add_emod_right, Int.emod_eq_of_lt (by omega) (by omega)]
              have hxa := hx _ (getD_mem (l := L) (i := a) (by omega))
              have k35 : ∀ {base : Nat} {H : Heap}, callL prog raw base (.fn 35 [] []) [.int .i64 (L.getD a 0), .int .i64 (m : Int), .int .i64 W] H = some (.int .i64 ((rotN (L.getD a 0).toNat m W.toNat : Nat) : Int), H) := fun {base H} => by
                rw [run35 hw8 hxa (by omega), Int.toNat_natCast]
              have e9' : (((rotN (L.getD a 0).toNat m W.toNat : Nat) : Int) = L.getD b 0) = False := eq_false e9
              have hla : (a : Int) < L.length := by omega
              have hlb : (b : Int) < L.length := by omega
              by_cases hnn : n = nf
              · have t1 : ((n : Int) = (nf : Int)) = True := eq_true (by omega)
                have t2 : ((k : Int) > (fk : Int)) = False := eq_false (by omega)
                by_cases hkk : k = fk
                · have t3 : ((k : Int) = (fk : Int)) = True := eq_true (by omega)
                  have t4 : ((s : Int) ≥ (fs : Int)) = False := eq_false (by omega)
                  have hsp := @Nat.succ_ne_zero; repeat' (first | simp (disch := first | exact Nat.ne_of_beq_eq_false rfl | assumption | exact dschM13 | fail) only [go_sem, ↓reduceIte, hsp, chn, pap, r93, u9, u10, uB3, uB5, uB92, g3, g5, l1, hlt3, neB4, ht, t1, t2, t3, t4, ee, es, tup3, tupBI, v1, v2, v3, ka, kb, hrem, k35, e9', Int.toNat_natCast, eq_self, decide_true, if_true, Bool.false_eq_true] | refine WP_draw (by kernel_rfl) ?_ | refine cnd_intro (fun hsp => ?_) (fun hsp => ?_))
                  first | exact ⟨by (repeat first | exact Agree.refl | assumption | refine Agree.put rfl ?_ | refine Agree.put0 ?_ | refine Agree.sub rfl (by assumption) ?_), by first | rfl | omega | (simp (disch := first | exact Nat.ne_of_beq_eq_false rfl | assumption | exact dschM13 | fail) only [go_sem, ↓reduceIte, Int.natCast_zero]; first | done | rfl)⟩ | exact ⟨by (repeat first | exact Agree.refl | assumption | refine Agree.put rfl ?_ | refine Agree.put0 ?_ | refine Agree.sub rfl (by assumption) ?_), by first | rfl | omega | (simp (disch := first | exact Nat.ne_of_beq_eq_false rfl | assumption | exact dschM13 | fail) only [go_sem, ↓reduceIte, Int.natCast_zero]; first | done | rfl), rfl⟩ | exact (by (repeat first | exact Agree.refl | assumption | refine Agree.put rfl ?_ | refine Agree.put0 ?_ | refine Agree.sub rfl (by assumption) ?_))
                · have t3 : ((k : Int) = (fk : Int)) = False := eq_false (by omega)
                  have hsp := @Nat.succ_ne_zero; repeat' (first | simp (disch := first | exact Nat.ne_of_beq_eq_false rfl | assumption | exact dschM13 | fail) only [go_sem, ↓reduceIte, hsp, chn, pap, r93, u9, u10, uB3, uB5, uB92, g3, g5, l1, hlt3, neB4, ht, t1, t2, t3, ee, es, tup3, tupBI, v1, v2, v3, ka, kb, hrem, k35, e9', Int.toNat_natCast, eq_self, decide_true, if_true, Bool.false_eq_true] | refine WP_draw (by kernel_rfl) ?_ | refine cnd_intro (fun hsp => ?_) (fun hsp => ?_))
                  first | exact ⟨by (repeat first | exact Agree.refl | assumption | refine Agree.put rfl ?_ | refine Agree.put0 ?_ | refine Agree.sub rfl (by assumption) ?_), by first | rfl | omega | (simp (disch := first | exact Nat.ne_of_beq_eq_false rfl | assumption | exact dschM13 | fail) only [go_sem, ↓reduceIte, Int.natCast_zero]; first | done | rfl)⟩ | exact ⟨by (repeat first | exact Agree.refl | assumption | refine Agree.put rfl ?_ | refine Agree.put0 ?_ | refine Agree.sub rfl (by assumption) ?_), by first | rfl | omega | (simp (disch := first | exact Nat.ne_of_beq_eq_false rfl | assumption | exact dschM13 | fail) only [go_sem, ↓reduceIte, Int.natCast_zero]; first | done | rfl), rfl⟩ | exact (by (repeat first | exact Agree.refl | assumption | refine Agree.put rfl ?_ | refine Agree.put0 ?_ | refine Agree.sub rfl (by assumption) ?_))
              · have t1 : ((n : Int) = (nf : Int)) = False := eq_false (by omega)
                have hsp := @Nat.succ_ne_zero; repeat' (first | simp (disch := first | exact Nat.ne_of_beq_eq_false rfl | assumption | exact dschM13 | fail) only [go_sem, ↓reduceIte, hsp, chn, pap, r93, u9, u10, uB3, uB5, uB92, g3, g5, l1, hlt3, neB4, ht, t1, ee, es, tup3, tupBI, v1, v2, v3, ka, kb, hrem, k35, e9', Int.toNat_natCast, eq_self, decide_true, if_true, Bool.false_eq_true] | refine WP_draw (by kernel_rfl) ?_ | refine cnd_intro (fun hsp => ?_) (fun hsp => ?_))
                first | exact ⟨by (repeat first | exact Agree.refl | assumption | refine Agree.put rfl ?_ | refine Agree.put0 ?_ | refine Agree.sub rfl (by assumption) ?_), by first | rfl | omega | (simp (disch := first | exact Nat.ne_of_beq_eq_false rfl | assumption | exact dschM13 | fail) only [go_sem, ↓reduceIte, Int.natCast_zero]; first | done | rfl)⟩ | exact ⟨by (repeat first | exact Agree.refl | assumption | refine Agree.put rfl ?_ | refine Agree.put0 ?_ | refine Agree.sub rfl (by assumption) ?_), by first | rfl | omega | (simp (disch := first | exact Nat.ne_of_beq_eq_false rfl | assumption | exact dschM13 | fail) only [go_sem, ↓reduceIte, Int.natCast_zero]; first | done | rfl), rfl⟩ | exact (by (repeat first | exact Agree.refl | assumption | refine Agree.put rfl ?_ | refine Agree.put0 ?_ | refine Agree.sub rfl (by assumption) ?_))
          · have ht : ((decide ((k : Int) = 2)) ≠ (decide ((s : Int) > 0))) = True := eq_true (by
              rw [stepN] at hst2
              by_cases e2 : k = 2
              · rw [if_pos e2] at hst2; simp; omega
              · rw [if_neg e2] at hst2; simp; omega)
            have hsp := @Nat.succ_ne_zero; repeat' (first | simp (disch := first | exact Nat.ne_of_beq_eq_false rfl | assumption | exact dschM13 | fail) only [go_sem, ↓reduceIte, hsp, chn, pap, r93, u9, u10, uB3, uB5, uB92, g3, g5, l1, hlt3, neB4, ht] | refine WP_draw (by kernel_rfl) ?_ | refine cnd_intro (fun hsp => ?_) (fun hsp => ?_))
            first | exact ⟨by (repeat first | exact Agree.refl | assumption | refine Agree.put rfl ?_ | refine Agree.put0 ?_ | refine Agree.sub rfl (by assumption) ?_), by first | rfl | omega | (simp (disch := first | exact Nat.ne_of_beq_eq_false rfl | assumption | exact dschM13 | fail) only [go_sem, ↓reduceIte, Int.natCast_zero]; first | done | rfl)⟩ | exact ⟨by (repeat first | exact Agree.refl | assumption | refine Agree.put rfl ?_ | refine Agree.put0 ?_ | refine Agree.sub rfl (by assumption) ?_), by first | rfl | omega | (simp (disch := first | exact Nat.ne_of_beq_eq_false rfl | assumption | exact dschM13 | fail) only [go_sem, ↓reduceIte, Int.natCast_zero]; first | done | rfl), rfl⟩ | exact (by (repeat first | exact Agree.refl | assumption | refine Agree.put rfl ?_ | refine Agree.put0 ?_ | refine Agree.sub rfl (by assumption) ?_))
        · rintro fr3 H hG3 ⟨r93, rfl⟩
          have zB3 := hG3 3 rfl; (try simp (disch := first | exact Nat.ne_of_beq_eq_false rfl | assumption | exact dschM13 | fail) only [go_sem, ↓reduceIte, qB3] at zB3)
          have zB5 := hG3 5 rfl; (try simp (disch := first | exact Nat.ne_of_beq_eq_false rfl | assumption | exact dschM13 | fail) only [go_sem, ↓reduceIte, qB5] at zB5)
          have zB92 := hG3 92 rfl; (try simp (disch := first | exact Nat.ne_of_beq_eq_false rfl | assumption | exact dschM13 | fail) only [go_sem, ↓reduceIte] at zB92)
          have u9 := hG3 9 rfl; simp (disch := first | exact Nat.ne_of_beq_eq_false rfl | assumption | exact dschM13 | fail) only [go_sem, ↓reduceIte, q9] at u9
          have u10 := hG3 10 rfl; simp (disch := first | exact Nat.ne_of_beq_eq_false rfl | assumption | exact dschM13 | fail) only [go_sem, ↓reduceIte, r10] at u10
          have hlt3 : (((W.toNat : Nat) : Int) < W) = False := eq_false (by omega)
          have hsp := @Nat.succ_ne_zero; repeat' (first | simp (disch := first | exact Nat.ne_of_beq_eq_false rfl | assumption | exact dschM13 | fail) only [go_sem, ↓reduceIte, hsp, chn, pap, r93, u9, u10, zB3, zB5, zB92, hlt3] | refine WP_draw (by kernel_rfl) ?_ | refine cnd_intro (fun hsp => ?_) (fun hsp => ?_))
          first | exact ⟨by (repeat first | exact Agree.refl | assumption | refine Agree.put rfl ?_ | refine Agree.put0 ?_ | refine Agree.sub rfl (by assumption) ?_), by first | rfl | omega | (simp (disch := first | exact Nat.ne_of_beq_eq_false rfl | assumption | exact dschM13 | fail) only [go_sem, ↓reduceIte, Int.natCast_zero]; first | done | rfl)⟩ | exact ⟨by (repeat first | exact Agree.refl | assumption | refine Agree.put rfl ?_ | refine Agree.put0 ?_ | refine Agree.sub rfl (by assumption) ?_), by first | rfl | omega | (simp (disch := first | exact Nat.ne_of_beq_eq_false rfl | assumption | exact dschM13 | fail) only [go_sem, ↓reduceIte, Int.natCast_zero]; first | done | rfl), rfl⟩ | exact (by (repeat first | exact Agree.refl | assumption | refine Agree.put rfl ?_ | refine Agree.put0 ?_ | refine Agree.sub rfl (by assumption) ?_))
      · rintro fr2 H hG2 ⟨r10, rfl⟩
        have yB3 := hG2 3 rfl; (try simp (disch := first | exact Nat.ne_of_beq_eq_false rfl | assumption | exact dschM13 | fail) only [go_sem, ↓reduceIte, pB3] at yB3)
        have yB5 := hG2 5 rfl; (try simp (disch := first | exact Nat.ne_of_beq_eq_false rfl | assumption | exact dschM13 | fail) only [go_sem, ↓reduceIte, pB5] at yB5)
        have q9 := hG2 9 rfl; simp (disch := first | exact Nat.ne_of_beq_eq_false rfl | assumption | exact dschM13 | fail) only [go_sem, ↓reduceIte, r9] at q9
        have hlt2 : ((3 : Int) ≤ 2) = False := eq_false (by omega)
        have hsp := @Nat.succ_ne_zero; repeat' (first | simp (disch := first | exact Nat.ne_of_beq_eq_false rfl | assumption | exact dschM13 | fail) only [go_sem, ↓reduceIte, hsp, chn, pap, r10, q9, yB3, yB5, hlt2] | refine WP_draw (by kernel_rfl) ?_ | refine cnd_intro (fun hsp => ?_) (fun hsp => ?_))
        first | exact ⟨by (repeat first | exact Agree.refl | assumption | refine Agree.put rfl ?_ | refine Agree.put0 ?_ | refine Agree.sub rfl (by assumption) ?_), by first | rfl | omega | (simp (disch := first | exact Nat.ne_of_beq_eq_false rfl | assumption | exact dschM13 | fail) only [go_sem, ↓reduceIte, Int.natCast_zero]; first | done | rfl)⟩ | exact ⟨by (repeat first | exact Agree.refl | assumption | refine Agree.put rfl ?_ | refine Agree.put0 ?_ | refine Agree.sub rfl (by assumption) ?_), by first | rfl | omega | (simp (disch := first | exact Nat.ne_of_beq_eq_false rfl | assumption | exact dschM13 | fail) only [go_sem, ↓reduceIte, Int.natCast_zero]; first | done | rfl), rfl⟩ | exact (by (repeat first | exact Agree.refl | assumption | refine Agree.put rfl ?_ | refine Agree.put0 ?_ | refine Agree.sub rfl (by assumption) ?_))
    · rintro fr H hG1 ⟨r9, rfl⟩
      have xB3 := hG1 3 rfl; (try simp (disch := first | exact Nat.ne_of_beq_eq_false rfl | assumption | exact dschM13 | fail) only [go_sem, ↓reduceIte, k3] at xB3)
      have xB5 := hG1 5 rfl; (try simp (disch := first | exact Nat.ne_of_beq_eq_false rfl | assumption | exact dschM13 | fail) only [go_sem, ↓reduceIte, k5] at xB5)
      have hlt : (((nf + 1 : Nat) : Int) ≤ (nf : Int)) = False := eq_false (by omega)
      have hsp := @Nat.succ_ne_zero; repeat' (first | simp (disch := first | exact Nat.ne_of_beq_eq_false rfl | assumption | exact dschM13 | fail) only [go_sem, ↓reduceIte, hsp, chn, pap, r9, xB3, xB5, g3, g5, l1, hlt, hA] | refine WP_draw (by kernel_rfl) ?_ | refine cnd_intro (fun hsp => ?_) (fun hsp => ?_))
      exact fin_pl rfl rfl (by repeat' first | exact xG | refine Ext.app ?_)
end Go.AM
