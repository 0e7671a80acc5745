/-
  The law CardOnly.
-/
import Derived.Test.YtppkmjfplhenmaaS6
import Derived.Test.YtppkmjfplhenmaaP3
set_option linter.unusedSimpArgs false
set_option linter.unusedVariables false
namespace Go.AM
open Go.Proofs.Try
theorem dschM4 {p : Prop} (h : p := by first | exact Nat.ne_of_beq_eq_false rfl | assumption | (apply asOne; (first | exact One.int | exact One.bool | exact newV_one | exact nlV_one | exact grV_one | exact cloneV_one | exact takF_one | assumption | exact Ints.one (by assumption) | exact slcV_one (by assumption) | exact Bytes.one (by assumption) | exact One.lit ⟨rfl, rfl, rfl⟩)) | (apply asSp; (repeat first | assumption | apply SpAt.set | (refine SpAt.new ?_ (by (first | rfl | (simp only [List.length_append, List.length_cons, List.length_nil, List.length_set]; done) | (simp only [List.length_append, List.length_cons, List.length_nil, List.length_set]; omega)))) | apply SpAt.app | apply Bytes.app); done) | (apply asBytes; (repeat first | assumption | apply Bytes.app); done) | (apply asInts; first | ((repeat first | assumption | (apply nlV_ints <;> first | assumption | (first | rfl | (simp only [List.length_append, List.length_cons, List.length_nil, List.length_set]; done) | (simp only [List.length_append, List.length_cons, List.length_nil, List.length_set]; omega))) | (apply newV_ints' <;> first | assumption | (first | rfl | (simp only [List.length_append, List.length_cons, List.length_nil, List.length_set]; done) | (simp only [List.length_append, List.length_cons, List.length_nil, List.length_set]; omega))) | (apply grV_ints <;> first | assumption | (first | rfl | (simp only [List.length_append, List.length_cons, List.length_nil, List.length_set]; done) | (simp only [List.length_append, List.length_cons, List.length_nil, List.length_set]; omega))) | (apply Ints.slc <;> first | (repeat first | assumption | apply Ints.app); done | omega) | apply Ints.app); done) | ((repeat first | (apply slice_row <;> first | assumption | (first | rfl | (simp only [List.length_append, List.length_cons, List.length_nil, List.length_set]; done) | (simp only [List.length_append, List.length_cons, List.length_nil, List.length_set]; omega))) | apply Ints.app); done)) | (apply asTak; (repeat first | assumption | (refine TakAt.new ?_; (first | rfl | (simp only [List.length_append, List.length_cons, List.length_nil, List.length_set]; done) | (simp only [List.length_append, List.length_cons, List.length_nil, List.length_set]; omega))) | apply TakAt.app); done) | (apply asScal; (first | apply allS1 | apply allS2 | apply allS3 | apply allS4) <;> (first | exact One.int | exact One.bool | exact newV_one | exact nlV_one | exact grV_one | exact cloneV_one | exact takF_one | assumption | exact Ints.one (by assumption) | exact slcV_one (by assumption) | exact Bytes.one (by assumption) | exact One.lit ⟨rfl, rfl, rfl⟩)) | exact litT rfl | exact litF rfl | omega | (simp only [List.length_append, List.length_cons, List.length_nil, lst_len, List.length_set, ints_length, List.length_reverse]; first | done | omega) | fail) : p := h
attribute [-go_sem] put_ne put_same
attribute [local go_sem ↓] put_if


theorem neB4 {a b : Bool} : binA prog .neq 4 (.bool a) (.bool b) = some (.bool (decide (a ≠ b))) := by cases a <;> cases b <;> kernel_rfl
theorem nlV_one {n : Nat} {l : List Int} : One (nlV n l) := by
  unfold nlV
  split
  · exact One.lit ⟨rfl, rfl, rfl⟩
  · exact newV_one
theorem nlV_ints {A : Heap} {l : List Int} {n : Nat} (hn : n = A.length) (hs : Small l) : Ints (A ++ newH l) (nlV n l) l := by
  unfold nlV
  split
  · rename_i e
    subst e
    exact ⟨⟨by simp, by simp⟩, .inl ⟨rfl, rfl⟩⟩
  · subst hn
    exact newV_ints hs

theorem st4 {base : Nat} {l : List Oper} {s : St} {Q : AExit → St → Prop} : WP prog raw base (.region 5 l.toArray false) s Q = WPS prog raw base (.region 5 l.toArray false) s Q := WP_stop
attribute [local go_sem ↓ 3000] st4
set_option maxRecDepth 100000 in
set_option maxHeartbeats 4000000 in
theorem run4 (hA : Awake) {base : Nat} {h : Heap} {v : AVal} {silk : List Int} (hB : Bytes h v silk) :
    callL prog raw base (.fn 4 [] []) [v] h = some (.bool true, h) := by
  unfold Awake at hA
  obtain ⟨W, K, S, L, C, E, hL, hC, hW, hLl, hCl, hE, hmd⟩ := md_pkg (silk := silk) (k := 0) (width := 5) (cards := 6) (throws := 24) (changed := 2) (by omega) (by omega) (by omega) (by omega) (by omega)
  obtain ⟨hw8, hp, hx⟩ := chk_ok hL
  have hsL := small_of hL
  have hfw : fewS W L = (W, L.take (fewestS W.toNat L).2.1.toNat, (fewestS W.toNat L).1, (fewestS W.toNat L).2.2, 0) := by unfold fewS; rw [if_neg (by simp [hL])]
  have hfb := fewest_bd hL
  have hst := small_take (n := (fewestS W.toNat L).2.1.toNat) hsL
  have htl : ((L.take (fewestS W.toNat L).2.1.toNat).length : Int) = (fewestS W.toNat L).2.1 := by rw [List.length_take]; omega
  have hsC : Small C := by
    obtain ⟨a, b, _, _, _, c⟩ := chkC_ok hC
    exact ⟨by omega, fun x hm => by have := c x hm; have := pow_256 a.1 a.2; omega⟩
  have hz : ((0 : Int) = 0) = True := eq_true rfl
  refine callL_run func4 rfl rfl ?_
  have hsp := @Nat.succ_ne_zero; repeat' (first | simp (disch := first | exact Nat.ne_of_beq_eq_false rfl | assumption | exact dschM4 | fail) only [go_sem, ↓reduceIte, hsp, chn, pap, run32, hmd, hfw, hz] | refine WP_draw (by kernel_rfl) ?_ | refine cnd_intro (fun hsp => ?_) (fun hsp => ?_))
  refine WPS_rest fun F G eF eG => ?_
  rw [WP_region]
  have kF3 := congrFun eF 3; (try simp (disch := first | exact Nat.ne_of_beq_eq_false rfl | assumption | exact dschM4 | fail) only [go_sem, ↓reduceIte] at kF3)
  have kF5 := congrFun eF 5; (try simp (disch := first | exact Nat.ne_of_beq_eq_false rfl | assumption | exact dschM4 | fail) only [go_sem, ↓reduceIte] at kF5)
  have gF3 := congrArg (fun X => atP X (F 3)) eG; (try simp only [kF3, atP_ptr] at gF3); (try simp (disch := first | exact Nat.ne_of_beq_eq_false rfl | assumption | exact dschM4 | fail) only [go_sem, ↓reduceIte] at gF3)
  have gF5 := congrArg (fun X => atP X (F 5)) eG; (try simp only [kF5, atP_ptr] at gF5); (try simp (disch := first | exact Nat.ne_of_beq_eq_false rfl | assumption | exact dschM4 | fail) only [go_sem, ↓reduceIte] at gF5)
  have lG := congrArg List.length eG; (try simp (disch := first | exact Nat.ne_of_beq_eq_false rfl | assumption | exact dschM4 | fail) only [go_sem, ↓reduceIte] at lG)
  have xG : Ext h G := by rw [eG]; repeat' first | exact Ext.refl | refine Ext.app ?_
  obtain ⟨a3, k3, V3, g3, i3⟩ : ∃ a, F 3 = .ptr (some ⟨a, 0, 0⟩) ∧ ∃ V, G[a]? = some ⟨.cells [.int .i64 W, V] 24 false false, 0⟩ ∧ Ints G V (L) := ⟨_, kF3, _, gF3, by rw [eG]; exact dschM4⟩
  have b3 := lt_of_get g3; clear kF3 gF3
  obtain ⟨a5, k5, V5, g5, i5⟩ : ∃ a, F 5 = .ptr (some ⟨a, 0, 0⟩) ∧ ∃ V, G[a]? = some ⟨.cells [.int .i64 W, V, .int .i64 (fewestS W.toNat L).1, .int .i64 (fewestS W.toNat L).2.2] 34 false false, 0⟩ ∧ Ints G V (L.take (fewestS W.toNat L).2.1.toNat) := ⟨_, kF5, _, gF5, by rw [eG]; exact dschM4⟩
  have b5 := lt_of_get g5; clear kF5 gF5
  clear eG lG eF
  have hG := xG.len
  obtain ⟨⟨fk, fs, hfk, hfs, hfst, hfe1, hfe2, hfe, hfirst⟩, hmin⟩ := few_min hL
  have hsp := @Nat.succ_ne_zero; repeat' (first | simp (disch := first | exact Nat.ne_of_beq_eq_false rfl | assumption | exact dschM4 | fail) only [go_sem, ↓reduceIte, hsp, chn, pap, k3, k5, g3, g5] | refine WP_draw (by kernel_rfl) ?_ | refine cnd_intro (fun hsp => ?_) (fun hsp => ?_))
  refine WP_count [(7, 17), (34, 110)] 0 3 (Nat.zero_le _) (fun H i fr h => fr 8 = .int .i64 (i : Int) ∧ h = H ∧ ∃ x, fr 7 = .int .i64 x ∧ LP W.toNat L i 0 x) ?_ ?_ ?_
  · exact ⟨by (simp (disch := first | exact Nat.ne_of_beq_eq_false rfl | assumption | exact dschM4 | fail) only [go_sem, ↓reduceIte, Int.natCast_zero]; first | done | rfl), rfl, _, by (simp (disch := first | exact Nat.ne_of_beq_eq_false rfl | assumption | exact dschM4 | fail) only [go_sem, ↓reduceIte, Int.natCast_zero]; first | done | rfl), LP_zero⟩
  · rintro i fr H hi0 hi hG1 ⟨r8, rfl, x, r7, hLP⟩
    have p3 := hG1 3 rfl; (try simp (disch := first | exact Nat.ne_of_beq_eq_false rfl | assumption | exact dschM4 | fail) only [go_sem, ↓reduceIte, k3] at p3)
    have hlt : ((i : Int) ≤ 2) = True := eq_true (by omega)
    have hsp := @Nat.succ_ne_zero; repeat' (first | simp (disch := first | exact Nat.ne_of_beq_eq_false rfl | assumption | exact dschM4 | fail) only [go_sem, ↓reduceIte, hsp, chn, pap, r8, r7, p3, hlt, g3] | refine WP_draw (by kernel_rfl) ?_ | refine cnd_intro (fun hsp => ?_) (fun hsp => ?_))
    refine WP_count [(7, 7), (9, 17), (40, 110)] 0 W.toNat (Nat.zero_le _) (fun H j fr h => fr 40 = .int .i64 (j : Int) ∧ h = H ∧ ∃ x, fr 7 = .int .i64 x ∧ LP W.toNat L i j x) ?_ ?_ ?_
    · exact ⟨by (simp (disch := first | exact Nat.ne_of_beq_eq_false rfl | assumption | exact dschM4 | fail) only [go_sem, ↓reduceIte, Int.natCast_zero]; first | done | rfl), rfl, x, by (simp (disch := first | exact Nat.ne_of_beq_eq_false rfl | assumption | exact dschM4 | fail) only [go_sem, ↓reduceIte, r7]; first | done | rfl), hLP⟩
    · rintro j fr2 H hj0 hj hA2 ⟨r40, rfl, y, r7', hLP'⟩
      have q3 := hA2 3 rfl; (try simp (disch := first | exact Nat.ne_of_beq_eq_false rfl | assumption | exact dschM4 | fail) only [go_sem, ↓reduceIte, p3] at q3)
      have q39 := hA2 39 rfl; (try simp (disch := first | exact Nat.ne_of_beq_eq_false rfl | assumption | exact dschM4 | fail) only [go_sem, ↓reduceIte] at q39)
      have q8 := hA2 8 rfl; simp (disch := first | exact Nat.ne_of_beq_eq_false rfl | assumption | exact dschM4 | fail) only [go_sem, ↓reduceIte, r8] at q8
      have hjw : ((j : Int) < W) = True := eq_true (by omega)
      have hsl0 : ∀ {n : Nat}, n ≤ L.length → Ints H (slcV V3 0 n) (L.take n) := fun {n} hn => by
        have := Ints.slc i3 (Nat.zero_le _) hn
        rwa [List.drop_zero] at this
      by_cases hst2 : stepOk i j W.toNat = true
      · have hst3 : stepOk (i : Int) (j : Int) W = true := by rw [show W = ((W.toNat : Nat) : Int) by omega]; exact hst2
        have ht : ((decide ((i : Int) = 2)) ≠ (decide ((j : Int) > 0))) = False := eq_false (by
          rw [stepN] at hst2
          by_cases e2 : i = 2
          · rw [if_pos e2] at hst2; simp; omega
          · rw [if_neg e2] at hst2; simp; omega)
        obtain ⟨⟨o1, o2⟩, o3, o4⟩ := only_is hL i j
        have eo : onlyS W L i j = (((onlyN W.toNat L i j : Nat) : Int), 0) := by unfold onlyS; rw [if_neg (by simp [hL]), if_neg (by omega), if_neg (by simp [hst3])]; simp
        have hLP2 := LP_take hLP' (by omega) hj hst2
        have f1 := weave_first (w := W.toNat) (k := i) (s := j) ⟨o1, o2⟩
        have hsl := hsl0 o2
        have hct := chkC_take (k := (i : Int)) (s := (j : Int)) hL (by omega) hst3 ⟨o1, o2⟩
        generalize hn : onlyN W.toNat L i j = n at *
        have ew : weavesR W (L.take n) i j W L = true := by
          unfold weavesR
          rw [if_neg (fun hh => hh.elim (fun h1 => h1 hct) (fun h1 => h1 rfl)), Int.toNat_natCast, Int.toNat_natCast, f1, o3]
          rfl
        have ep : planS W L i n j = 0 := by unfold planS; rw [if_neg (by simp [hL]), if_neg (by omega), if_neg (by omega), if_neg (by simp [hst3])]
        have ee : exclS W L i n j = (0, 0, 6) := by unfold exclS; rw [if_neg (by simp [ep])]; simp only [Int.toNat_natCast]; rw [if_neg (by simp [o3])]
        have c1 : ((n : Int) < 1) = False := eq_false (by omega)
        have c2 : ((n : Int) > (L.length : Int)) = False := eq_false (by omega)
        have hp1000 : L.length ≤ 1000 := by omega
        by_cases hn1 : 1 < n
        · have c3 : ((n : Int) > 1) = True := eq_true (by omega)
          have o5 := o4 (n - 1) (by omega) (by omega)
          have en : (n : Int) - 1 = ((n - 1 : Nat) : Int) := by omega
          have ep2 : planS W L i ((n - 1 : Nat) : Int) j = 0 := by unfold planS; rw [if_neg (by simp [hL]), if_neg (by omega), if_neg (by omega), if_neg (by simp [hst3])]
          have ee2 : ∃ a b, exclS W L i ((n - 1 : Nat) : Int) j = (a, b, 0) := by
            have h5 : exclS W L i ((n - 1 : Nat) : Int) j = ((((firstS W.toNat L i (n - 1) j).1 : Nat) : Int), (((firstS W.toNat L i (n - 1) j).2.1 : Nat) : Int), 0) := by
              unfold exclS
              rw [if_neg (by simp [ep2])]
              simp only [Int.toNat_natCast]
              rw [if_pos o5]
            exact ⟨_, _, h5⟩
          obtain ⟨ea, eb, ee2⟩ := ee2
          have hsp := @Nat.succ_ne_zero; repeat' (first | simp (disch := first | exact Nat.ne_of_beq_eq_false rfl | assumption | exact dschM4 | fail) only [go_sem, ↓reduceIte, hsp, chn, pap, r40, r7', q3, q39, q8, g3, hjw, neB4, ht, eo, tup2, tup3, c1, c2, c3, sl22h, ew, ee, en, ee2, Int.toNat_natCast] | refine WP_draw (by kernel_rfl) ?_ | refine cnd_intro (fun hsp => ?_) (fun hsp => ?_))
          refine ⟨by (repeat first | exact Agree.refl | assumption | refine Agree.put rfl ?_ | refine Agree.put0 ?_ | refine Agree.sub rfl (by assumption) ?_), ?_⟩
          first | exact ⟨by omega, y, rfl, hLP2⟩ | exact ⟨by omega, rfl, y, rfl, hLP2⟩ | exact ⟨by omega, _, rfl, hLP2⟩ | exact ⟨by omega, rfl, _, rfl, hLP2⟩ | exact ⟨by omega, hLP2⟩
        · have c3 : ((n : Int) > 1) = False := eq_false (by omega)
          have hsp := @Nat.succ_ne_zero; repeat' (first | simp (disch := first | exact Nat.ne_of_beq_eq_false rfl | assumption | exact dschM4 | fail) only [go_sem, ↓reduceIte, hsp, chn, pap, r40, r7', q3, q39, q8, g3, hjw, neB4, ht, eo, tup2, tup3, c1, c2, c3, sl22h, ew, ee, Int.toNat_natCast] | refine WP_draw (by kernel_rfl) ?_ | refine cnd_intro (fun hsp => ?_) (fun hsp => ?_))
          refine ⟨by (repeat first | exact Agree.refl | assumption | refine Agree.put rfl ?_ | refine Agree.put0 ?_ | refine Agree.sub rfl (by assumption) ?_), ?_⟩
          first | exact ⟨by omega, y, rfl, hLP2⟩ | exact ⟨by omega, rfl, y, rfl, hLP2⟩ | exact ⟨by omega, _, rfl, hLP2⟩ | exact ⟨by omega, rfl, _, rfl, hLP2⟩ | exact ⟨by omega, hLP2⟩
      · have ht : ((decide ((i : Int) = 2)) ≠ (decide ((j : Int) > 0))) = True := eq_true (by
          rw [stepN] at hst2
          by_cases e2 : i = 2
          · rw [if_pos e2] at hst2; simp; omega
          · rw [if_neg e2] at hst2; simp; omega)
        have hsp := @Nat.succ_ne_zero; repeat' (first | simp (disch := first | exact Nat.ne_of_beq_eq_false rfl | assumption | exact dschM4 | fail) only [go_sem, ↓reduceIte, hsp, chn, pap, r40, r7', q3, q39, q8, g3, hjw, neB4, ht] | refine WP_draw (by kernel_rfl) ?_ | refine cnd_intro (fun hsp => ?_) (fun hsp => ?_))
        refine ⟨by (repeat first | exact Agree.refl | assumption | refine Agree.put rfl ?_ | refine Agree.put0 ?_ | refine Agree.sub rfl (by assumption) ?_), ?_⟩
        first | exact ⟨by omega, y, rfl, (LP_skip hLP' hst2)⟩ | exact ⟨by omega, rfl, y, rfl, (LP_skip hLP' hst2)⟩ | exact ⟨by omega, _, rfl, (LP_skip hLP' hst2)⟩ | exact ⟨by omega, rfl, _, rfl, (LP_skip hLP' hst2)⟩ | exact ⟨by omega, (LP_skip hLP' hst2)⟩
    · rintro fr2 H hA2 ⟨r40, rfl, y, r7', hLP'⟩
      have q23 := hA2 3 rfl; (try simp (disch := first | exact Nat.ne_of_beq_eq_false rfl | assumption | exact dschM4 | fail) only [go_sem, ↓reduceIte, p3] at q23)
      have q239 := hA2 39 rfl; (try simp (disch := first | exact Nat.ne_of_beq_eq_false rfl | assumption | exact dschM4 | fail) only [go_sem, ↓reduceIte] at q239)
      have q8 := hA2 8 rfl; simp (disch := first | exact Nat.ne_of_beq_eq_false rfl | assumption | exact dschM4 | fail) only [go_sem, ↓reduceIte, r8] at q8
      have hjw : (((W.toNat : Nat) : Int) < W) = False := eq_false (by omega)
      have hsp := @Nat.succ_ne_zero; repeat' (first | simp (disch := first | exact Nat.ne_of_beq_eq_false rfl | assumption | exact dschM4 | fail) only [go_sem, ↓reduceIte, hsp, chn, pap, r40, r7', q23, q239, q8, g3, hjw] | refine WP_draw (by kernel_rfl) ?_ | refine cnd_intro (fun hsp => ?_) (fun hsp => ?_))
      refine ⟨by (repeat first | exact Agree.refl | assumption | refine Agree.put rfl ?_ | refine Agree.put0 ?_ | refine Agree.sub rfl (by assumption) ?_), ?_⟩
      first | exact ⟨by omega, y, rfl, (LP_row hLP')⟩ | exact ⟨by omega, rfl, y, rfl, (LP_row hLP')⟩ | exact ⟨by omega, _, rfl, (LP_row hLP')⟩ | exact ⟨by omega, rfl, _, rfl, (LP_row hLP')⟩ | exact ⟨by omega, (LP_row hLP')⟩
  · rintro fr H hG1 ⟨r8, rfl, x, r7, hLP⟩
    have p23 := hG1 3 rfl; (try simp (disch := first | exact Nat.ne_of_beq_eq_false rfl | assumption | exact dschM4 | fail) only [go_sem, ↓reduceIte, k3] at p23)
    have p25 := hG1 5 rfl; (try simp (disch := first | exact Nat.ne_of_beq_eq_false rfl | assumption | exact dschM4 | fail) only [go_sem, ↓reduceIte, k5] at p25)
    have hlt : ((3 : Int) ≤ 2) = False := eq_false (by omega)
    have he := LP_end hL hLP
    have htl2 : (((L.take (fewestS W.toNat L).2.1.toNat).length : Int) = x) = True := eq_true (by omega)
    have hsp := @Nat.succ_ne_zero; repeat' (first | simp (disch := first | exact Nat.ne_of_beq_eq_false rfl | assumption | exact dschM4 | fail) only [go_sem, ↓reduceIte, hsp, chn, pap, r8, r7, p23, p25, hlt, g3, g5, htl2, hA] | refine WP_draw (by kernel_rfl) ?_ | refine cnd_intro (fun hsp => ?_) (fun hsp => ?_))
    exact fin_pl rfl rfl (by repeat' first | exact xG | refine Ext.app ?_)
end Go.AM
