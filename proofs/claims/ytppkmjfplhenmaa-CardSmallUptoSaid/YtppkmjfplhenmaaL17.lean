/-
  The law CardPapers.
-/
import Derived.Test.YtppkmjfplhenmaaL0
import Derived.Test.YtppkmjfplhenmaaA7
set_option linter.unusedSimpArgs false
set_option linter.unusedVariables false
namespace Go.AM
open Go.Proofs.Try
theorem dschL17 {p : Prop} (h : p := by first | exact Nat.ne_of_beq_eq_false rfl | assumption | (apply asOne; (first | exact One.int | exact One.bool | exact newV_one | exact nlV_one | exact grV_one | exact cloneV_one | exact takF_one | assumption | exact Ints.one (by assumption) | exact slcV_one (by assumption) | exact One.lit ⟨rfl, rfl, rfl⟩)) | (apply asInts; first | ((repeat first | assumption | (apply nlV_ints <;> first | assumption | (first | rfl | (simp only [List.length_append, List.length_cons, List.length_nil, List.length_set]; done) | (simp only [List.length_append, List.length_cons, List.length_nil, List.length_set]; omega))) | exact ints_nil | (apply newV_ints' <;> first | assumption | (first | rfl | (simp only [List.length_append, List.length_cons, List.length_nil, List.length_set]; done) | (simp only [List.length_append, List.length_cons, List.length_nil, List.length_set]; omega))) | (apply grV_ints <;> first | assumption | (first | rfl | (simp only [List.length_append, List.length_cons, List.length_nil, List.length_set]; done) | (simp only [List.length_append, List.length_cons, List.length_nil, List.length_set]; omega))) | (apply Ints.slc <;> first | (repeat first | assumption | apply Ints.app); done | omega) | apply Ints.app); done) | (apply asNl; ((repeat first | assumption | apply Ints.app); done)) | ((repeat first | (apply slice_row <;> first | assumption | (first | rfl | (simp only [List.length_append, List.length_cons, List.length_nil, List.length_set]; done) | (simp only [List.length_append, List.length_cons, List.length_nil, List.length_set]; omega))) | apply Ints.app); done)) | (apply asTak; (repeat first | assumption | (refine TakAt.new ?_; (first | rfl | (simp only [List.length_append, List.length_cons, List.length_nil, List.length_set]; done) | (simp only [List.length_append, List.length_cons, List.length_nil, List.length_set]; omega))) | apply TakAt.app); done) | (apply asScal; (first | apply allS1 | apply allS2 | apply allS3 | apply allS4) <;> (first | exact One.int | exact One.bool | exact newV_one | exact nlV_one | exact grV_one | exact cloneV_one | exact takF_one | assumption | exact Ints.one (by assumption) | exact slcV_one (by assumption) | exact One.lit ⟨rfl, rfl, rfl⟩)) | exact litT rfl | exact litF rfl | omega | (simp only [List.length_append, List.length_cons, List.length_nil, lst_len, List.length_set, ints_length, List.length_reverse]; first | done | omega) | fail) : p := h


theorem asNl {h : Heap} {v : AVal} {l : List Int} (x : Ints h v l) : Ints h v l := x

theorem nlV_one {n : Nat} {l : List Int} : One (nlV n l) := by
  unfold nlV
  split
  · exact One.lit ⟨rfl, rfl, rfl⟩
  · exact newV_one
theorem nlV_ints {A : Heap} {l : List Int} {n : Nat} (hn : n = A.length) (hs : Small l) : Ints (A ++ newH l) (nlV n l) l := by
  unfold nlV
  split
  · rename_i e
    subst e
    exact ⟨⟨by simp, by simp⟩, .inl ⟨rfl, rfl⟩⟩
  · subst hn
    exact newV_ints hs
theorem neB4 {a b : Bool} : binA prog .neq 4 (.bool a) (.bool b) = some (.bool (decide (a ≠ b))) := by cases a <;> cases b <;> kernel_rfl
attribute [-go_sem] put_ne put_same
attribute [local go_sem ↓] put_if
theorem st17 {base : Nat} {l : List Oper} {s : St} {Q : AExit → St → Prop} : WP prog raw base (.region 7 l.toArray false) s Q = WPS prog raw base (.region 7 l.toArray false) s Q := WP_stop
attribute [local go_sem ↓ 3000] st17
theorem st18 {base : Nat} {l : List Oper} {s : St} {Q : AExit → St → Prop} : WP prog raw base (.region 18 l.toArray false) s Q = WPS prog raw base (.region 18 l.toArray false) s Q := WP_stop
attribute [local go_sem ↓ 3000] st18
theorem st33 {base : Nat} {l : List Oper} {s : St} {Q : AExit → St → Prop} : WP prog raw base (.region 33 l.toArray false) s Q = WPS prog raw base (.region 33 l.toArray false) s Q := WP_stop
attribute [local go_sem ↓ 3000] st33
set_option maxRecDepth 100000 in
set_option maxHeartbeats 200000000 in
theorem run17 (hA : Awake) {base : Nat} {h : Heap} {v v' : AVal} {l m : List Int} {w w' k s t n : Int} (hI : Ints h v l) (hI' : Ints h v' m) (hl : l.length ≤ 1048576) (hl' : m.length ≤ 1048576) :
    callL prog raw base (.fn 17 [] []) [pap w v, chn w' v' k s, .int .i64 t, .int .i64 n] h = some (.bool true, h) := by
  unfold Awake at hA
  have hs := small_ints hI hl
  have hs' := small_ints hI' hl'
  refine callL_run func17 rfl rfl ?_
  by_cases hw : l.length > 60
  · have hsp := @Nat.succ_ne_zero; repeat' (first | simp (disch := first | exact dschL17 | fail) only [go_sem, ↓reduceIte, hsp, pap, chn, hw, hA] | refine WP_drw ?_ | refine cnd_intro (fun hsp => ?_) fun hsp => ?_)
    all_goals exact fin_pl rfl rfl (by repeat' first | exact Ext.refl | refine Ext.app ?_)
  by_cases hw' : m.length > 60
  · have hsp := @Nat.succ_ne_zero; repeat' (first | simp (disch := first | exact dschL17 | fail) only [go_sem, ↓reduceIte, hsp, pap, chn, hw, hw', hA] | refine WP_drw ?_ | refine cnd_intro (fun hsp => ?_) fun hsp => ?_)
    all_goals exact fin_pl rfl rfl (by repeat' first | exact Ext.refl | refine Ext.app ?_)
  have hsp := @Nat.succ_ne_zero; repeat' (first | simp (disch := first | exact dschL17 | fail) only [go_sem, ↓reduceIte, hsp, pap, chn, hw, hw', run21, run22, run40, run50, tup3, tupBI] | refine WP_drw ?_ | refine cnd_intro (fun hsp => ?_) fun hsp => ?_)
  refine WPS_rest fun F G eF eG => ?_
  rw [WP_region]
  have kF2 := congrFun eF 2
  have kF3 := congrFun eF 3
  have kF4 := congrFun eF 4
  have kF5 := congrFun eF 5
  have kF9 := congrFun eF 9
  have kF10 := congrFun eF 10
  have kF11 := congrFun eF 11
  have kF12 := congrFun eF 12
  have kF13 := congrFun eF 13
  have kF14 := congrFun eF 14
  try simp (disch := first | exact dschL17 | fail) only [go_sem, ↓reduceIte] at kF2 kF3 kF4 kF5 kF9 kF10 kF11 kF12 kF13 kF14
  have gF4 := congrArg (fun X => atP X (F 4)) eG
  have gF5 := congrArg (fun X => atP X (F 5)) eG
  have gF9 := congrArg (fun X => atP X (F 9)) eG
  have gF10 := congrArg (fun X => atP X (F 10)) eG
  have gF11 := congrArg (fun X => atP X (F 11)) eG
  have gF12 := congrArg (fun X => atP X (F 12)) eG
  try simp only [kF4, kF5, kF9, kF10, kF11, kF12, atP_ptr] at gF4 gF5 gF9 gF10 gF11 gF12
  have lG := congrArg List.length eG
  try simp (disch := first | exact dschL17 | fail) only [go_sem, ↓reduceIte] at gF4 gF5 gF9 gF10 gF11 gF12 lG
  have xG : Ext h G := by rw [eG]; repeat' first | exact Ext.refl | refine Ext.app ?_
  obtain ⟨a4, k4, V4, g4, i4⟩ : ∃ a, F 4 = .ptr (some ⟨a, 0, 0⟩) ∧ ∃ V, G[a]? = some ⟨.cells [.int .i64 w, V] 24 false false, 0⟩ ∧ Ints G V (l) := ⟨_, kF4, _, gF4, by rw [eG]; exact dschL17⟩
  have b4 := lt_of_get g4; clear kF4 gF4
  obtain ⟨a5, k5, V5, g5, i5⟩ : ∃ a, F 5 = .ptr (some ⟨a, 0, 0⟩) ∧ ∃ V, G[a]? = some ⟨.cells [.int .i64 w', V, .int .i64 k, .int .i64 s] 34 false false, 0⟩ ∧ Ints G V (m) := ⟨_, kF5, _, gF5, by rw [eG]; exact dschL17⟩
  have b5 := lt_of_get g5; clear kF5 gF5
  obtain ⟨a9, k9, V9, g9, i9⟩ : ∃ a, F 9 = .ptr (some ⟨a, 0, 0⟩) ∧ ∃ V, G[a]? = some ⟨.cells [.int .i64 w, V] 24 false false, 0⟩ ∧ Ints G V (l) := ⟨_, kF9, _, gF9, by rw [eG]; exact dschL17⟩
  have b9 := lt_of_get g9; clear kF9 gF9
  obtain ⟨a10, k10, V10, g10, i10⟩ : ∃ a, F 10 = .ptr (some ⟨a, 0, 0⟩) ∧ ∃ V, G[a]? = some ⟨.cells [.int .i64 w', V, .int .i64 k, .int .i64 s] 34 false false, 0⟩ ∧ Ints G V (m) := ⟨_, kF10, _, gF10, by rw [eG]; exact dschL17⟩
  have b10 := lt_of_get g10; clear kF10 gF10
  obtain ⟨a11, k11, V11, g11, i11⟩ : ∃ a, F 11 = .ptr (some ⟨a, 0, 0⟩) ∧ ∃ V, G[a]? = some ⟨.cells [.int .i64 w, V] 29 false false, 0⟩ ∧ Ints G V (l) := ⟨_, kF11, _, gF11, by rw [eG]; exact dschL17⟩
  have b11 := lt_of_get g11; clear kF11 gF11
  obtain ⟨a12, k12, V12, g12, i12⟩ : ∃ a, F 12 = .ptr (some ⟨a, 0, 0⟩) ∧ ∃ V, G[a]? = some ⟨.cells [.int .i64 w', V, .int .i64 k, .int .i64 s] 40 false false, 0⟩ ∧ Ints G V (m) := ⟨_, kF12, _, gF12, by rw [eG]; exact dschL17⟩
  have b12 := lt_of_get g12; clear kF12 gF12
  clear eG lG eF
  have hG := xG.len

  by_cases hc : chk w l = 0
  · obtain ⟨hw8, hp, hx⟩ := chk_ok hc
    have hlr : l.reverse.length = l.length := List.length_reverse
    have hne : l.reverse ≠ [] := by intro e; rw [e, List.length_nil] at hlr; omega
    have hne2 : l ≠ [] := by rintro rfl; simp at hp
    have e1 : turnS w l = (w, l.reverse, 0) := by unfold turnS; rw [if_neg (by simp [hc])]
    have n1 : ∀ {n : Nat}, nlV n l.reverse = .slice (some ⟨n, 0, 0⟩) l.reverse.length l.reverse.length := fun {n} => nlV_ne hne
    have n2 : newH l.reverse = [rowB l.reverse 0] := newH_ne hne
    have hsr : Small l.reverse := ⟨by rw [hlr]; exact hs.1, fun x hx => hs.2 x (List.mem_reverse.1 hx)⟩
    have hsp := @Nat.succ_ne_zero; repeat' (first | simp (disch := first | exact dschL17 | fail) only [go_sem, ↓reduceIte, hsp, pap, chn, run21, run22, run40, run50, run30, run29, tup3, tupBI, eq_self, decide_true, if_true, Bool.false_eq_true, hA, kF2, kF3, k4, k5, k9, k10, k11, k12, kF13, kF14, g4, g5, g9, g10, g11, g12, hc, e1, n1, n2] | refine WP_drw ?_ | refine cnd_intro (fun hsp => ?_) fun hsp => ?_)
    refine WP_count [(26, 26), (99, 112)] 0 l.length (Nat.zero_le _) (fun H i fr h => fr 26 = .int .i64 ((l.length : Int) - 1 - i) ∧ h = H.set (G.length + 1 + 1 + (newH (weaveS w' m k s n).2.1).length + 1) ⟨.cells [.int .i64 w, grV H.length (l.reverse.take i)] 24 false false, 0⟩ ++ grH (l.reverse.take i)) ?_ ?_ ?_
    · refine ⟨by (simp (disch := first | exact dschL17 | fail) only [go_sem, ↓reduceIte, Int.natCast_zero, Int.sub_zero]; first | done | rfl), ?_⟩
      simp only [List.take_zero, grV_nil, grH_nil, List.append_nil]
      simp (disch := first | exact dschL17 | fail) only [go_sem, ↓reduceIte]
    · rintro i fr H hi0 hi hA2 ⟨r26, rfl⟩
      have p4 := hA2 4 rfl
      have p24 := hA2 24 rfl
      try simp (disch := first | exact dschL17 | fail) only [go_sem, ↓reduceIte, k4] at p4 p24
      have hge : ((l.length : Int) - 1 - i ≥ 0) = True := eq_true (by omega)
      have htl : (l.reverse.take i).length < 1073741824 := by rw [List.length_take]; omega
      have hto : ((l.length : Int) - 1 - i).toNat = l.length - 1 - i := by omega
      have hsp := @Nat.succ_ne_zero; repeat' (first | simp (disch := first | exact dschL17 | fail) only [go_sem, ↓reduceIte, hsp, pap, chn, run21, run22, run40, run50, run30, run29, tup3, tupBI, eq_self, decide_true, if_true, Bool.false_eq_true, hA, kF2, kF3, k4, k5, k9, k10, k11, k12, kF13, kF14, g4, g5, g9, g10, g11, g12, r26, p4, p24, hge, hto] | refine WP_drw ?_ | refine cnd_intro (fun hsp => ?_) fun hsp => ?_)
      refine ⟨by (repeat first | exact Agree.refl | assumption | refine Agree.put rfl ?_ | refine Agree.put0 ?_ | refine Agree.sub rfl (by assumption) ?_), by simp (disch := first | exact dschL17 | fail) only [go_sem, ↓reduceIte, show (l.length : Int) - 1 - ((i + 1 : Nat) : Int) = (l.length : Int) - 1 - i - 1 by omega], ?_⟩
      have et : l.reverse.take (i + 1) = l.reverse.take i ++ [l.getD (l.length - 1 - i) 0] := by
        rw [List.take_add_one, List.getElem?_eq_getElem (by omega)]
        rw [← rev_get (by omega), List.getD_eq_getElem?_getD, List.getElem?_eq_getElem (by omega)]
        rfl
      rw [et]
      try simp (disch := first | exact dschL17 | fail) only [go_sem, ↓reduceIte]
    · rintro fr H hA2 ⟨r26, rfl⟩
      have pp2 := hA2 2 rfl
      have pp3 := hA2 3 rfl
      have pp4 := hA2 4 rfl
      have pp5 := hA2 5 rfl
      have pp9 := hA2 9 rfl
      have pp10 := hA2 10 rfl
      have pp11 := hA2 11 rfl
      have pp12 := hA2 12 rfl
      have pp13 := hA2 13 rfl
      have pp14 := hA2 14 rfl
      have pp15 := hA2 15 rfl
      have pp16 := hA2 16 rfl
      have pp17 := hA2 17 rfl
      have pp18 := hA2 18 rfl
      have pp19 := hA2 19 rfl
      have pp20 := hA2 20 rfl
      have pp21 := hA2 21 rfl
      have pp22 := hA2 22 rfl
      have pp23 := hA2 23 rfl
      have pp24 := hA2 24 rfl
      have pp25 := hA2 25 rfl
      try simp (disch := first | exact dschL17 | fail) only [go_sem, ↓reduceIte, kF2, kF3, k4, k5, k9, k10, k11, k12, kF13, kF14] at pp2 pp3 pp4 pp5 pp9 pp10 pp11 pp12 pp13 pp14 pp15 pp16 pp17 pp18 pp19 pp20 pp21 pp22 pp23 pp24 pp25
      have hge : ((l.length : Int) - 1 - ((l.length : Nat) : Int) ≥ 0) = False := eq_false (by omega)
      have tk : l.reverse.take l.length = l.reverse := List.take_of_length_le (by omega)
      have gr1 : ∀ {N : Nat}, grV N l.reverse = .slice (some ⟨N, l.reverse.length - 1, 0⟩) l.reverse.length l.reverse.length := fun {N} => by cases hh : l.reverse with | nil => exact absurd hh hne | cons x xs => rfl
      have gr2 : grH l.reverse = [rowB l.reverse (l.reverse.length - 1)] := by cases hh : l.reverse with | nil => exact absurd hh hne | cons x xs => rfl
      have hsp := @Nat.succ_ne_zero; repeat' (first | simp (disch := first | exact dschL17 | fail) only [go_sem, ↓reduceIte, hsp, pap, chn, run21, run22, run40, run50, run30, run29, tup3, tupBI, eq_self, decide_true, if_true, Bool.false_eq_true, hA, pp2, pp3, pp4, pp5, pp9, pp10, pp11, pp12, pp13, pp14, pp15, pp16, pp17, pp18, pp19, pp20, pp21, pp22, pp23, pp24, pp25, hge, tk, r26] | refine WP_drw ?_ | refine cnd_intro (fun hsp => ?_) fun hsp => ?_)
      refine WPS_restF fun E eE => ?_
      rw [WP_region]
      have kE2 := congrFun eE 2
      have kE3 := congrFun eE 3
      have kE4 := congrFun eE 4
      have kE5 := congrFun eE 5
      have kE9 := congrFun eE 9
      have kE10 := congrFun eE 10
      have kE11 := congrFun eE 11
      have kE12 := congrFun eE 12
      have kE13 := congrFun eE 13
      have kE14 := congrFun eE 14
      have kE15 := congrFun eE 15
      have kE16 := congrFun eE 16
      have kE17 := congrFun eE 17
      have kE18 := congrFun eE 18
      have kE19 := congrFun eE 19
      have kE20 := congrFun eE 20
      have kE21 := congrFun eE 21
      have kE22 := congrFun eE 22
      have kE23 := congrFun eE 23
      have kE24 := congrFun eE 24
      have kE25 := congrFun eE 25
      try simp (disch := first | exact dschL17 | fail) only [go_sem, ↓reduceIte, pp2, pp3, pp4, pp5, pp9, pp10, pp11, pp12, pp13, pp14, pp15, pp16, pp17, pp18, pp19, pp20, pp21, pp22, pp23, pp24, pp25] at kE2 kE3 kE4 kE5 kE9 kE10 kE11 kE12 kE13 kE14 kE15 kE16 kE17 kE18 kE19 kE20 kE21 kE22 kE23 kE24 kE25
      clear eE
      by_cases hd : chkC w' m k s = 0
      · obtain ⟨hv8, hm, hk, hss, hst, hy⟩ := chkC_ok hd
        have c1 : 1 ≤ (m.length : Int) ∧ (m.length : Int) ≤ 1000 := by omega
        have c2 : 0 ≤ s ∧ s ≤ 1000 := by omega
        have c3 : 1 ≤ w' ∧ w' ≤ 1000 := by omega
        by_cases ht : 0 ≤ t
        · by_cases ht' : t ≤ 1000000
          · have e2 : cardS w' m k s t = (((cardN k.toNat m.length t.toNat : Nat) : Int), ((moveN k.toNat m.length s.toNat w'.toNat t.toNat : Nat) : Int), 0) := by unfold cardS; rw [if_neg (by simp [hd]), if_neg (by simp [ht, ht'])]
            have ht2 : 0 ≤ t ∧ t ≤ 10000000 := by omega
            have t1 : (t ≥ 0) = True := eq_true ht
            have t2 : (t ≤ 1000000) = True := eq_true ht'
            by_cases hn : 1 ≤ n
            · by_cases hn' : n ≤ 48
              · obtain ⟨W, hW⟩ : ∃ W, lst (fun t => ((liftN w'.toNat m k.toNat s.toNat t : Nat) : Int)) n.toNat = W := ⟨_, rfl⟩
                have hWl : W.length = n.toNat := by rw [← hW, lst_len]
                have hWne : W ≠ [] := by rintro rfl; simp at hWl; omega
                have e3 : weaveS w' m k s n = (w', W, 0) := by unfold weaveS; rw [if_neg (by simp [hd]), if_neg (by simp [hn, hn'])]; exact congrArg (fun X => (w', X, (0 : Int))) hW
                have hsm : ∀ i, Small (lst (fun t => ((liftN w'.toNat m k.toNat s.toNat t : Nat) : Int)) (min i 48)) := fun i => ⟨by rw [lst_len]; omega, fun x hx => by
                  obtain ⟨j, _, rfl⟩ := List.mem_map.1 hx
                  have := liftN_small hd j
                  omega⟩
                have hsW : Small W := by have := hsm n.toNat; rwa [Nat.min_eq_left (by omega), hW] at this
                have n3 : ∀ {n : Nat}, nlV n W = .slice (some ⟨n, 0, 0⟩) W.length W.length := fun {n} => nlV_ne hWne
                have n4 : newH W = [rowB W 0] := newH_ne hWne
                have u1 : (n ≥ 1) = True := eq_true hn
                have u2 : (n ≤ 48) = True := eq_true hn'
                have hsp := @Nat.succ_ne_zero; repeat' (first | simp (disch := first | exact dschL17 | fail) only [go_sem, ↓reduceIte, hsp, pap, chn, run21, run22, run40, run50, run30, run29, tup3, tupBI, eq_self, decide_true, if_true, Bool.false_eq_true, hA, kE2, kE3, kE4, kE5, kE9, kE10, kE11, kE12, kE13, kE14, kE15, kE16, kE17, kE18, kE19, kE20, kE21, kE22, kE23, kE24, kE25, g4, g5, g9, g10, g11, g12, hc, e1, n1, n2, hd, e2, t1, t2, e3, n3, n4, u1, u2] | refine WP_drw ?_ | refine cnd_intro (fun hsp => ?_) fun hsp => ?_)
                refine WP_count [(34, 34), (149, 160)] 0 n.toNat (Nat.zero_le _) (fun H i fr h => fr 149 = .int .i64 (i : Int) ∧ h = H.set (G.length + 1 + 1 + 1 + 1 + 1) ⟨.cells [.int .i64 w', grV H.length (lst (fun t => ((liftN w'.toNat m k.toNat s.toNat t : Nat) : Int)) i)] 24 false false, 0⟩ ++ grH (lst (fun t => ((liftN w'.toNat m k.toNat s.toNat t : Nat) : Int)) i)) ?_ ?_ ?_
                · refine ⟨by (simp (disch := first | exact dschL17 | fail) only [go_sem, ↓reduceIte, Int.natCast_zero]; first | done | rfl), ?_⟩
                  simp only [lst_zero, grV_nil, grH_nil, List.append_nil]
                  simp (disch := first | exact dschL17 | fail) only [go_sem, ↓reduceIte]
                · rintro i fr H hi0 hi hA2 ⟨r149, rfl⟩
                  have q12 := hA2 12 rfl
                  have q25 := hA2 25 rfl
                  have q148 := hA2 148 rfl
                  try simp (disch := first | exact dschL17 | fail) only [go_sem, ↓reduceIte, kE12, kE25] at q12 q25 q148
                  have hlt : ((i : Int) < n) = True := eq_true (by omega)
                  have htl : (lst (fun t => ((liftN w'.toNat m k.toNat s.toNat t : Nat) : Int)) i).length < 1073741824 := by rw [lst_len]; omega
                  have hin : 0 ≤ (i : Int) ∧ (i : Int) ≤ 10000000 := by omega
                  have hsp := @Nat.succ_ne_zero; repeat' (first | simp (disch := first | exact dschL17 | fail) only [go_sem, ↓reduceIte, hsp, pap, chn, run21, run22, run40, run50, run30, run29, tup3, tupBI, eq_self, decide_true, if_true, Bool.false_eq_true, hA, hc, e1, n1, n2, hd, e2, t1, t2, e3, n3, n4, u1, u2, r149, q12, q25, q148, g12, hlt] | refine WP_drw ?_ | refine cnd_intro (fun hsp => ?_) fun hsp => ?_)
                  
                  refine ⟨by (repeat first | exact Agree.refl | assumption | refine Agree.put rfl ?_ | refine Agree.put0 ?_ | refine Agree.sub rfl (by assumption) ?_), by (first | rfl | omega | (simp (disch := first | exact dschL17 | fail) only [go_sem, ↓reduceIte, Int.natCast_zero]; first | done | rfl)), ?_⟩
                  rw [lst_succ]
                  try simp (disch := first | exact dschL17 | fail) only [go_sem, ↓reduceIte, hc, e1, n1, n2, hd, e2, t1, t2, e3, n3, n4, u1, u2]
                · rintro fr H hA2 ⟨r149, rfl⟩
                  have qq2 := hA2 2 rfl
                  have qq3 := hA2 3 rfl
                  have qq4 := hA2 4 rfl
                  have qq5 := hA2 5 rfl
                  have qq9 := hA2 9 rfl
                  have qq10 := hA2 10 rfl
                  have qq11 := hA2 11 rfl
                  have qq12 := hA2 12 rfl
                  have qq13 := hA2 13 rfl
                  have qq14 := hA2 14 rfl
                  have qq15 := hA2 15 rfl
                  have qq16 := hA2 16 rfl
                  have qq17 := hA2 17 rfl
                  have qq18 := hA2 18 rfl
                  have qq19 := hA2 19 rfl
                  have qq20 := hA2 20 rfl
                  have qq21 := hA2 21 rfl
                  have qq22 := hA2 22 rfl
                  have qq23 := hA2 23 rfl
                  have qq24 := hA2 24 rfl
                  have qq25 := hA2 25 rfl
                  have qq26 := hA2 26 rfl
                  have qq27 := hA2 27 rfl
                  have qq28 := hA2 28 rfl
                  have qq29 := hA2 29 rfl
                  have qq30 := hA2 30 rfl
                  have qq31 := hA2 31 rfl
                  have qq32 := hA2 32 rfl
                  have qq33 := hA2 33 rfl
                  have qq148 := hA2 148 rfl
                  try simp (disch := first | exact dschL17 | fail) only [go_sem, ↓reduceIte, kE2, kE3, kE4, kE5, kE9, kE10, kE11, kE12, kE13, kE14, kE15, kE16, kE17, kE18, kE19, kE20, kE21, kE22, kE23, kE24, kE25] at qq2 qq3 qq4 qq5 qq9 qq10 qq11 qq12 qq13 qq14 qq15 qq16 qq17 qq18 qq19 qq20 qq21 qq22 qq23 qq24 qq25 qq26 qq27 qq28 qq29 qq30 qq31 qq32 qq33 qq148
                  have hlt : (((n.toNat : Nat) : Int) < n) = False := eq_false (by omega)
                  have hsp := @Nat.succ_ne_zero; repeat' (first | simp (disch := first | exact dschL17 | fail) only [go_sem, ↓reduceIte, hsp, pap, chn, run21, run22, run40, run50, run30, run29, tup3, tupBI, eq_self, decide_true, if_true, Bool.false_eq_true, hA, hc, e1, n1, n2, hd, e2, t1, t2, e3, n3, n4, u1, u2, qq2, qq3, qq4, qq5, qq9, qq10, qq11, qq12, qq13, qq14, qq15, qq16, qq17, qq18, qq19, qq20, qq21, qq22, qq23, qq24, qq25, qq26, qq27, qq28, qq29, qq30, qq31, qq32, qq33, qq148, hlt, r149, hW] | refine WP_drw ?_ | refine cnd_intro (fun hsp => ?_) fun hsp => ?_)
                  all_goals (try (exfalso; omega))
                  refine WPS_restF fun P0 eP0 => ?_
                  rw [WP_region]
                  have kP02 := congrFun eP0 2
                  have kP03 := congrFun eP0 3
                  have kP04 := congrFun eP0 4
                  have kP05 := congrFun eP0 5
                  have kP09 := congrFun eP0 9
                  have kP010 := congrFun eP0 10
                  have kP011 := congrFun eP0 11
                  have kP012 := congrFun eP0 12
                  have kP013 := congrFun eP0 13
                  have kP014 := congrFun eP0 14
                  have kP015 := congrFun eP0 15
                  have kP016 := congrFun eP0 16
                  have kP017 := congrFun eP0 17
                  have kP018 := congrFun eP0 18
                  have kP019 := congrFun eP0 19
                  have kP020 := congrFun eP0 20
                  have kP021 := congrFun eP0 21
                  have kP022 := congrFun eP0 22
                  have kP023 := congrFun eP0 23
                  have kP024 := congrFun eP0 24
                  have kP025 := congrFun eP0 25
                  have kP026 := congrFun eP0 26
                  have kP027 := congrFun eP0 27
                  have kP028 := congrFun eP0 28
                  have kP029 := congrFun eP0 29
                  have kP030 := congrFun eP0 30
                  have kP031 := congrFun eP0 31
                  have kP032 := congrFun eP0 32
                  have kP033 := congrFun eP0 33
                  try simp (disch := first | exact dschL17 | fail) only [go_sem, ↓reduceIte, qq2, qq3, qq4, qq5, qq9, qq10, qq11, qq12, qq13, qq14, qq15, qq16, qq17, qq18, qq19, qq20, qq21, qq22, qq23, qq24, qq25, qq26, qq27, qq28, qq29, qq30, qq31, qq32, qq33] at kP02 kP03 kP04 kP05 kP09 kP010 kP011 kP012 kP013 kP014 kP015 kP016 kP017 kP018 kP019 kP020 kP021 kP022 kP023 kP024 kP025 kP026 kP027 kP028 kP029 kP030 kP031 kP032 kP033
                  clear eP0
                  by_cases hww : w' = w
                  · have e4 : weavesS w' m k s w l = (weaveB w'.toNat m k.toNat s.toNat l, 0) := by unfold weavesS; rw [if_neg (by simp [hd]), if_neg (by simp [hc]), if_neg (by simp [hww])]; rfl
                    subst hww
                    have hsp := @Nat.succ_ne_zero; repeat' (first | simp (disch := first | exact dschL17 | fail) only [go_sem, ↓reduceIte, hsp, pap, chn, run21, run22, run40, run50, run30, run29, tup3, tupBI, eq_self, decide_true, if_true, Bool.false_eq_true, hA, kP02, kP03, kP04, kP05, kP09, kP010, kP011, kP012, kP013, kP014, kP015, kP016, kP017, kP018, kP019, kP020, kP021, kP022, kP023, kP024, kP025, kP026, kP027, kP028, kP029, kP030, kP031, kP032, kP033, g4, g5, g9, g10, g11, g12, hc, e1, n1, n2, hd, e2, t1, t2, e3, n3, n4, u1, u2, e4, neB4, clr_eq, stQ_all] | refine WP_drw ?_ | refine cnd_intro (fun hsp => ?_) fun hsp => ?_)
                    all_goals (first | exact fin_pl rfl rfl (by repeat' first | exact xG | exact (xG.set (by omega)) | refine Ext.app ?_) | (exfalso; omega))
                  · have e4 : weavesS w' m k s w l = (false, 7) := by unfold weavesS; rw [if_neg (by simp [hd]), if_neg (by simp [hc]), if_pos hww]
                    have hsp := @Nat.succ_ne_zero; repeat' (first | simp (disch := first | exact dschL17 | fail) only [go_sem, ↓reduceIte, hsp, pap, chn, run21, run22, run40, run50, run30, run29, tup3, tupBI, eq_self, decide_true, if_true, Bool.false_eq_true, hA, kP02, kP03, kP04, kP05, kP09, kP010, kP011, kP012, kP013, kP014, kP015, kP016, kP017, kP018, kP019, kP020, kP021, kP022, kP023, kP024, kP025, kP026, kP027, kP028, kP029, kP030, kP031, kP032, kP033, g4, g5, g9, g10, g11, g12, hc, e1, n1, n2, hd, e2, t1, t2, e3, n3, n4, u1, u2, e4, hww, neB4, clr_eq, stQ_all] | refine WP_drw ?_ | refine cnd_intro (fun hsp => ?_) fun hsp => ?_)
                    all_goals (first | exact fin_pl rfl rfl (by repeat' first | exact xG | exact (xG.set (by omega)) | refine Ext.app ?_) | (exfalso; omega))
              · have e3 : weaveS w' m k s n = (0, [], 2) := by unfold weaveS; rw [if_neg (by simp [hd]), if_pos (by omega)]
                have n3 : ∀ {n : Nat}, nlV n [] = .slice none 0 0 := fun {n} => by simp [nlV]
                have n4 : newH [] = [] := rfl
                have u1 : (n ≥ 1) = True := eq_true hn
                have u2 : (n ≤ 48) = False := eq_false hn'
                have hsp := @Nat.succ_ne_zero; repeat' (first | simp (disch := first | exact dschL17 | fail) only [go_sem, ↓reduceIte, hsp, pap, chn, run21, run22, run40, run50, run30, run29, tup3, tupBI, eq_self, decide_true, if_true, Bool.false_eq_true, hA, kE2, kE3, kE4, kE5, kE9, kE10, kE11, kE12, kE13, kE14, kE15, kE16, kE17, kE18, kE19, kE20, kE21, kE22, kE23, kE24, kE25, g4, g5, g9, g10, g11, g12, hc, e1, n1, n2, hd, e2, t1, t2, e3, n3, n4, u1, u2] | refine WP_drw ?_ | refine cnd_intro (fun hsp => ?_) fun hsp => ?_)
                all_goals (try (exfalso; omega))
                refine WPS_restF fun P2 eP2 => ?_
                rw [WP_region]
                have kP22 := congrFun eP2 2
                have kP23 := congrFun eP2 3
                have kP24 := congrFun eP2 4
                have kP25 := congrFun eP2 5
                have kP29 := congrFun eP2 9
                have kP210 := congrFun eP2 10
                have kP211 := congrFun eP2 11
                have kP212 := congrFun eP2 12
                have kP213 := congrFun eP2 13
                have kP214 := congrFun eP2 14
                have kP215 := congrFun eP2 15
                have kP216 := congrFun eP2 16
                have kP217 := congrFun eP2 17
                have kP218 := congrFun eP2 18
                have kP219 := congrFun eP2 19
                have kP220 := congrFun eP2 20
                have kP221 := congrFun eP2 21
                have kP222 := congrFun eP2 22
                have kP223 := congrFun eP2 23
                have kP224 := congrFun eP2 24
                have kP225 := congrFun eP2 25
                have kP226 := congrFun eP2 26
                have kP227 := congrFun eP2 27
                have kP228 := congrFun eP2 28
                have kP229 := congrFun eP2 29
                have kP230 := congrFun eP2 30
                have kP231 := congrFun eP2 31
                have kP232 := congrFun eP2 32
                have kP233 := congrFun eP2 33
                try simp (disch := first | exact dschL17 | fail) only [go_sem, ↓reduceIte, kE2, kE3, kE4, kE5, kE9, kE10, kE11, kE12, kE13, kE14, kE15, kE16, kE17, kE18, kE19, kE20, kE21, kE22, kE23, kE24, kE25] at kP22 kP23 kP24 kP25 kP29 kP210 kP211 kP212 kP213 kP214 kP215 kP216 kP217 kP218 kP219 kP220 kP221 kP222 kP223 kP224 kP225 kP226 kP227 kP228 kP229 kP230 kP231 kP232 kP233
                clear eP2
                by_cases hww : w' = w
                · have e4 : weavesS w' m k s w l = (weaveB w'.toNat m k.toNat s.toNat l, 0) := by unfold weavesS; rw [if_neg (by simp [hd]), if_neg (by simp [hc]), if_neg (by simp [hww])]; rfl
                  subst hww
                  have hsp := @Nat.succ_ne_zero; repeat' (first | simp (disch := first | exact dschL17 | fail) only [go_sem, ↓reduceIte, hsp, pap, chn, run21, run22, run40, run50, run30, run29, tup3, tupBI, eq_self, decide_true, if_true, Bool.false_eq_true, hA, kP22, kP23, kP24, kP25, kP29, kP210, kP211, kP212, kP213, kP214, kP215, kP216, kP217, kP218, kP219, kP220, kP221, kP222, kP223, kP224, kP225, kP226, kP227, kP228, kP229, kP230, kP231, kP232, kP233, g4, g5, g9, g10, g11, g12, hc, e1, n1, n2, hd, e2, t1, t2, e3, n3, n4, u1, u2, e4, neB4, clr_eq, stQ_all] | refine WP_drw ?_ | refine cnd_intro (fun hsp => ?_) fun hsp => ?_)
                  all_goals (first | exact fin_pl rfl rfl (by repeat' first | exact xG | exact (xG.set (by omega)) | refine Ext.app ?_) | (exfalso; omega))
                · have e4 : weavesS w' m k s w l = (false, 7) := by unfold weavesS; rw [if_neg (by simp [hd]), if_neg (by simp [hc]), if_pos hww]
                  have hsp := @Nat.succ_ne_zero; repeat' (first | simp (disch := first | exact dschL17 | fail) only [go_sem, ↓reduceIte, hsp, pap, chn, run21, run22, run40, run50, run30, run29, tup3, tupBI, eq_self, decide_true, if_true, Bool.false_eq_true, hA, kP22, kP23, kP24, kP25, kP29, kP210, kP211, kP212, kP213, kP214, kP215, kP216, kP217, kP218, kP219, kP220, kP221, kP222, kP223, kP224, kP225, kP226, kP227, kP228, kP229, kP230, kP231, kP232, kP233, g4, g5, g9, g10, g11, g12, hc, e1, n1, n2, hd, e2, t1, t2, e3, n3, n4, u1, u2, e4, hww, neB4, clr_eq, stQ_all] | refine WP_drw ?_ | refine cnd_intro (fun hsp => ?_) fun hsp => ?_)
                  all_goals (first | exact fin_pl rfl rfl (by repeat' first | exact xG | exact (xG.set (by omega)) | refine Ext.app ?_) | (exfalso; omega))
            · have e3 : weaveS w' m k s n = (0, [], 2) := by unfold weaveS; rw [if_neg (by simp [hd]), if_pos (by omega)]
              have n3 : ∀ {n : Nat}, nlV n [] = .slice none 0 0 := fun {n} => by simp [nlV]
              have n4 : newH [] = [] := rfl
              have u1 : (n ≥ 1) = False := eq_false hn
              have u2 : True := trivial
              have hsp := @Nat.succ_ne_zero; repeat' (first | simp (disch := first | exact dschL17 | fail) only [go_sem, ↓reduceIte, hsp, pap, chn, run21, run22, run40, run50, run30, run29, tup3, tupBI, eq_self, decide_true, if_true, Bool.false_eq_true, hA, kE2, kE3, kE4, kE5, kE9, kE10, kE11, kE12, kE13, kE14, kE15, kE16, kE17, kE18, kE19, kE20, kE21, kE22, kE23, kE24, kE25, g4, g5, g9, g10, g11, g12, hc, e1, n1, n2, hd, e2, t1, t2, e3, n3, n4, u1, u2] | refine WP_drw ?_ | refine cnd_intro (fun hsp => ?_) fun hsp => ?_)
              all_goals (try (exfalso; omega))
              refine WPS_restF fun P4 eP4 => ?_
              rw [WP_region]
              have kP42 := congrFun eP4 2
              have kP43 := congrFun eP4 3
              have kP44 := congrFun eP4 4
              have kP45 := congrFun eP4 5
              have kP49 := congrFun eP4 9
              have kP410 := congrFun eP4 10
              have kP411 := congrFun eP4 11
              have kP412 := congrFun eP4 12
              have kP413 := congrFun eP4 13
              have kP414 := congrFun eP4 14
              have kP415 := congrFun eP4 15
              have kP416 := congrFun eP4 16
              have kP417 := congrFun eP4 17
              have kP418 := congrFun eP4 18
              have kP419 := congrFun eP4 19
              have kP420 := congrFun eP4 20
              have kP421 := congrFun eP4 21
              have kP422 := congrFun eP4 22
              have kP423 := congrFun eP4 23
              have kP424 := congrFun eP4 24
              have kP425 := congrFun eP4 25
              have kP426 := congrFun eP4 26
              have kP427 := congrFun eP4 27
              have kP428 := congrFun eP4 28
              have kP429 := congrFun eP4 29
              have kP430 := congrFun eP4 30
              have kP431 := congrFun eP4 31
              have kP432 := congrFun eP4 32
              have kP433 := congrFun eP4 33
              try simp (disch := first | exact dschL17 | fail) only [go_sem, ↓reduceIte, kE2, kE3, kE4, kE5, kE9, kE10, kE11, kE12, kE13, kE14, kE15, kE16, kE17, kE18, kE19, kE20, kE21, kE22, kE23, kE24, kE25] at kP42 kP43 kP44 kP45 kP49 kP410 kP411 kP412 kP413 kP414 kP415 kP416 kP417 kP418 kP419 kP420 kP421 kP422 kP423 kP424 kP425 kP426 kP427 kP428 kP429 kP430 kP431 kP432 kP433
              clear eP4
              by_cases hww : w' = w
              · have e4 : weavesS w' m k s w l = (weaveB w'.toNat m k.toNat s.toNat l, 0) := by unfold weavesS; rw [if_neg (by simp [hd]), if_neg (by simp [hc]), if_neg (by simp [hww])]; rfl
                subst hww
                have hsp := @Nat.succ_ne_zero; repeat' (first | simp (disch := first | exact dschL17 | fail) only [go_sem, ↓reduceIte, hsp, pap, chn, run21, run22, run40, run50, run30, run29, tup3, tupBI, eq_self, decide_true, if_true, Bool.false_eq_true, hA, kP42, kP43, kP44, kP45, kP49, kP410, kP411, kP412, kP413, kP414, kP415, kP416, kP417, kP418, kP419, kP420, kP421, kP422, kP423, kP424, kP425, kP426, kP427, kP428, kP429, kP430, kP431, kP432, kP433, g4, g5, g9, g10, g11, g12, hc, e1, n1, n2, hd, e2, t1, t2, e3, n3, n4, u1, u2, e4, neB4, clr_eq, stQ_all] | refine WP_drw ?_ | refine cnd_intro (fun hsp => ?_) fun hsp => ?_)
                all_goals (first | exact fin_pl rfl rfl (by repeat' first | exact xG | exact (xG.set (by omega)) | refine Ext.app ?_) | (exfalso; omega))
              · have e4 : weavesS w' m k s w l = (false, 7) := by unfold weavesS; rw [if_neg (by simp [hd]), if_neg (by simp [hc]), if_pos hww]
                have hsp := @Nat.succ_ne_zero; repeat' (first | simp (disch := first | exact dschL17 | fail) only [go_sem, ↓reduceIte, hsp, pap, chn, run21, run22, run40, run50, run30, run29, tup3, tupBI, eq_self, decide_true, if_true, Bool.false_eq_true, hA, kP42, kP43, kP44, kP45, kP49, kP410, kP411, kP412, kP413, kP414, kP415, kP416, kP417, kP418, kP419, kP420, kP421, kP422, kP423, kP424, kP425, kP426, kP427, kP428, kP429, kP430, kP431, kP432, kP433, g4, g5, g9, g10, g11, g12, hc, e1, n1, n2, hd, e2, t1, t2, e3, n3, n4, u1, u2, e4, hww, neB4, clr_eq, stQ_all] | refine WP_drw ?_ | refine cnd_intro (fun hsp => ?_) fun hsp => ?_)
                all_goals (first | exact fin_pl rfl rfl (by repeat' first | exact xG | exact (xG.set (by omega)) | refine Ext.app ?_) | (exfalso; omega))
          · have e2 : cardS w' m k s t = (0, 0, 3) := by unfold cardS; rw [if_neg (by simp [hd]), if_pos (by omega)]
            have t1 : (t ≥ 0) = True := eq_true ht
            have t2 : (t ≤ 1000000) = False := eq_false ht'
            by_cases hn : 1 ≤ n
            · by_cases hn' : n ≤ 48
              · obtain ⟨W, hW⟩ : ∃ W, lst (fun t => ((liftN w'.toNat m k.toNat s.toNat t : Nat) : Int)) n.toNat = W := ⟨_, rfl⟩
                have hWl : W.length = n.toNat := by rw [← hW, lst_len]
                have hWne : W ≠ [] := by rintro rfl; simp at hWl; omega
                have e3 : weaveS w' m k s n = (w', W, 0) := by unfold weaveS; rw [if_neg (by simp [hd]), if_neg (by simp [hn, hn'])]; exact congrArg (fun X => (w', X, (0 : Int))) hW
                have hsm : ∀ i, Small (lst (fun t => ((liftN w'.toNat m k.toNat s.toNat t : Nat) : Int)) (min i 48)) := fun i => ⟨by rw [lst_len]; omega, fun x hx => by
                  obtain ⟨j, _, rfl⟩ := List.mem_map.1 hx
                  have := liftN_small hd j
                  omega⟩
                have hsW : Small W := by have := hsm n.toNat; rwa [Nat.min_eq_left (by omega), hW] at this
                have n3 : ∀ {n : Nat}, nlV n W = .slice (some ⟨n, 0, 0⟩) W.length W.length := fun {n} => nlV_ne hWne
                have n4 : newH W = [rowB W 0] := newH_ne hWne
                have u1 : (n ≥ 1) = True := eq_true hn
                have u2 : (n ≤ 48) = True := eq_true hn'
                have hsp := @Nat.succ_ne_zero; repeat' (first | simp (disch := first | exact dschL17 | fail) only [go_sem, ↓reduceIte, hsp, pap, chn, run21, run22, run40, run50, run30, run29, tup3, tupBI, eq_self, decide_true, if_true, Bool.false_eq_true, hA, kE2, kE3, kE4, kE5, kE9, kE10, kE11, kE12, kE13, kE14, kE15, kE16, kE17, kE18, kE19, kE20, kE21, kE22, kE23, kE24, kE25, g4, g5, g9, g10, g11, g12, hc, e1, n1, n2, hd, e2, t1, t2, e3, n3, n4, u1, u2] | refine WP_drw ?_ | refine cnd_intro (fun hsp => ?_) fun hsp => ?_)
                refine WP_count [(34, 34), (149, 160)] 0 n.toNat (Nat.zero_le _) (fun H i fr h => fr 149 = .int .i64 (i : Int) ∧ h = H.set (G.length + 1 + 1 + 1 + 1 + 1) ⟨.cells [.int .i64 w', grV H.length (lst (fun t => ((liftN w'.toNat m k.toNat s.toNat t : Nat) : Int)) i)] 24 false false, 0⟩ ++ grH (lst (fun t => ((liftN w'.toNat m k.toNat s.toNat t : Nat) : Int)) i)) ?_ ?_ ?_
                · refine ⟨by (simp (disch := first | exact dschL17 | fail) only [go_sem, ↓reduceIte, Int.natCast_zero]; first | done | rfl), ?_⟩
                  simp only [lst_zero, grV_nil, grH_nil, List.append_nil]
                  simp (disch := first | exact dschL17 | fail) only [go_sem, ↓reduceIte]
                · rintro i fr H hi0 hi hA2 ⟨r149, rfl⟩
                  have q12 := hA2 12 rfl
                  have q25 := hA2 25 rfl
                  have q148 := hA2 148 rfl
                  try simp (disch := first | exact dschL17 | fail) only [go_sem, ↓reduceIte, kE12, kE25] at q12 q25 q148
                  have hlt : ((i : Int) < n) = True := eq_true (by omega)
                  have htl : (lst (fun t => ((liftN w'.toNat m k.toNat s.toNat t : Nat) : Int)) i).length < 1073741824 := by rw [lst_len]; omega
                  have hin : 0 ≤ (i : Int) ∧ (i : Int) ≤ 10000000 := by omega
                  have hsp := @Nat.succ_ne_zero; repeat' (first | simp (disch := first | exact dschL17 | fail) only [go_sem, ↓reduceIte, hsp, pap, chn, run21, run22, run40, run50, run30, run29, tup3, tupBI, eq_self, decide_true, if_true, Bool.false_eq_true, hA, hc, e1, n1, n2, hd, e2, t1, t2, e3, n3, n4, u1, u2, r149, q12, q25, q148, g12, hlt] | refine WP_drw ?_ | refine cnd_intro (fun hsp => ?_) fun hsp => ?_)
                  
                  refine ⟨by (repeat first | exact Agree.refl | assumption | refine Agree.put rfl ?_ | refine Agree.put0 ?_ | refine Agree.sub rfl (by assumption) ?_), by (first | rfl | omega | (simp (disch := first | exact dschL17 | fail) only [go_sem, ↓reduceIte, Int.natCast_zero]; first | done | rfl)), ?_⟩
                  rw [lst_succ]
                  try simp (disch := first | exact dschL17 | fail) only [go_sem, ↓reduceIte, hc, e1, n1, n2, hd, e2, t1, t2, e3, n3, n4, u1, u2]
                · rintro fr H hA2 ⟨r149, rfl⟩
                  have qq2 := hA2 2 rfl
                  have qq3 := hA2 3 rfl
                  have qq4 := hA2 4 rfl
                  have qq5 := hA2 5 rfl
                  have qq9 := hA2 9 rfl
                  have qq10 := hA2 10 rfl
                  have qq11 := hA2 11 rfl
                  have qq12 := hA2 12 rfl
                  have qq13 := hA2 13 rfl
                  have qq14 := hA2 14 rfl
                  have qq15 := hA2 15 rfl
                  have qq16 := hA2 16 rfl
                  have qq17 := hA2 17 rfl
                  have qq18 := hA2 18 rfl
                  have qq19 := hA2 19 rfl
                  have qq20 := hA2 20 rfl
                  have qq21 := hA2 21 rfl
                  have qq22 := hA2 22 rfl
                  have qq23 := hA2 23 rfl
                  have qq24 := hA2 24 rfl
                  have qq25 := hA2 25 rfl
                  have qq26 := hA2 26 rfl
                  have qq27 := hA2 27 rfl
                  have qq28 := hA2 28 rfl
                  have qq29 := hA2 29 rfl
                  have qq30 := hA2 30 rfl
                  have qq31 := hA2 31 rfl
                  have qq32 := hA2 32 rfl
                  have qq33 := hA2 33 rfl
                  have qq148 := hA2 148 rfl
                  try simp (disch := first | exact dschL17 | fail) only [go_sem, ↓reduceIte, kE2, kE3, kE4, kE5, kE9, kE10, kE11, kE12, kE13, kE14, kE15, kE16, kE17, kE18, kE19, kE20, kE21, kE22, kE23, kE24, kE25] at qq2 qq3 qq4 qq5 qq9 qq10 qq11 qq12 qq13 qq14 qq15 qq16 qq17 qq18 qq19 qq20 qq21 qq22 qq23 qq24 qq25 qq26 qq27 qq28 qq29 qq30 qq31 qq32 qq33 qq148
                  have hlt : (((n.toNat : Nat) : Int) < n) = False := eq_false (by omega)
                  have hsp := @Nat.succ_ne_zero; repeat' (first | simp (disch := first | exact dschL17 | fail) only [go_sem, ↓reduceIte, hsp, pap, chn, run21, run22, run40, run50, run30, run29, tup3, tupBI, eq_self, decide_true, if_true, Bool.false_eq_true, hA, hc, e1, n1, n2, hd, e2, t1, t2, e3, n3, n4, u1, u2, qq2, qq3, qq4, qq5, qq9, qq10, qq11, qq12, qq13, qq14, qq15, qq16, qq17, qq18, qq19, qq20, qq21, qq22, qq23, qq24, qq25, qq26, qq27, qq28, qq29, qq30, qq31, qq32, qq33, qq148, hlt, r149, hW] | refine WP_drw ?_ | refine cnd_intro (fun hsp => ?_) fun hsp => ?_)
                  all_goals (try (exfalso; omega))
                  refine WPS_restF fun P6 eP6 => ?_
                  rw [WP_region]
                  have kP62 := congrFun eP6 2
                  have kP63 := congrFun eP6 3
                  have kP64 := congrFun eP6 4
                  have kP65 := congrFun eP6 5
                  have kP69 := congrFun eP6 9
                  have kP610 := congrFun eP6 10
                  have kP611 := congrFun eP6 11
                  have kP612 := congrFun eP6 12
                  have kP613 := congrFun eP6 13
                  have kP614 := congrFun eP6 14
                  have kP615 := congrFun eP6 15
                  have kP616 := congrFun eP6 16
                  have kP617 := congrFun eP6 17
                  have kP618 := congrFun eP6 18
                  have kP619 := congrFun eP6 19
                  have kP620 := congrFun eP6 20
                  have kP621 := congrFun eP6 21
                  have kP622 := congrFun eP6 22
                  have kP623 := congrFun eP6 23
                  have kP624 := congrFun eP6 24
                  have kP625 := congrFun eP6 25
                  have kP626 := congrFun eP6 26
                  have kP627 := congrFun eP6 27
                  have kP628 := congrFun eP6 28
                  have kP629 := congrFun eP6 29
                  have kP630 := congrFun eP6 30
                  have kP631 := congrFun eP6 31
                  have kP632 := congrFun eP6 32
                  have kP633 := congrFun eP6 33
                  try simp (disch := first | exact dschL17 | fail) only [go_sem, ↓reduceIte, qq2, qq3, qq4, qq5, qq9, qq10, qq11, qq12, qq13, qq14, qq15, qq16, qq17, qq18, qq19, qq20, qq21, qq22, qq23, qq24, qq25, qq26, qq27, qq28, qq29, qq30, qq31, qq32, qq33] at kP62 kP63 kP64 kP65 kP69 kP610 kP611 kP612 kP613 kP614 kP615 kP616 kP617 kP618 kP619 kP620 kP621 kP622 kP623 kP624 kP625 kP626 kP627 kP628 kP629 kP630 kP631 kP632 kP633
                  clear eP6
                  by_cases hww : w' = w
                  · have e4 : weavesS w' m k s w l = (weaveB w'.toNat m k.toNat s.toNat l, 0) := by unfold weavesS; rw [if_neg (by simp [hd]), if_neg (by simp [hc]), if_neg (by simp [hww])]; rfl
                    subst hww
                    have hsp := @Nat.succ_ne_zero; repeat' (first | simp (disch := first | exact dschL17 | fail) only [go_sem, ↓reduceIte, hsp, pap, chn, run21, run22, run40, run50, run30, run29, tup3, tupBI, eq_self, decide_true, if_true, Bool.false_eq_true, hA, kP62, kP63, kP64, kP65, kP69, kP610, kP611, kP612, kP613, kP614, kP615, kP616, kP617, kP618, kP619, kP620, kP621, kP622, kP623, kP624, kP625, kP626, kP627, kP628, kP629, kP630, kP631, kP632, kP633, g4, g5, g9, g10, g11, g12, hc, e1, n1, n2, hd, e2, t1, t2, e3, n3, n4, u1, u2, e4, neB4, clr_eq, stQ_all] | refine WP_drw ?_ | refine cnd_intro (fun hsp => ?_) fun hsp => ?_)
                    all_goals (first | exact fin_pl rfl rfl (by repeat' first | exact xG | exact (xG.set (by omega)) | refine Ext.app ?_) | (exfalso; omega))
                  · have e4 : weavesS w' m k s w l = (false, 7) := by unfold weavesS; rw [if_neg (by simp [hd]), if_neg (by simp [hc]), if_pos hww]
                    have hsp := @Nat.succ_ne_zero; repeat' (first | simp (disch := first | exact dschL17 | fail) only [go_sem, ↓reduceIte, hsp, pap, chn, run21, run22, run40, run50, run30, run29, tup3, tupBI, eq_self, decide_true, if_true, Bool.false_eq_true, hA, kP62, kP63, kP64, kP65, kP69, kP610, kP611, kP612, kP613, kP614, kP615, kP616, kP617, kP618, kP619, kP620, kP621, kP622, kP623, kP624, kP625, kP626, kP627, kP628, kP629, kP630, kP631, kP632, kP633, g4, g5, g9, g10, g11, g12, hc, e1, n1, n2, hd, e2, t1, t2, e3, n3, n4, u1, u2, e4, hww, neB4, clr_eq, stQ_all] | refine WP_drw ?_ | refine cnd_intro (fun hsp => ?_) fun hsp => ?_)
                    all_goals (first | exact fin_pl rfl rfl (by repeat' first | exact xG | exact (xG.set (by omega)) | refine Ext.app ?_) | (exfalso; omega))
              · have e3 : weaveS w' m k s n = (0, [], 2) := by unfold weaveS; rw [if_neg (by simp [hd]), if_pos (by omega)]
                have n3 : ∀ {n : Nat}, nlV n [] = .slice none 0 0 := fun {n} => by simp [nlV]
                have n4 : newH [] = [] := rfl
                have u1 : (n ≥ 1) = True := eq_true hn
                have u2 : (n ≤ 48) = False := eq_false hn'
                have hsp := @Nat.succ_ne_zero; repeat' (first | simp (disch := first | exact dschL17 | fail) only [go_sem, ↓reduceIte, hsp, pap, chn, run21, run22, run40, run50, run30, run29, tup3, tupBI, eq_self, decide_true, if_true, Bool.false_eq_true, hA, kE2, kE3, kE4, kE5, kE9, kE10, kE11, kE12, kE13, kE14, kE15, kE16, kE17, kE18, kE19, kE20, kE21, kE22, kE23, kE24, kE25, g4, g5, g9, g10, g11, g12, hc, e1, n1, n2, hd, e2, t1, t2, e3, n3, n4, u1, u2] | refine WP_drw ?_ | refine cnd_intro (fun hsp => ?_) fun hsp => ?_)
                all_goals (try (exfalso; omega))
                refine WPS_restF fun P8 eP8 => ?_
                rw [WP_region]
                have kP82 := congrFun eP8 2
                have kP83 := congrFun eP8 3
                have kP84 := congrFun eP8 4
                have kP85 := congrFun eP8 5
                have kP89 := congrFun eP8 9
                have kP810 := congrFun eP8 10
                have kP811 := congrFun eP8 11
                have kP812 := congrFun eP8 12
                have kP813 := congrFun eP8 13
                have kP814 := congrFun eP8 14
                have kP815 := congrFun eP8 15
                have kP816 := congrFun eP8 16
                have kP817 := congrFun eP8 17
                have kP818 := congrFun eP8 18
                have kP819 := congrFun eP8 19
                have kP820 := congrFun eP8 20
                have kP821 := congrFun eP8 21
                have kP822 := congrFun eP8 22
                have kP823 := congrFun eP8 23
                have kP824 := congrFun eP8 24
                have kP825 := congrFun eP8 25
                have kP826 := congrFun eP8 26
                have kP827 := congrFun eP8 27
                have kP828 := congrFun eP8 28
                have kP829 := congrFun eP8 29
                have kP830 := congrFun eP8 30
                have kP831 := congrFun eP8 31
                have kP832 := congrFun eP8 32
                have kP833 := congrFun eP8 33
                try simp (disch := first | exact dschL17 | fail) only [go_sem, ↓reduceIte, kE2, kE3, kE4, kE5, kE9, kE10, kE11, kE12, kE13, kE14, kE15, kE16, kE17, kE18, kE19, kE20, kE21, kE22, kE23, kE24, kE25] at kP82 kP83 kP84 kP85 kP89 kP810 kP811 kP812 kP813 kP814 kP815 kP816 kP817 kP818 kP819 kP820 kP821 kP822 kP823 kP824 kP825 kP826 kP827 kP828 kP829 kP830 kP831 kP832 kP833
                clear eP8
                by_cases hww : w' = w
                · have e4 : weavesS w' m k s w l = (weaveB w'.toNat m k.toNat s.toNat l, 0) := by unfold weavesS; rw [if_neg (by simp [hd]), if_neg (by simp [hc]), if_neg (by simp [hww])]; rfl
                  subst hww
                  have hsp := @Nat.succ_ne_zero; repeat' (first | simp (disch := first | exact dschL17 | fail) only [go_sem, ↓reduceIte, hsp, pap, chn, run21, run22, run40, run50, run30, run29, tup3, tupBI, eq_self, decide_true, if_true, Bool.false_eq_true, hA, kP82, kP83, kP84, kP85, kP89, kP810, kP811, kP812, kP813, kP814, kP815, kP816, kP817, kP818, kP819, kP820, kP821, kP822, kP823, kP824, kP825, kP826, kP827, kP828, kP829, kP830, kP831, kP832, kP833, g4, g5, g9, g10, g11, g12, hc, e1, n1, n2, hd, e2, t1, t2, e3, n3, n4, u1, u2, e4, neB4, clr_eq, stQ_all] | refine WP_drw ?_ | refine cnd_intro (fun hsp => ?_) fun hsp => ?_)
                  all_goals (first | exact fin_pl rfl rfl (by repeat' first | exact xG | exact (xG.set (by omega)) | refine Ext.app ?_) | (exfalso; omega))
                · have e4 : weavesS w' m k s w l = (false, 7) := by unfold weavesS; rw [if_neg (by simp [hd]), if_neg (by simp [hc]), if_pos hww]
                  have hsp := @Nat.succ_ne_zero; repeat' (first | simp (disch := first | exact dschL17 | fail) only [go_sem, ↓reduceIte, hsp, pap, chn, run21, run22, run40, run50, run30, run29, tup3, tupBI, eq_self, decide_true, if_true, Bool.false_eq_true, hA, kP82, kP83, kP84, kP85, kP89, kP810, kP811, kP812, kP813, kP814, kP815, kP816, kP817, kP818, kP819, kP820, kP821, kP822, kP823, kP824, kP825, kP826, kP827, kP828, kP829, kP830, kP831, kP832, kP833, g4, g5, g9, g10, g11, g12, hc, e1, n1, n2, hd, e2, t1, t2, e3, n3, n4, u1, u2, e4, hww, neB4, clr_eq, stQ_all] | refine WP_drw ?_ | refine cnd_intro (fun hsp => ?_) fun hsp => ?_)
                  all_goals (first | exact fin_pl rfl rfl (by repeat' first | exact xG | exact (xG.set (by omega)) | refine Ext.app ?_) | (exfalso; omega))
            · have e3 : weaveS w' m k s n = (0, [], 2) := by unfold weaveS; rw [if_neg (by simp [hd]), if_pos (by omega)]
              have n3 : ∀ {n : Nat}, nlV n [] = .slice none 0 0 := fun {n} => by simp [nlV]
              have n4 : newH [] = [] := rfl
              have u1 : (n ≥ 1) = False := eq_false hn
              have u2 : True := trivial
              have hsp := @Nat.succ_ne_zero; repeat' (first | simp (disch := first | exact dschL17 | fail) only [go_sem, ↓reduceIte, hsp, pap, chn, run21, run22, run40, run50, run30, run29, tup3, tupBI, eq_self, decide_true, if_true, Bool.false_eq_true, hA, kE2, kE3, kE4, kE5, kE9, kE10, kE11, kE12, kE13, kE14, kE15, kE16, kE17, kE18, kE19, kE20, kE21, kE22, kE23, kE24, kE25, g4, g5, g9, g10, g11, g12, hc, e1, n1, n2, hd, e2, t1, t2, e3, n3, n4, u1, u2] | refine WP_drw ?_ | refine cnd_intro (fun hsp => ?_) fun hsp => ?_)
              all_goals (try (exfalso; omega))
              refine WPS_restF fun P10 eP10 => ?_
              rw [WP_region]
              have kP102 := congrFun eP10 2
              have kP103 := congrFun eP10 3
              have kP104 := congrFun eP10 4
              have kP105 := congrFun eP10 5
              have kP109 := congrFun eP10 9
              have kP1010 := congrFun eP10 10
              have kP1011 := congrFun eP10 11
              have kP1012 := congrFun eP10 12
              have kP1013 := congrFun eP10 13
              have kP1014 := congrFun eP10 14
              have kP1015 := congrFun eP10 15
              have kP1016 := congrFun eP10 16
              have kP1017 := congrFun eP10 17
              have kP1018 := congrFun eP10 18
              have kP1019 := congrFun eP10 19
              have kP1020 := congrFun eP10 20
              have kP1021 := congrFun eP10 21
              have kP1022 := congrFun eP10 22
              have kP1023 := congrFun eP10 23
              have kP1024 := congrFun eP10 24
              have kP1025 := congrFun eP10 25
              have kP1026 := congrFun eP10 26
              have kP1027 := congrFun eP10 27
              have kP1028 := congrFun eP10 28
              have kP1029 := congrFun eP10 29
              have kP1030 := congrFun eP10 30
              have kP1031 := congrFun eP10 31
              have kP1032 := congrFun eP10 32
              have kP1033 := congrFun eP10 33
              try simp (disch := first | exact dschL17 | fail) only [go_sem, ↓reduceIte, kE2, kE3, kE4, kE5, kE9, kE10, kE11, kE12, kE13, kE14, kE15, kE16, kE17, kE18, kE19, kE20, kE21, kE22, kE23, kE24, kE25] at kP102 kP103 kP104 kP105 kP109 kP1010 kP1011 kP1012 kP1013 kP1014 kP1015 kP1016 kP1017 kP1018 kP1019 kP1020 kP1021 kP1022 kP1023 kP1024 kP1025 kP1026 kP1027 kP1028 kP1029 kP1030 kP1031 kP1032 kP1033
              clear eP10
              by_cases hww : w' = w
              · have e4 : weavesS w' m k s w l = (weaveB w'.toNat m k.toNat s.toNat l, 0) := by unfold weavesS; rw [if_neg (by simp [hd]), if_neg (by simp [hc]), if_neg (by simp [hww])]; rfl
                subst hww
                have hsp := @Nat.succ_ne_zero; repeat' (first | simp (disch := first | exact dschL17 | fail) only [go_sem, ↓reduceIte, hsp, pap, chn, run21, run22, run40, run50, run30, run29, tup3, tupBI, eq_self, decide_true, if_true, Bool.false_eq_true, hA, kP102, kP103, kP104, kP105, kP109, kP1010, kP1011, kP1012, kP1013, kP1014, kP1015, kP1016, kP1017, kP1018, kP1019, kP1020, kP1021, kP1022, kP1023, kP1024, kP1025, kP1026, kP1027, kP1028, kP1029, kP1030, kP1031, kP1032, kP1033, g4, g5, g9, g10, g11, g12, hc, e1, n1, n2, hd, e2, t1, t2, e3, n3, n4, u1, u2, e4, neB4, clr_eq, stQ_all] | refine WP_drw ?_ | refine cnd_intro (fun hsp => ?_) fun hsp => ?_)
                all_goals (first | exact fin_pl rfl rfl (by repeat' first | exact xG | exact (xG.set (by omega)) | refine Ext.app ?_) | (exfalso; omega))
              · have e4 : weavesS w' m k s w l = (false, 7) := by unfold weavesS; rw [if_neg (by simp [hd]), if_neg (by simp [hc]), if_pos hww]
                have hsp := @Nat.succ_ne_zero; repeat' (first | simp (disch := first | exact dschL17 | fail) only [go_sem, ↓reduceIte, hsp, pap, chn, run21, run22, run40, run50, run30, run29, tup3, tupBI, eq_self, decide_true, if_true, Bool.false_eq_true, hA, kP102, kP103, kP104, kP105, kP109, kP1010, kP1011, kP1012, kP1013, kP1014, kP1015, kP1016, kP1017, kP1018, kP1019, kP1020, kP1021, kP1022, kP1023, kP1024, kP1025, kP1026, kP1027, kP1028, kP1029, kP1030, kP1031, kP1032, kP1033, g4, g5, g9, g10, g11, g12, hc, e1, n1, n2, hd, e2, t1, t2, e3, n3, n4, u1, u2, e4, hww, neB4, clr_eq, stQ_all] | refine WP_drw ?_ | refine cnd_intro (fun hsp => ?_) fun hsp => ?_)
                all_goals (first | exact fin_pl rfl rfl (by repeat' first | exact xG | exact (xG.set (by omega)) | refine Ext.app ?_) | (exfalso; omega))
        · have e2 : cardS w' m k s t = (0, 0, 3) := by unfold cardS; rw [if_neg (by simp [hd]), if_pos (by omega)]
          have t1 : (t ≥ 0) = False := eq_false ht
          have t2 : True := trivial
          by_cases hn : 1 ≤ n
          · by_cases hn' : n ≤ 48
            · obtain ⟨W, hW⟩ : ∃ W, lst (fun t => ((liftN w'.toNat m k.toNat s.toNat t : Nat) : Int)) n.toNat = W := ⟨_, rfl⟩
              have hWl : W.length = n.toNat := by rw [← hW, lst_len]
              have hWne : W ≠ [] := by rintro rfl; simp at hWl; omega
              have e3 : weaveS w' m k s n = (w', W, 0) := by unfold weaveS; rw [if_neg (by simp [hd]), if_neg (by simp [hn, hn'])]; exact congrArg (fun X => (w', X, (0 : Int))) hW
              have hsm : ∀ i, Small (lst (fun t => ((liftN w'.toNat m k.toNat s.toNat t : Nat) : Int)) (min i 48)) := fun i => ⟨by rw [lst_len]; omega, fun x hx => by
                obtain ⟨j, _, rfl⟩ := List.mem_map.1 hx
                have := liftN_small hd j
                omega⟩
              have hsW : Small W := by have := hsm n.toNat; rwa [Nat.min_eq_left (by omega), hW] at this
              have n3 : ∀ {n : Nat}, nlV n W = .slice (some ⟨n, 0, 0⟩) W.length W.length := fun {n} => nlV_ne hWne
              have n4 : newH W = [rowB W 0] := newH_ne hWne
              have u1 : (n ≥ 1) = True := eq_true hn
              have u2 : (n ≤ 48) = True := eq_true hn'
              have hsp := @Nat.succ_ne_zero; repeat' (first | simp (disch := first | exact dschL17 | fail) only [go_sem, ↓reduceIte, hsp, pap, chn, run21, run22, run40, run50, run30, run29, tup3, tupBI, eq_self, decide_true, if_true, Bool.false_eq_true, hA, kE2, kE3, kE4, kE5, kE9, kE10, kE11, kE12, kE13, kE14, kE15, kE16, kE17, kE18, kE19, kE20, kE21, kE22, kE23, kE24, kE25, g4, g5, g9, g10, g11, g12, hc, e1, n1, n2, hd, e2, t1, t2, e3, n3, n4, u1, u2] | refine WP_drw ?_ | refine cnd_intro (fun hsp => ?_) fun hsp => ?_)
              refine WP_count [(34, 34), (149, 160)] 0 n.toNat (Nat.zero_le _) (fun H i fr h => fr 149 = .int .i64 (i : Int) ∧ h = H.set (G.length + 1 + 1 + 1 + 1 + 1) ⟨.cells [.int .i64 w', grV H.length (lst (fun t => ((liftN w'.toNat m k.toNat s.toNat t : Nat) : Int)) i)] 24 false false, 0⟩ ++ grH (lst (fun t => ((liftN w'.toNat m k.toNat s.toNat t : Nat) : Int)) i)) ?_ ?_ ?_
              · refine ⟨by (simp (disch := first | exact dschL17 | fail) only [go_sem, ↓reduceIte, Int.natCast_zero]; first | done | rfl), ?_⟩
                simp only [lst_zero, grV_nil, grH_nil, List.append_nil]
                simp (disch := first | exact dschL17 | fail) only [go_sem, ↓reduceIte]
              · rintro i fr H hi0 hi hA2 ⟨r149, rfl⟩
                have q12 := hA2 12 rfl
                have q25 := hA2 25 rfl
                have q148 := hA2 148 rfl
                try simp (disch := first | exact dschL17 | fail) only [go_sem, ↓reduceIte, kE12, kE25] at q12 q25 q148
                have hlt : ((i : Int) < n) = True := eq_true (by omega)
                have htl : (lst (fun t => ((liftN w'.toNat m k.toNat s.toNat t : Nat) : Int)) i).length < 1073741824 := by rw [lst_len]; omega
                have hin : 0 ≤ (i : Int) ∧ (i : Int) ≤ 10000000 := by omega
                have hsp := @Nat.succ_ne_zero; repeat' (first | simp (disch := first | exact dschL17 | fail) only [go_sem, ↓reduceIte, hsp, pap, chn, run21, run22, run40, run50, run30, run29, tup3, tupBI, eq_self, decide_true, if_true, Bool.false_eq_true, hA, hc, e1, n1, n2, hd, e2, t1, t2, e3, n3, n4, u1, u2, r149, q12, q25, q148, g12, hlt] | refine WP_drw ?_ | refine cnd_intro (fun hsp => ?_) fun hsp => ?_)
                
                refine ⟨by (repeat first | exact Agree.refl | assumption | refine Agree.put rfl ?_ | refine Agree.put0 ?_ | refine Agree.sub rfl (by assumption) ?_), by (first | rfl | omega | (simp (disch := first | exact dschL17 | fail) only [go_sem, ↓reduceIte, Int.natCast_zero]; first | done | rfl)), ?_⟩
                rw [lst_succ]
                try simp (disch := first | exact dschL17 | fail) only [go_sem, ↓reduceIte, hc, e1, n1, n2, hd, e2, t1, t2, e3, n3, n4, u1, u2]
              · rintro fr H hA2 ⟨r149, rfl⟩
                have qq2 := hA2 2 rfl
                have qq3 := hA2 3 rfl
                have qq4 := hA2 4 rfl
                have qq5 := hA2 5 rfl
                have qq9 := hA2 9 rfl
                have qq10 := hA2 10 rfl
                have qq11 := hA2 11 rfl
                have qq12 := hA2 12 rfl
                have qq13 := hA2 13 rfl
                have qq14 := hA2 14 rfl
                have qq15 := hA2 15 rfl
                have qq16 := hA2 16 rfl
                have qq17 := hA2 17 rfl
                have qq18 := hA2 18 rfl
                have qq19 := hA2 19 rfl
                have qq20 := hA2 20 rfl
                have qq21 := hA2 21 rfl
                have qq22 := hA2 22 rfl
                have qq23 := hA2 23 rfl
                have qq24 := hA2 24 rfl
                have qq25 := hA2 25 rfl
                have qq26 := hA2 26 rfl
                have qq27 := hA2 27 rfl
                have qq28 := hA2 28 rfl
                have qq29 := hA2 29 rfl
                have qq30 := hA2 30 rfl
                have qq31 := hA2 31 rfl
                have qq32 := hA2 32 rfl
                have qq33 := hA2 33 rfl
                have qq148 := hA2 148 rfl
                try simp (disch := first | exact dschL17 | fail) only [go_sem, ↓reduceIte, kE2, kE3, kE4, kE5, kE9, kE10, kE11, kE12, kE13, kE14, kE15, kE16, kE17, kE18, kE19, kE20, kE21, kE22, kE23, kE24, kE25] at qq2 qq3 qq4 qq5 qq9 qq10 qq11 qq12 qq13 qq14 qq15 qq16 qq17 qq18 qq19 qq20 qq21 qq22 qq23 qq24 qq25 qq26 qq27 qq28 qq29 qq30 qq31 qq32 qq33 qq148
                have hlt : (((n.toNat : Nat) : Int) < n) = False := eq_false (by omega)
                have hsp := @Nat.succ_ne_zero; repeat' (first | simp (disch := first | exact dschL17 | fail) only [go_sem, ↓reduceIte, hsp, pap, chn, run21, run22, run40, run50, run30, run29, tup3, tupBI, eq_self, decide_true, if_true, Bool.false_eq_true, hA, hc, e1, n1, n2, hd, e2, t1, t2, e3, n3, n4, u1, u2, qq2, qq3, qq4, qq5, qq9, qq10, qq11, qq12, qq13, qq14, qq15, qq16, qq17, qq18, qq19, qq20, qq21, qq22, qq23, qq24, qq25, qq26, qq27, qq28, qq29, qq30, qq31, qq32, qq33, qq148, hlt, r149, hW] | refine WP_drw ?_ | refine cnd_intro (fun hsp => ?_) fun hsp => ?_)
                all_goals (try (exfalso; omega))
                refine WPS_restF fun P12 eP12 => ?_
                rw [WP_region]
                have kP122 := congrFun eP12 2
                have kP123 := congrFun eP12 3
                have kP124 := congrFun eP12 4
                have kP125 := congrFun eP12 5
                have kP129 := congrFun eP12 9
                have kP1210 := congrFun eP12 10
                have kP1211 := congrFun eP12 11
                have kP1212 := congrFun eP12 12
                have kP1213 := congrFun eP12 13
                have kP1214 := congrFun eP12 14
                have kP1215 := congrFun eP12 15
                have kP1216 := congrFun eP12 16
                have kP1217 := congrFun eP12 17
                have kP1218 := congrFun eP12 18
                have kP1219 := congrFun eP12 19
                have kP1220 := congrFun eP12 20
                have kP1221 := congrFun eP12 21
                have kP1222 := congrFun eP12 22
                have kP1223 := congrFun eP12 23
                have kP1224 := congrFun eP12 24
                have kP1225 := congrFun eP12 25
                have kP1226 := congrFun eP12 26
                have kP1227 := congrFun eP12 27
                have kP1228 := congrFun eP12 28
                have kP1229 := congrFun eP12 29
                have kP1230 := congrFun eP12 30
                have kP1231 := congrFun eP12 31
                have kP1232 := congrFun eP12 32
                have kP1233 := congrFun eP12 33
                try simp (disch := first | exact dschL17 | fail) only [go_sem, ↓reduceIte, qq2, qq3, qq4, qq5, qq9, qq10, qq11, qq12, qq13, qq14, qq15, qq16, qq17, qq18, qq19, qq20, qq21, qq22, qq23, qq24, qq25, qq26, qq27, qq28, qq29, qq30, qq31, qq32, qq33] at kP122 kP123 kP124 kP125 kP129 kP1210 kP1211 kP1212 kP1213 kP1214 kP1215 kP1216 kP1217 kP1218 kP1219 kP1220 kP1221 kP1222 kP1223 kP1224 kP1225 kP1226 kP1227 kP1228 kP1229 kP1230 kP1231 kP1232 kP1233
                clear eP12
                by_cases hww : w' = w
                · have e4 : weavesS w' m k s w l = (weaveB w'.toNat m k.toNat s.toNat l, 0) := by unfold weavesS; rw [if_neg (by simp [hd]), if_neg (by simp [hc]), if_neg (by simp [hww])]; rfl
                  subst hww
                  have hsp := @Nat.succ_ne_zero; repeat' (first | simp (disch := first | exact dschL17 | fail) only [go_sem, ↓reduceIte, hsp, pap, chn, run21, run22, run40, run50, run30, run29, tup3, tupBI, eq_self, decide_true, if_true, Bool.false_eq_true, hA, kP122, kP123, kP124, kP125, kP129, kP1210, kP1211, kP1212, kP1213, kP1214, kP1215, kP1216, kP1217, kP1218, kP1219, kP1220, kP1221, kP1222, kP1223, kP1224, kP1225, kP1226, kP1227, kP1228, kP1229, kP1230, kP1231, kP1232, kP1233, g4, g5, g9, g10, g11, g12, hc, e1, n1, n2, hd, e2, t1, t2, e3, n3, n4, u1, u2, e4, neB4, clr_eq, stQ_all] | refine WP_drw ?_ | refine cnd_intro (fun hsp => ?_) fun hsp => ?_)
                  all_goals (first | exact fin_pl rfl rfl (by repeat' first | exact xG | exact (xG.set (by omega)) | refine Ext.app ?_) | (exfalso; omega))
                · have e4 : weavesS w' m k s w l = (false, 7) := by unfold weavesS; rw [if_neg (by simp [hd]), if_neg (by simp [hc]), if_pos hww]
                  have hsp := @Nat.succ_ne_zero; repeat' (first | simp (disch := first | exact dschL17 | fail) only [go_sem, ↓reduceIte, hsp, pap, chn, run21, run22, run40, run50, run30, run29, tup3, tupBI, eq_self, decide_true, if_true, Bool.false_eq_true, hA, kP122, kP123, kP124, kP125, kP129, kP1210, kP1211, kP1212, kP1213, kP1214, kP1215, kP1216, kP1217, kP1218, kP1219, kP1220, kP1221, kP1222, kP1223, kP1224, kP1225, kP1226, kP1227, kP1228, kP1229, kP1230, kP1231, kP1232, kP1233, g4, g5, g9, g10, g11, g12, hc, e1, n1, n2, hd, e2, t1, t2, e3, n3, n4, u1, u2, e4, hww, neB4, clr_eq, stQ_all] | refine WP_drw ?_ | refine cnd_intro (fun hsp => ?_) fun hsp => ?_)
                  all_goals (first | exact fin_pl rfl rfl (by repeat' first | exact xG | exact (xG.set (by omega)) | refine Ext.app ?_) | (exfalso; omega))
            · have e3 : weaveS w' m k s n = (0, [], 2) := by unfold weaveS; rw [if_neg (by simp [hd]), if_pos (by omega)]
              have n3 : ∀ {n : Nat}, nlV n [] = .slice none 0 0 := fun {n} => by simp [nlV]
              have n4 : newH [] = [] := rfl
              have u1 : (n ≥ 1) = True := eq_true hn
              have u2 : (n ≤ 48) = False := eq_false hn'
              have hsp := @Nat.succ_ne_zero; repeat' (first | simp (disch := first | exact dschL17 | fail) only [go_sem, ↓reduceIte, hsp, pap, chn, run21, run22, run40, run50, run30, run29, tup3, tupBI, eq_self, decide_true, if_true, Bool.false_eq_true, hA, kE2, kE3, kE4, kE5, kE9, kE10, kE11, kE12, kE13, kE14, kE15, kE16, kE17, kE18, kE19, kE20, kE21, kE22, kE23, kE24, kE25, g4, g5, g9, g10, g11, g12, hc, e1, n1, n2, hd, e2, t1, t2, e3, n3, n4, u1, u2] | refine WP_drw ?_ | refine cnd_intro (fun hsp => ?_) fun hsp => ?_)
              all_goals (try (exfalso; omega))
              refine WPS_restF fun P14 eP14 => ?_
              rw [WP_region]
              have kP142 := congrFun eP14 2
              have kP143 := congrFun eP14 3
              have kP144 := congrFun eP14 4
              have kP145 := congrFun eP14 5
              have kP149 := congrFun eP14 9
              have kP1410 := congrFun eP14 10
              have kP1411 := congrFun eP14 11
              have kP1412 := congrFun eP14 12
              have kP1413 := congrFun eP14 13
              have kP1414 := congrFun eP14 14
              have kP1415 := congrFun eP14 15
              have kP1416 := congrFun eP14 16
              have kP1417 := congrFun eP14 17
              have kP1418 := congrFun eP14 18
              have kP1419 := congrFun eP14 19
              have kP1420 := congrFun eP14 20
              have kP1421 := congrFun eP14 21
              have kP1422 := congrFun eP14 22
              have kP1423 := congrFun eP14 23
              have kP1424 := congrFun eP14 24
              have kP1425 := congrFun eP14 25
              have kP1426 := congrFun eP14 26
              have kP1427 := congrFun eP14 27
              have kP1428 := congrFun eP14 28
              have kP1429 := congrFun eP14 29
              have kP1430 := congrFun eP14 30
              have kP1431 := congrFun eP14 31
              have kP1432 := congrFun eP14 32
              have kP1433 := congrFun eP14 33
              try simp (disch := first | exact dschL17 | fail) only [go_sem, ↓reduceIte, kE2, kE3, kE4, kE5, kE9, kE10, kE11, kE12, kE13, kE14, kE15, kE16, kE17, kE18, kE19, kE20, kE21, kE22, kE23, kE24, kE25] at kP142 kP143 kP144 kP145 kP149 kP1410 kP1411 kP1412 kP1413 kP1414 kP1415 kP1416 kP1417 kP1418 kP1419 kP1420 kP1421 kP1422 kP1423 kP1424 kP1425 kP1426 kP1427 kP1428 kP1429 kP1430 kP1431 kP1432 kP1433
              clear eP14
              by_cases hww : w' = w
              · have e4 : weavesS w' m k s w l = (weaveB w'.toNat m k.toNat s.toNat l, 0) := by unfold weavesS; rw [if_neg (by simp [hd]), if_neg (by simp [hc]), if_neg (by simp [hww])]; rfl
                subst hww
                have hsp := @Nat.succ_ne_zero; repeat' (first | simp (disch := first | exact dschL17 | fail) only [go_sem, ↓reduceIte, hsp, pap, chn, run21, run22, run40, run50, run30, run29, tup3, tupBI, eq_self, decide_true, if_true, Bool.false_eq_true, hA, kP142, kP143, kP144, kP145, kP149, kP1410, kP1411, kP1412, kP1413, kP1414, kP1415, kP1416, kP1417, kP1418, kP1419, kP1420, kP1421, kP1422, kP1423, kP1424, kP1425, kP1426, kP1427, kP1428, kP1429, kP1430, kP1431, kP1432, kP1433, g4, g5, g9, g10, g11, g12, hc, e1, n1, n2, hd, e2, t1, t2, e3, n3, n4, u1, u2, e4, neB4, clr_eq, stQ_all] | refine WP_drw ?_ | refine cnd_intro (fun hsp => ?_) fun hsp => ?_)
                all_goals (first | exact fin_pl rfl rfl (by repeat' first | exact xG | exact (xG.set (by omega)) | refine Ext.app ?_) | (exfalso; omega))
              · have e4 : weavesS w' m k s w l = (false, 7) := by unfold weavesS; rw [if_neg (by simp [hd]), if_neg (by simp [hc]), if_pos hww]
                have hsp := @Nat.succ_ne_zero; repeat' (first | simp (disch := first | exact dschL17 | fail) only [go_sem, ↓reduceIte, hsp, pap, chn, run21, run22, run40, run50, run30, run29, tup3, tupBI, eq_self, decide_true, if_true, Bool.false_eq_true, hA, kP142, kP143, kP144, kP145, kP149, kP1410, kP1411, kP1412, kP1413, kP1414, kP1415, kP1416, kP1417, kP1418, kP1419, kP1420, kP1421, kP1422, kP1423, kP1424, kP1425, kP1426, kP1427, kP1428, kP1429, kP1430, kP1431, kP1432, kP1433, g4, g5, g9, g10, g11, g12, hc, e1, n1, n2, hd, e2, t1, t2, e3, n3, n4, u1, u2, e4, hww, neB4, clr_eq, stQ_all] | refine WP_drw ?_ | refine cnd_intro (fun hsp => ?_) fun hsp => ?_)
                all_goals (first | exact fin_pl rfl rfl (by repeat' first | exact xG | exact (xG.set (by omega)) | refine Ext.app ?_) | (exfalso; omega))
          · have e3 : weaveS w' m k s n = (0, [], 2) := by unfold weaveS; rw [if_neg (by simp [hd]), if_pos (by omega)]
            have n3 : ∀ {n : Nat}, nlV n [] = .slice none 0 0 := fun {n} => by simp [nlV]
            have n4 : newH [] = [] := rfl
            have u1 : (n ≥ 1) = False := eq_false hn
            have u2 : True := trivial
            have hsp := @Nat.succ_ne_zero; repeat' (first | simp (disch := first | exact dschL17 | fail) only [go_sem, ↓reduceIte, hsp, pap, chn, run21, run22, run40, run50, run30, run29, tup3, tupBI, eq_self, decide_true, if_true, Bool.false_eq_true, hA, kE2, kE3, kE4, kE5, kE9, kE10, kE11, kE12, kE13, kE14, kE15, kE16, kE17, kE18, kE19, kE20, kE21, kE22, kE23, kE24, kE25, g4, g5, g9, g10, g11, g12, hc, e1, n1, n2, hd, e2, t1, t2, e3, n3, n4, u1, u2] | refine WP_drw ?_ | refine cnd_intro (fun hsp => ?_) fun hsp => ?_)
            all_goals (try (exfalso; omega))
            refine WPS_restF fun P16 eP16 => ?_
            rw [WP_region]
            have kP162 := congrFun eP16 2
            have kP163 := congrFun eP16 3
            have kP164 := congrFun eP16 4
            have kP165 := congrFun eP16 5
            have kP169 := congrFun eP16 9
            have kP1610 := congrFun eP16 10
            have kP1611 := congrFun eP16 11
            have kP1612 := congrFun eP16 12
            have kP1613 := congrFun eP16 13
            have kP1614 := congrFun eP16 14
            have kP1615 := congrFun eP16 15
            have kP1616 := congrFun eP16 16
            have kP1617 := congrFun eP16 17
            have kP1618 := congrFun eP16 18
            have kP1619 := congrFun eP16 19
            have kP1620 := congrFun eP16 20
            have kP1621 := congrFun eP16 21
            have kP1622 := congrFun eP16 22
            have kP1623 := congrFun eP16 23
            have kP1624 := congrFun eP16 24
            have kP1625 := congrFun eP16 25
            have kP1626 := congrFun eP16 26
            have kP1627 := congrFun eP16 27
            have kP1628 := congrFun eP16 28
            have kP1629 := congrFun eP16 29
            have kP1630 := congrFun eP16 30
            have kP1631 := congrFun eP16 31
            have kP1632 := congrFun eP16 32
            have kP1633 := congrFun eP16 33
            try simp (disch := first | exact dschL17 | fail) only [go_sem, ↓reduceIte, kE2, kE3, kE4, kE5, kE9, kE10, kE11, kE12, kE13, kE14, kE15, kE16, kE17, kE18, kE19, kE20, kE21, kE22, kE23, kE24, kE25] at kP162 kP163 kP164 kP165 kP169 kP1610 kP1611 kP1612 kP1613 kP1614 kP1615 kP1616 kP1617 kP1618 kP1619 kP1620 kP1621 kP1622 kP1623 kP1624 kP1625 kP1626 kP1627 kP1628 kP1629 kP1630 kP1631 kP1632 kP1633
            clear eP16
            by_cases hww : w' = w
            · have e4 : weavesS w' m k s w l = (weaveB w'.toNat m k.toNat s.toNat l, 0) := by unfold weavesS; rw [if_neg (by simp [hd]), if_neg (by simp [hc]), if_neg (by simp [hww])]; rfl
              subst hww
              have hsp := @Nat.succ_ne_zero; repeat' (first | simp (disch := first | exact dschL17 | fail) only [go_sem, ↓reduceIte, hsp, pap, chn, run21, run22, run40, run50, run30, run29, tup3, tupBI, eq_self, decide_true, if_true, Bool.false_eq_true, hA, kP162, kP163, kP164, kP165, kP169, kP1610, kP1611, kP1612, kP1613, kP1614, kP1615, kP1616, kP1617, kP1618, kP1619, kP1620, kP1621, kP1622, kP1623, kP1624, kP1625, kP1626, kP1627, kP1628, kP1629, kP1630, kP1631, kP1632, kP1633, g4, g5, g9, g10, g11, g12, hc, e1, n1, n2, hd, e2, t1, t2, e3, n3, n4, u1, u2, e4, neB4, clr_eq, stQ_all] | refine WP_drw ?_ | refine cnd_intro (fun hsp => ?_) fun hsp => ?_)
              all_goals (first | exact fin_pl rfl rfl (by repeat' first | exact xG | exact (xG.set (by omega)) | refine Ext.app ?_) | (exfalso; omega))
            · have e4 : weavesS w' m k s w l = (false, 7) := by unfold weavesS; rw [if_neg (by simp [hd]), if_neg (by simp [hc]), if_pos hww]
              have hsp := @Nat.succ_ne_zero; repeat' (first | simp (disch := first | exact dschL17 | fail) only [go_sem, ↓reduceIte, hsp, pap, chn, run21, run22, run40, run50, run30, run29, tup3, tupBI, eq_self, decide_true, if_true, Bool.false_eq_true, hA, kP162, kP163, kP164, kP165, kP169, kP1610, kP1611, kP1612, kP1613, kP1614, kP1615, kP1616, kP1617, kP1618, kP1619, kP1620, kP1621, kP1622, kP1623, kP1624, kP1625, kP1626, kP1627, kP1628, kP1629, kP1630, kP1631, kP1632, kP1633, g4, g5, g9, g10, g11, g12, hc, e1, n1, n2, hd, e2, t1, t2, e3, n3, n4, u1, u2, e4, hww, neB4, clr_eq, stQ_all] | refine WP_drw ?_ | refine cnd_intro (fun hsp => ?_) fun hsp => ?_)
              all_goals (first | exact fin_pl rfl rfl (by repeat' first | exact xG | exact (xG.set (by omega)) | refine Ext.app ?_) | (exfalso; omega))
      · have e2 : cardS w' m k s t = (0, 0, chkC w' m k s) := by unfold cardS; rw [if_pos hd]
        have e3 : weaveS w' m k s n = (0, [], chkC w' m k s) := by unfold weaveS; rw [if_pos hd]
        have e4 : weavesS w' m k s w l = (false, chkC w' m k s) := by unfold weavesS; rw [if_pos hd]
        have n3 : ∀ {n : Nat}, nlV n [] = .slice none 0 0 := fun {n} => by simp [nlV]
        have n4 : newH [] = [] := rfl
        have hsp := @Nat.succ_ne_zero; repeat' (first | simp (disch := first | exact dschL17 | fail) only [go_sem, ↓reduceIte, hsp, pap, chn, run21, run22, run40, run50, run30, run29, tup3, tupBI, eq_self, decide_true, if_true, Bool.false_eq_true, hA, kE2, kE3, kE4, kE5, kE9, kE10, kE11, kE12, kE13, kE14, kE15, kE16, kE17, kE18, kE19, kE20, kE21, kE22, kE23, kE24, kE25, g4, g5, g9, g10, g11, g12, hc, e1, n1, n2, hd, e2, e3, e4, n3, n4, neB4, clr_eq, stQ_all] | refine WP_drw ?_ | refine cnd_intro (fun hsp => ?_) fun hsp => ?_)
        all_goals (first | exact fin_pl rfl rfl (by repeat' first | exact xG | exact (xG.set (by omega)) | refine Ext.app ?_) | (exfalso; omega))
  · have e1 : turnS w l = (0, [], chk w l) := by unfold turnS; rw [if_pos hc]
    have n1 : ∀ {n : Nat}, nlV n [] = .slice none 0 0 := fun {n} => by simp [nlV]
    have n2 : newH [] = [] := rfl
    have hc' : (chk w l = 0) = False := eq_false hc
    have hsp := @Nat.succ_ne_zero; repeat' (first | simp (disch := first | exact dschL17 | fail) only [go_sem, ↓reduceIte, hsp, pap, chn, run21, run22, run40, run50, run30, run29, tup3, tupBI, eq_self, decide_true, if_true, Bool.false_eq_true, hA, kF2, kF3, k4, k5, k9, k10, k11, k12, kF13, kF14, g4, g5, g9, g10, g11, g12, hc', e1, n1, n2] | refine WP_drw ?_ | refine cnd_intro (fun hsp => ?_) fun hsp => ?_)
    refine WPS_restF fun D eD => ?_
    rw [WP_region]
    have kD2 := congrFun eD 2
    have kD3 := congrFun eD 3
    have kD4 := congrFun eD 4
    have kD5 := congrFun eD 5
    have kD9 := congrFun eD 9
    have kD10 := congrFun eD 10
    have kD11 := congrFun eD 11
    have kD12 := congrFun eD 12
    have kD13 := congrFun eD 13
    have kD14 := congrFun eD 14
    have kD15 := congrFun eD 15
    have kD16 := congrFun eD 16
    have kD17 := congrFun eD 17
    have kD18 := congrFun eD 18
    have kD19 := congrFun eD 19
    have kD20 := congrFun eD 20
    have kD21 := congrFun eD 21
    have kD22 := congrFun eD 22
    have kD23 := congrFun eD 23
    have kD24 := congrFun eD 24
    have kD25 := congrFun eD 25
    try simp (disch := first | exact dschL17 | fail) only [go_sem, ↓reduceIte, kF2, kF3, k4, k5, k9, k10, k11, k12, kF13, kF14] at kD2 kD3 kD4 kD5 kD9 kD10 kD11 kD12 kD13 kD14 kD15 kD16 kD17 kD18 kD19 kD20 kD21 kD22 kD23 kD24 kD25
    clear eD
    by_cases hd : chkC w' m k s = 0
    · obtain ⟨hv8, hm, hk, hss, hst, hy⟩ := chkC_ok hd
      have c1 : 1 ≤ (m.length : Int) ∧ (m.length : Int) ≤ 1000 := by omega
      have c2 : 0 ≤ s ∧ s ≤ 1000 := by omega
      have c3 : 1 ≤ w' ∧ w' ≤ 1000 := by omega
      by_cases ht : 0 ≤ t
      · by_cases ht' : t ≤ 1000000
        · have e2 : cardS w' m k s t = (((cardN k.toNat m.length t.toNat : Nat) : Int), ((moveN k.toNat m.length s.toNat w'.toNat t.toNat : Nat) : Int), 0) := by unfold cardS; rw [if_neg (by simp [hd]), if_neg (by simp [ht, ht'])]
          have ht2 : 0 ≤ t ∧ t ≤ 10000000 := by omega
          have t1 : (t ≥ 0) = True := eq_true ht
          have t2 : (t ≤ 1000000) = True := eq_true ht'
          by_cases hn : 1 ≤ n
          · by_cases hn' : n ≤ 48
            · obtain ⟨W, hW⟩ : ∃ W, lst (fun t => ((liftN w'.toNat m k.toNat s.toNat t : Nat) : Int)) n.toNat = W := ⟨_, rfl⟩
              have hWl : W.length = n.toNat := by rw [← hW, lst_len]
              have hWne : W ≠ [] := by rintro rfl; simp at hWl; omega
              have e3 : weaveS w' m k s n = (w', W, 0) := by unfold weaveS; rw [if_neg (by simp [hd]), if_neg (by simp [hn, hn'])]; exact congrArg (fun X => (w', X, (0 : Int))) hW
              have hsm : ∀ i, Small (lst (fun t => ((liftN w'.toNat m k.toNat s.toNat t : Nat) : Int)) (min i 48)) := fun i => ⟨by rw [lst_len]; omega, fun x hx => by
                obtain ⟨j, _, rfl⟩ := List.mem_map.1 hx
                have := liftN_small hd j
                omega⟩
              have hsW : Small W := by have := hsm n.toNat; rwa [Nat.min_eq_left (by omega), hW] at this
              have n3 : ∀ {n : Nat}, nlV n W = .slice (some ⟨n, 0, 0⟩) W.length W.length := fun {n} => nlV_ne hWne
              have n4 : newH W = [rowB W 0] := newH_ne hWne
              have u1 : (n ≥ 1) = True := eq_true hn
              have u2 : (n ≤ 48) = True := eq_true hn'
              have hsp := @Nat.succ_ne_zero; repeat' (first | simp (disch := first | exact dschL17 | fail) only [go_sem, ↓reduceIte, hsp, pap, chn, run21, run22, run40, run50, run30, run29, tup3, tupBI, eq_self, decide_true, if_true, Bool.false_eq_true, hA, kD2, kD3, kD4, kD5, kD9, kD10, kD11, kD12, kD13, kD14, kD15, kD16, kD17, kD18, kD19, kD20, kD21, kD22, kD23, kD24, kD25, g4, g5, g9, g10, g11, g12, hc, e1, n1, n2, hd, e2, t1, t2, e3, n3, n4, u1, u2] | refine WP_drw ?_ | refine cnd_intro (fun hsp => ?_) fun hsp => ?_)
              refine WP_count [(34, 34), (149, 160)] 0 n.toNat (Nat.zero_le _) (fun H i fr h => fr 149 = .int .i64 (i : Int) ∧ h = H.set (G.length + 1 + 1 + 1 + 1) ⟨.cells [.int .i64 w', grV H.length (lst (fun t => ((liftN w'.toNat m k.toNat s.toNat t : Nat) : Int)) i)] 24 false false, 0⟩ ++ grH (lst (fun t => ((liftN w'.toNat m k.toNat s.toNat t : Nat) : Int)) i)) ?_ ?_ ?_
              · refine ⟨by (simp (disch := first | exact dschL17 | fail) only [go_sem, ↓reduceIte, Int.natCast_zero]; first | done | rfl), ?_⟩
                simp only [lst_zero, grV_nil, grH_nil, List.append_nil]
                simp (disch := first | exact dschL17 | fail) only [go_sem, ↓reduceIte]
              · rintro i fr H hi0 hi hA2 ⟨r149, rfl⟩
                have q12 := hA2 12 rfl
                have q25 := hA2 25 rfl
                have q148 := hA2 148 rfl
                try simp (disch := first | exact dschL17 | fail) only [go_sem, ↓reduceIte, kD12, kD25] at q12 q25 q148
                have hlt : ((i : Int) < n) = True := eq_true (by omega)
                have htl : (lst (fun t => ((liftN w'.toNat m k.toNat s.toNat t : Nat) : Int)) i).length < 1073741824 := by rw [lst_len]; omega
                have hin : 0 ≤ (i : Int) ∧ (i : Int) ≤ 10000000 := by omega
                have hsp := @Nat.succ_ne_zero; repeat' (first | simp (disch := first | exact dschL17 | fail) only [go_sem, ↓reduceIte, hsp, pap, chn, run21, run22, run40, run50, run30, run29, tup3, tupBI, eq_self, decide_true, if_true, Bool.false_eq_true, hA, hc, e1, n1, n2, hd, e2, t1, t2, e3, n3, n4, u1, u2, r149, q12, q25, q148, g12, hlt] | refine WP_drw ?_ | refine cnd_intro (fun hsp => ?_) fun hsp => ?_)
                
                refine ⟨by (repeat first | exact Agree.refl | assumption | refine Agree.put rfl ?_ | refine Agree.put0 ?_ | refine Agree.sub rfl (by assumption) ?_), by (first | rfl | omega | (simp (disch := first | exact dschL17 | fail) only [go_sem, ↓reduceIte, Int.natCast_zero]; first | done | rfl)), ?_⟩
                rw [lst_succ]
                try simp (disch := first | exact dschL17 | fail) only [go_sem, ↓reduceIte, hc, e1, n1, n2, hd, e2, t1, t2, e3, n3, n4, u1, u2]
              · rintro fr H hA2 ⟨r149, rfl⟩
                have qq2 := hA2 2 rfl
                have qq3 := hA2 3 rfl
                have qq4 := hA2 4 rfl
                have qq5 := hA2 5 rfl
                have qq9 := hA2 9 rfl
                have qq10 := hA2 10 rfl
                have qq11 := hA2 11 rfl
                have qq12 := hA2 12 rfl
                have qq13 := hA2 13 rfl
                have qq14 := hA2 14 rfl
                have qq15 := hA2 15 rfl
                have qq16 := hA2 16 rfl
                have qq17 := hA2 17 rfl
                have qq18 := hA2 18 rfl
                have qq19 := hA2 19 rfl
                have qq20 := hA2 20 rfl
                have qq21 := hA2 21 rfl
                have qq22 := hA2 22 rfl
                have qq23 := hA2 23 rfl
                have qq24 := hA2 24 rfl
                have qq25 := hA2 25 rfl
                have qq26 := hA2 26 rfl
                have qq27 := hA2 27 rfl
                have qq28 := hA2 28 rfl
                have qq29 := hA2 29 rfl
                have qq30 := hA2 30 rfl
                have qq31 := hA2 31 rfl
                have qq32 := hA2 32 rfl
                have qq33 := hA2 33 rfl
                have qq148 := hA2 148 rfl
                try simp (disch := first | exact dschL17 | fail) only [go_sem, ↓reduceIte, kD2, kD3, kD4, kD5, kD9, kD10, kD11, kD12, kD13, kD14, kD15, kD16, kD17, kD18, kD19, kD20, kD21, kD22, kD23, kD24, kD25] at qq2 qq3 qq4 qq5 qq9 qq10 qq11 qq12 qq13 qq14 qq15 qq16 qq17 qq18 qq19 qq20 qq21 qq22 qq23 qq24 qq25 qq26 qq27 qq28 qq29 qq30 qq31 qq32 qq33 qq148
                have hlt : (((n.toNat : Nat) : Int) < n) = False := eq_false (by omega)
                have hsp := @Nat.succ_ne_zero; repeat' (first | simp (disch := first | exact dschL17 | fail) only [go_sem, ↓reduceIte, hsp, pap, chn, run21, run22, run40, run50, run30, run29, tup3, tupBI, eq_self, decide_true, if_true, Bool.false_eq_true, hA, hc, e1, n1, n2, hd, e2, t1, t2, e3, n3, n4, u1, u2, qq2, qq3, qq4, qq5, qq9, qq10, qq11, qq12, qq13, qq14, qq15, qq16, qq17, qq18, qq19, qq20, qq21, qq22, qq23, qq24, qq25, qq26, qq27, qq28, qq29, qq30, qq31, qq32, qq33, qq148, hlt, r149, hW] | refine WP_drw ?_ | refine cnd_intro (fun hsp => ?_) fun hsp => ?_)
                all_goals (try (exfalso; omega))
                refine WPS_restF fun P19 eP19 => ?_
                rw [WP_region]
                have kP192 := congrFun eP19 2
                have kP193 := congrFun eP19 3
                have kP194 := congrFun eP19 4
                have kP195 := congrFun eP19 5
                have kP199 := congrFun eP19 9
                have kP1910 := congrFun eP19 10
                have kP1911 := congrFun eP19 11
                have kP1912 := congrFun eP19 12
                have kP1913 := congrFun eP19 13
                have kP1914 := congrFun eP19 14
                have kP1915 := congrFun eP19 15
                have kP1916 := congrFun eP19 16
                have kP1917 := congrFun eP19 17
                have kP1918 := congrFun eP19 18
                have kP1919 := congrFun eP19 19
                have kP1920 := congrFun eP19 20
                have kP1921 := congrFun eP19 21
                have kP1922 := congrFun eP19 22
                have kP1923 := congrFun eP19 23
                have kP1924 := congrFun eP19 24
                have kP1925 := congrFun eP19 25
                have kP1926 := congrFun eP19 26
                have kP1927 := congrFun eP19 27
                have kP1928 := congrFun eP19 28
                have kP1929 := congrFun eP19 29
                have kP1930 := congrFun eP19 30
                have kP1931 := congrFun eP19 31
                have kP1932 := congrFun eP19 32
                have kP1933 := congrFun eP19 33
                try simp (disch := first | exact dschL17 | fail) only [go_sem, ↓reduceIte, qq2, qq3, qq4, qq5, qq9, qq10, qq11, qq12, qq13, qq14, qq15, qq16, qq17, qq18, qq19, qq20, qq21, qq22, qq23, qq24, qq25, qq26, qq27, qq28, qq29, qq30, qq31, qq32, qq33] at kP192 kP193 kP194 kP195 kP199 kP1910 kP1911 kP1912 kP1913 kP1914 kP1915 kP1916 kP1917 kP1918 kP1919 kP1920 kP1921 kP1922 kP1923 kP1924 kP1925 kP1926 kP1927 kP1928 kP1929 kP1930 kP1931 kP1932 kP1933
                clear eP19
                have e4 : weavesS w' m k s w l = (false, chk w l) := by unfold weavesS; rw [if_neg (by simp [hd]), if_pos hc]
                have hsp := @Nat.succ_ne_zero; repeat' (first | simp (disch := first | exact dschL17 | fail) only [go_sem, ↓reduceIte, hsp, pap, chn, run21, run22, run40, run50, run30, run29, tup3, tupBI, eq_self, decide_true, if_true, Bool.false_eq_true, hA, kP192, kP193, kP194, kP195, kP199, kP1910, kP1911, kP1912, kP1913, kP1914, kP1915, kP1916, kP1917, kP1918, kP1919, kP1920, kP1921, kP1922, kP1923, kP1924, kP1925, kP1926, kP1927, kP1928, kP1929, kP1930, kP1931, kP1932, kP1933, g4, g5, g9, g10, g11, g12, hc, e1, n1, n2, hd, e2, t1, t2, e3, n3, n4, u1, u2, e4, neB4, clr_nil] | refine WP_drw ?_ | refine cnd_intro (fun hsp => ?_) fun hsp => ?_)
                all_goals (first | exact fin_pl rfl rfl (by repeat' first | exact xG | exact (xG.set (by omega)) | refine Ext.app ?_) | (exfalso; omega))
            · have e3 : weaveS w' m k s n = (0, [], 2) := by unfold weaveS; rw [if_neg (by simp [hd]), if_pos (by omega)]
              have n3 : ∀ {n : Nat}, nlV n [] = .slice none 0 0 := fun {n} => by simp [nlV]
              have n4 : newH [] = [] := rfl
              have u1 : (n ≥ 1) = True := eq_true hn
              have u2 : (n ≤ 48) = False := eq_false hn'
              have hsp := @Nat.succ_ne_zero; repeat' (first | simp (disch := first | exact dschL17 | fail) only [go_sem, ↓reduceIte, hsp, pap, chn, run21, run22, run40, run50, run30, run29, tup3, tupBI, eq_self, decide_true, if_true, Bool.false_eq_true, hA, kD2, kD3, kD4, kD5, kD9, kD10, kD11, kD12, kD13, kD14, kD15, kD16, kD17, kD18, kD19, kD20, kD21, kD22, kD23, kD24, kD25, g4, g5, g9, g10, g11, g12, hc, e1, n1, n2, hd, e2, t1, t2, e3, n3, n4, u1, u2] | refine WP_drw ?_ | refine cnd_intro (fun hsp => ?_) fun hsp => ?_)
              all_goals (try (exfalso; omega))
              refine WPS_restF fun P20 eP20 => ?_
              rw [WP_region]
              have kP202 := congrFun eP20 2
              have kP203 := congrFun eP20 3
              have kP204 := congrFun eP20 4
              have kP205 := congrFun eP20 5
              have kP209 := congrFun eP20 9
              have kP2010 := congrFun eP20 10
              have kP2011 := congrFun eP20 11
              have kP2012 := congrFun eP20 12
              have kP2013 := congrFun eP20 13
              have kP2014 := congrFun eP20 14
              have kP2015 := congrFun eP20 15
              have kP2016 := congrFun eP20 16
              have kP2017 := congrFun eP20 17
              have kP2018 := congrFun eP20 18
              have kP2019 := congrFun eP20 19
              have kP2020 := congrFun eP20 20
              have kP2021 := congrFun eP20 21
              have kP2022 := congrFun eP20 22
              have kP2023 := congrFun eP20 23
              have kP2024 := congrFun eP20 24
              have kP2025 := congrFun eP20 25
              have kP2026 := congrFun eP20 26
              have kP2027 := congrFun eP20 27
              have kP2028 := congrFun eP20 28
              have kP2029 := congrFun eP20 29
              have kP2030 := congrFun eP20 30
              have kP2031 := congrFun eP20 31
              have kP2032 := congrFun eP20 32
              have kP2033 := congrFun eP20 33
              try simp (disch := first | exact dschL17 | fail) only [go_sem, ↓reduceIte, kD2, kD3, kD4, kD5, kD9, kD10, kD11, kD12, kD13, kD14, kD15, kD16, kD17, kD18, kD19, kD20, kD21, kD22, kD23, kD24, kD25] at kP202 kP203 kP204 kP205 kP209 kP2010 kP2011 kP2012 kP2013 kP2014 kP2015 kP2016 kP2017 kP2018 kP2019 kP2020 kP2021 kP2022 kP2023 kP2024 kP2025 kP2026 kP2027 kP2028 kP2029 kP2030 kP2031 kP2032 kP2033
              clear eP20
              have e4 : weavesS w' m k s w l = (false, chk w l) := by unfold weavesS; rw [if_neg (by simp [hd]), if_pos hc]
              have hsp := @Nat.succ_ne_zero; repeat' (first | simp (disch := first | exact dschL17 | fail) only [go_sem, ↓reduceIte, hsp, pap, chn, run21, run22, run40, run50, run30, run29, tup3, tupBI, eq_self, decide_true, if_true, Bool.false_eq_true, hA, kP202, kP203, kP204, kP205, kP209, kP2010, kP2011, kP2012, kP2013, kP2014, kP2015, kP2016, kP2017, kP2018, kP2019, kP2020, kP2021, kP2022, kP2023, kP2024, kP2025, kP2026, kP2027, kP2028, kP2029, kP2030, kP2031, kP2032, kP2033, g4, g5, g9, g10, g11, g12, hc, e1, n1, n2, hd, e2, t1, t2, e3, n3, n4, u1, u2, e4, neB4, clr_nil] | refine WP_drw ?_ | refine cnd_intro (fun hsp => ?_) fun hsp => ?_)
              all_goals (first | exact fin_pl rfl rfl (by repeat' first | exact xG | exact (xG.set (by omega)) | refine Ext.app ?_) | (exfalso; omega))
          · have e3 : weaveS w' m k s n = (0, [], 2) := by unfold weaveS; rw [if_neg (by simp [hd]), if_pos (by omega)]
            have n3 : ∀ {n : Nat}, nlV n [] = .slice none 0 0 := fun {n} => by simp [nlV]
            have n4 : newH [] = [] := rfl
            have u1 : (n ≥ 1) = False := eq_false hn
            have u2 : True := trivial
            have hsp := @Nat.succ_ne_zero; repeat' (first | simp (disch := first | exact dschL17 | fail) only [go_sem, ↓reduceIte, hsp, pap, chn, run21, run22, run40, run50, run30, run29, tup3, tupBI, eq_self, decide_true, if_true, Bool.false_eq_true, hA, kD2, kD3, kD4, kD5, kD9, kD10, kD11, kD12, kD13, kD14, kD15, kD16, kD17, kD18, kD19, kD20, kD21, kD22, kD23, kD24, kD25, g4, g5, g9, g10, g11, g12, hc, e1, n1, n2, hd, e2, t1, t2, e3, n3, n4, u1, u2] | refine WP_drw ?_ | refine cnd_intro (fun hsp => ?_) fun hsp => ?_)
            all_goals (try (exfalso; omega))
            refine WPS_restF fun P21 eP21 => ?_
            rw [WP_region]
            have kP212 := congrFun eP21 2
            have kP213 := congrFun eP21 3
            have kP214 := congrFun eP21 4
            have kP215 := congrFun eP21 5
            have kP219 := congrFun eP21 9
            have kP2110 := congrFun eP21 10
            have kP2111 := congrFun eP21 11
            have kP2112 := congrFun eP21 12
            have kP2113 := congrFun eP21 13
            have kP2114 := congrFun eP21 14
            have kP2115 := congrFun eP21 15
            have kP2116 := congrFun eP21 16
            have kP2117 := congrFun eP21 17
            have kP2118 := congrFun eP21 18
            have kP2119 := congrFun eP21 19
            have kP2120 := congrFun eP21 20
            have kP2121 := congrFun eP21 21
            have kP2122 := congrFun eP21 22
            have kP2123 := congrFun eP21 23
            have kP2124 := congrFun eP21 24
            have kP2125 := congrFun eP21 25
            have kP2126 := congrFun eP21 26
            have kP2127 := congrFun eP21 27
            have kP2128 := congrFun eP21 28
            have kP2129 := congrFun eP21 29
            have kP2130 := congrFun eP21 30
            have kP2131 := congrFun eP21 31
            have kP2132 := congrFun eP21 32
            have kP2133 := congrFun eP21 33
            try simp (disch := first | exact dschL17 | fail) only [go_sem, ↓reduceIte, kD2, kD3, kD4, kD5, kD9, kD10, kD11, kD12, kD13, kD14, kD15, kD16, kD17, kD18, kD19, kD20, kD21, kD22, kD23, kD24, kD25] at kP212 kP213 kP214 kP215 kP219 kP2110 kP2111 kP2112 kP2113 kP2114 kP2115 kP2116 kP2117 kP2118 kP2119 kP2120 kP2121 kP2122 kP2123 kP2124 kP2125 kP2126 kP2127 kP2128 kP2129 kP2130 kP2131 kP2132 kP2133
            clear eP21
            have e4 : weavesS w' m k s w l = (false, chk w l) := by unfold weavesS; rw [if_neg (by simp [hd]), if_pos hc]
            have hsp := @Nat.succ_ne_zero; repeat' (first | simp (disch := first | exact dschL17 | fail) only [go_sem, ↓reduceIte, hsp, pap, chn, run21, run22, run40, run50, run30, run29, tup3, tupBI, eq_self, decide_true, if_true, Bool.false_eq_true, hA, kP212, kP213, kP214, kP215, kP219, kP2110, kP2111, kP2112, kP2113, kP2114, kP2115, kP2116, kP2117, kP2118, kP2119, kP2120, kP2121, kP2122, kP2123, kP2124, kP2125, kP2126, kP2127, kP2128, kP2129, kP2130, kP2131, kP2132, kP2133, g4, g5, g9, g10, g11, g12, hc, e1, n1, n2, hd, e2, t1, t2, e3, n3, n4, u1, u2, e4, neB4, clr_nil] | refine WP_drw ?_ | refine cnd_intro (fun hsp => ?_) fun hsp => ?_)
            all_goals (first | exact fin_pl rfl rfl (by repeat' first | exact xG | exact (xG.set (by omega)) | refine Ext.app ?_) | (exfalso; omega))
        · have e2 : cardS w' m k s t = (0, 0, 3) := by unfold cardS; rw [if_neg (by simp [hd]), if_pos (by omega)]
          have t1 : (t ≥ 0) = True := eq_true ht
          have t2 : (t ≤ 1000000) = False := eq_false ht'
          by_cases hn : 1 ≤ n
          · by_cases hn' : n ≤ 48
            · obtain ⟨W, hW⟩ : ∃ W, lst (fun t => ((liftN w'.toNat m k.toNat s.toNat t : Nat) : Int)) n.toNat = W := ⟨_, rfl⟩
              have hWl : W.length = n.toNat := by rw [← hW, lst_len]
              have hWne : W ≠ [] := by rintro rfl; simp at hWl; omega
              have e3 : weaveS w' m k s n = (w', W, 0) := by unfold weaveS; rw [if_neg (by simp [hd]), if_neg (by simp [hn, hn'])]; exact congrArg (fun X => (w', X, (0 : Int))) hW
              have hsm : ∀ i, Small (lst (fun t => ((liftN w'.toNat m k.toNat s.toNat t : Nat) : Int)) (min i 48)) := fun i => ⟨by rw [lst_len]; omega, fun x hx => by
                obtain ⟨j, _, rfl⟩ := List.mem_map.1 hx
                have := liftN_small hd j
                omega⟩
              have hsW : Small W := by have := hsm n.toNat; rwa [Nat.min_eq_left (by omega), hW] at this
              have n3 : ∀ {n : Nat}, nlV n W = .slice (some ⟨n, 0, 0⟩) W.length W.length := fun {n} => nlV_ne hWne
              have n4 : newH W = [rowB W 0] := newH_ne hWne
              have u1 : (n ≥ 1) = True := eq_true hn
              have u2 : (n ≤ 48) = True := eq_true hn'
              have hsp := @Nat.succ_ne_zero; repeat' (first | simp (disch := first | exact dschL17 | fail) only [go_sem, ↓reduceIte, hsp, pap, chn, run21, run22, run40, run50, run30, run29, tup3, tupBI, eq_self, decide_true, if_true, Bool.false_eq_true, hA, kD2, kD3, kD4, kD5, kD9, kD10, kD11, kD12, kD13, kD14, kD15, kD16, kD17, kD18, kD19, kD20, kD21, kD22, kD23, kD24, kD25, g4, g5, g9, g10, g11, g12, hc, e1, n1, n2, hd, e2, t1, t2, e3, n3, n4, u1, u2] | refine WP_drw ?_ | refine cnd_intro (fun hsp => ?_) fun hsp => ?_)
              refine WP_count [(34, 34), (149, 160)] 0 n.toNat (Nat.zero_le _) (fun H i fr h => fr 149 = .int .i64 (i : Int) ∧ h = H.set (G.length + 1 + 1 + 1 + 1) ⟨.cells [.int .i64 w', grV H.length (lst (fun t => ((liftN w'.toNat m k.toNat s.toNat t : Nat) : Int)) i)] 24 false false, 0⟩ ++ grH (lst (fun t => ((liftN w'.toNat m k.toNat s.toNat t : Nat) : Int)) i)) ?_ ?_ ?_
              · refine ⟨by (simp (disch := first | exact dschL17 | fail) only [go_sem, ↓reduceIte, Int.natCast_zero]; first | done | rfl), ?_⟩
                simp only [lst_zero, grV_nil, grH_nil, List.append_nil]
                simp (disch := first | exact dschL17 | fail) only [go_sem, ↓reduceIte]
              · rintro i fr H hi0 hi hA2 ⟨r149, rfl⟩
                have q12 := hA2 12 rfl
                have q25 := hA2 25 rfl
                have q148 := hA2 148 rfl
                try simp (disch := first | exact dschL17 | fail) only [go_sem, ↓reduceIte, kD12, kD25] at q12 q25 q148
                have hlt : ((i : Int) < n) = True := eq_true (by omega)
                have htl : (lst (fun t => ((liftN w'.toNat m k.toNat s.toNat t : Nat) : Int)) i).length < 1073741824 := by rw [lst_len]; omega
                have hin : 0 ≤ (i : Int) ∧ (i : Int) ≤ 10000000 := by omega
                have hsp := @Nat.succ_ne_zero; repeat' (first | simp (disch := first | exact dschL17 | fail) only [go_sem, ↓reduceIte, hsp, pap, chn, run21, run22, run40, run50, run30, run29, tup3, tupBI, eq_self, decide_true, if_true, Bool.false_eq_true, hA, hc, e1, n1, n2, hd, e2, t1, t2, e3, n3, n4, u1, u2, r149, q12, q25, q148, g12, hlt] | refine WP_drw ?_ | refine cnd_intro (fun hsp => ?_) fun hsp => ?_)
                
                refine ⟨by (repeat first | exact Agree.refl | assumption | refine Agree.put rfl ?_ | refine Agree.put0 ?_ | refine Agree.sub rfl (by assumption) ?_), by (first | rfl | omega | (simp (disch := first | exact dschL17 | fail) only [go_sem, ↓reduceIte, Int.natCast_zero]; first | done | rfl)), ?_⟩
                rw [lst_succ]
                try simp (disch := first | exact dschL17 | fail) only [go_sem, ↓reduceIte, hc, e1, n1, n2, hd, e2, t1, t2, e3, n3, n4, u1, u2]
              · rintro fr H hA2 ⟨r149, rfl⟩
                have qq2 := hA2 2 rfl
                have qq3 := hA2 3 rfl
                have qq4 := hA2 4 rfl
                have qq5 := hA2 5 rfl
                have qq9 := hA2 9 rfl
                have qq10 := hA2 10 rfl
                have qq11 := hA2 11 rfl
                have qq12 := hA2 12 rfl
                have qq13 := hA2 13 rfl
                have qq14 := hA2 14 rfl
                have qq15 := hA2 15 rfl
                have qq16 := hA2 16 rfl
                have qq17 := hA2 17 rfl
                have qq18 := hA2 18 rfl
                have qq19 := hA2 19 rfl
                have qq20 := hA2 20 rfl
                have qq21 := hA2 21 rfl
                have qq22 := hA2 22 rfl
                have qq23 := hA2 23 rfl
                have qq24 := hA2 24 rfl
                have qq25 := hA2 25 rfl
                have qq26 := hA2 26 rfl
                have qq27 := hA2 27 rfl
                have qq28 := hA2 28 rfl
                have qq29 := hA2 29 rfl
                have qq30 := hA2 30 rfl
                have qq31 := hA2 31 rfl
                have qq32 := hA2 32 rfl
                have qq33 := hA2 33 rfl
                have qq148 := hA2 148 rfl
                try simp (disch := first | exact dschL17 | fail) only [go_sem, ↓reduceIte, kD2, kD3, kD4, kD5, kD9, kD10, kD11, kD12, kD13, kD14, kD15, kD16, kD17, kD18, kD19, kD20, kD21, kD22, kD23, kD24, kD25] at qq2 qq3 qq4 qq5 qq9 qq10 qq11 qq12 qq13 qq14 qq15 qq16 qq17 qq18 qq19 qq20 qq21 qq22 qq23 qq24 qq25 qq26 qq27 qq28 qq29 qq30 qq31 qq32 qq33 qq148
                have hlt : (((n.toNat : Nat) : Int) < n) = False := eq_false (by omega)
                have hsp := @Nat.succ_ne_zero; repeat' (first | simp (disch := first | exact dschL17 | fail) only [go_sem, ↓reduceIte, hsp, pap, chn, run21, run22, run40, run50, run30, run29, tup3, tupBI, eq_self, decide_true, if_true, Bool.false_eq_true, hA, hc, e1, n1, n2, hd, e2, t1, t2, e3, n3, n4, u1, u2, qq2, qq3, qq4, qq5, qq9, qq10, qq11, qq12, qq13, qq14, qq15, qq16, qq17, qq18, qq19, qq20, qq21, qq22, qq23, qq24, qq25, qq26, qq27, qq28, qq29, qq30, qq31, qq32, qq33, qq148, hlt, r149, hW] | refine WP_drw ?_ | refine cnd_intro (fun hsp => ?_) fun hsp => ?_)
                all_goals (try (exfalso; omega))
                refine WPS_restF fun P22 eP22 => ?_
                rw [WP_region]
                have kP222 := congrFun eP22 2
                have kP223 := congrFun eP22 3
                have kP224 := congrFun eP22 4
                have kP225 := congrFun eP22 5
                have kP229 := congrFun eP22 9
                have kP2210 := congrFun eP22 10
                have kP2211 := congrFun eP22 11
                have kP2212 := congrFun eP22 12
                have kP2213 := congrFun eP22 13
                have kP2214 := congrFun eP22 14
                have kP2215 := congrFun eP22 15
                have kP2216 := congrFun eP22 16
                have kP2217 := congrFun eP22 17
                have kP2218 := congrFun eP22 18
                have kP2219 := congrFun eP22 19
                have kP2220 := congrFun eP22 20
                have kP2221 := congrFun eP22 21
                have kP2222 := congrFun eP22 22
                have kP2223 := congrFun eP22 23
                have kP2224 := congrFun eP22 24
                have kP2225 := congrFun eP22 25
                have kP2226 := congrFun eP22 26
                have kP2227 := congrFun eP22 27
                have kP2228 := congrFun eP22 28
                have kP2229 := congrFun eP22 29
                have kP2230 := congrFun eP22 30
                have kP2231 := congrFun eP22 31
                have kP2232 := congrFun eP22 32
                have kP2233 := congrFun eP22 33
                try simp (disch := first | exact dschL17 | fail) only [go_sem, ↓reduceIte, qq2, qq3, qq4, qq5, qq9, qq10, qq11, qq12, qq13, qq14, qq15, qq16, qq17, qq18, qq19, qq20, qq21, qq22, qq23, qq24, qq25, qq26, qq27, qq28, qq29, qq30, qq31, qq32, qq33] at kP222 kP223 kP224 kP225 kP229 kP2210 kP2211 kP2212 kP2213 kP2214 kP2215 kP2216 kP2217 kP2218 kP2219 kP2220 kP2221 kP2222 kP2223 kP2224 kP2225 kP2226 kP2227 kP2228 kP2229 kP2230 kP2231 kP2232 kP2233
                clear eP22
                have e4 : weavesS w' m k s w l = (false, chk w l) := by unfold weavesS; rw [if_neg (by simp [hd]), if_pos hc]
                have hsp := @Nat.succ_ne_zero; repeat' (first | simp (disch := first | exact dschL17 | fail) only [go_sem, ↓reduceIte, hsp, pap, chn, run21, run22, run40, run50, run30, run29, tup3, tupBI, eq_self, decide_true, if_true, Bool.false_eq_true, hA, kP222, kP223, kP224, kP225, kP229, kP2210, kP2211, kP2212, kP2213, kP2214, kP2215, kP2216, kP2217, kP2218, kP2219, kP2220, kP2221, kP2222, kP2223, kP2224, kP2225, kP2226, kP2227, kP2228, kP2229, kP2230, kP2231, kP2232, kP2233, g4, g5, g9, g10, g11, g12, hc, e1, n1, n2, hd, e2, t1, t2, e3, n3, n4, u1, u2, e4, neB4, clr_nil] | refine WP_drw ?_ | refine cnd_intro (fun hsp => ?_) fun hsp => ?_)
                all_goals (first | exact fin_pl rfl rfl (by repeat' first | exact xG | exact (xG.set (by omega)) | refine Ext.app ?_) | (exfalso; omega))
            · have e3 : weaveS w' m k s n = (0, [], 2) := by unfold weaveS; rw [if_neg (by simp [hd]), if_pos (by omega)]
              have n3 : ∀ {n : Nat}, nlV n [] = .slice none 0 0 := fun {n} => by simp [nlV]
              have n4 : newH [] = [] := rfl
              have u1 : (n ≥ 1) = True := eq_true hn
              have u2 : (n ≤ 48) = False := eq_false hn'
              have hsp := @Nat.succ_ne_zero; repeat' (first | simp (disch := first | exact dschL17 | fail) only [go_sem, ↓reduceIte, hsp, pap, chn, run21, run22, run40, run50, run30, run29, tup3, tupBI, eq_self, decide_true, if_true, Bool.false_eq_true, hA, kD2, kD3, kD4, kD5, kD9, kD10, kD11, kD12, kD13, kD14, kD15, kD16, kD17, kD18, kD19, kD20, kD21, kD22, kD23, kD24, kD25, g4, g5, g9, g10, g11, g12, hc, e1, n1, n2, hd, e2, t1, t2, e3, n3, n4, u1, u2] | refine WP_drw ?_ | refine cnd_intro (fun hsp => ?_) fun hsp => ?_)
              all_goals (try (exfalso; omega))
              refine WPS_restF fun P23 eP23 => ?_
              rw [WP_region]
              have kP232 := congrFun eP23 2
              have kP233 := congrFun eP23 3
              have kP234 := congrFun eP23 4
              have kP235 := congrFun eP23 5
              have kP239 := congrFun eP23 9
              have kP2310 := congrFun eP23 10
              have kP2311 := congrFun eP23 11
              have kP2312 := congrFun eP23 12
              have kP2313 := congrFun eP23 13
              have kP2314 := congrFun eP23 14
              have kP2315 := congrFun eP23 15
              have kP2316 := congrFun eP23 16
              have kP2317 := congrFun eP23 17
              have kP2318 := congrFun eP23 18
              have kP2319 := congrFun eP23 19
              have kP2320 := congrFun eP23 20
              have kP2321 := congrFun eP23 21
              have kP2322 := congrFun eP23 22
              have kP2323 := congrFun eP23 23
              have kP2324 := congrFun eP23 24
              have kP2325 := congrFun eP23 25
              have kP2326 := congrFun eP23 26
              have kP2327 := congrFun eP23 27
              have kP2328 := congrFun eP23 28
              have kP2329 := congrFun eP23 29
              have kP2330 := congrFun eP23 30
              have kP2331 := congrFun eP23 31
              have kP2332 := congrFun eP23 32
              have kP2333 := congrFun eP23 33
              try simp (disch := first | exact dschL17 | fail) only [go_sem, ↓reduceIte, kD2, kD3, kD4, kD5, kD9, kD10, kD11, kD12, kD13, kD14, kD15, kD16, kD17, kD18, kD19, kD20, kD21, kD22, kD23, kD24, kD25] at kP232 kP233 kP234 kP235 kP239 kP2310 kP2311 kP2312 kP2313 kP2314 kP2315 kP2316 kP2317 kP2318 kP2319 kP2320 kP2321 kP2322 kP2323 kP2324 kP2325 kP2326 kP2327 kP2328 kP2329 kP2330 kP2331 kP2332 kP2333
              clear eP23
              have e4 : weavesS w' m k s w l = (false, chk w l) := by unfold weavesS; rw [if_neg (by simp [hd]), if_pos hc]
              have hsp := @Nat.succ_ne_zero; repeat' (first | simp (disch := first | exact dschL17 | fail) only [go_sem, ↓reduceIte, hsp, pap, chn, run21, run22, run40, run50, run30, run29, tup3, tupBI, eq_self, decide_true, if_true, Bool.false_eq_true, hA, kP232, kP233, kP234, kP235, kP239, kP2310, kP2311, kP2312, kP2313, kP2314, kP2315, kP2316, kP2317, kP2318, kP2319, kP2320, kP2321, kP2322, kP2323, kP2324, kP2325, kP2326, kP2327, kP2328, kP2329, kP2330, kP2331, kP2332, kP2333, g4, g5, g9, g10, g11, g12, hc, e1, n1, n2, hd, e2, t1, t2, e3, n3, n4, u1, u2, e4, neB4, clr_nil] | refine WP_drw ?_ | refine cnd_intro (fun hsp => ?_) fun hsp => ?_)
              all_goals (first | exact fin_pl rfl rfl (by repeat' first | exact xG | exact (xG.set (by omega)) | refine Ext.app ?_) | (exfalso; omega))
          · have e3 : weaveS w' m k s n = (0, [], 2) := by unfold weaveS; rw [if_neg (by simp [hd]), if_pos (by omega)]
            have n3 : ∀ {n : Nat}, nlV n [] = .slice none 0 0 := fun {n} => by simp [nlV]
            have n4 : newH [] = [] := rfl
            have u1 : (n ≥ 1) = False := eq_false hn
            have u2 : True := trivial
            have hsp := @Nat.succ_ne_zero; repeat' (first | simp (disch := first | exact dschL17 | fail) only [go_sem, ↓reduceIte, hsp, pap, chn, run21, run22, run40, run50, run30, run29, tup3, tupBI, eq_self, decide_true, if_true, Bool.false_eq_true, hA, kD2, kD3, kD4, kD5, kD9, kD10, kD11, kD12, kD13, kD14, kD15, kD16, kD17, kD18, kD19, kD20, kD21, kD22, kD23, kD24, kD25, g4, g5, g9, g10, g11, g12, hc, e1, n1, n2, hd, e2, t1, t2, e3, n3, n4, u1, u2] | refine WP_drw ?_ | refine cnd_intro (fun hsp => ?_) fun hsp => ?_)
            all_goals (try (exfalso; omega))
            refine WPS_restF fun P24 eP24 => ?_
            rw [WP_region]
            have kP242 := congrFun eP24 2
            have kP243 := congrFun eP24 3
            have kP244 := congrFun eP24 4
            have kP245 := congrFun eP24 5
            have kP249 := congrFun eP24 9
            have kP2410 := congrFun eP24 10
            have kP2411 := congrFun eP24 11
            have kP2412 := congrFun eP24 12
            have kP2413 := congrFun eP24 13
            have kP2414 := congrFun eP24 14
            have kP2415 := congrFun eP24 15
            have kP2416 := congrFun eP24 16
            have kP2417 := congrFun eP24 17
            have kP2418 := congrFun eP24 18
            have kP2419 := congrFun eP24 19
            have kP2420 := congrFun eP24 20
            have kP2421 := congrFun eP24 21
            have kP2422 := congrFun eP24 22
            have kP2423 := congrFun eP24 23
            have kP2424 := congrFun eP24 24
            have kP2425 := congrFun eP24 25
            have kP2426 := congrFun eP24 26
            have kP2427 := congrFun eP24 27
            have kP2428 := congrFun eP24 28
            have kP2429 := congrFun eP24 29
            have kP2430 := congrFun eP24 30
            have kP2431 := congrFun eP24 31
            have kP2432 := congrFun eP24 32
            have kP2433 := congrFun eP24 33
            try simp (disch := first | exact dschL17 | fail) only [go_sem, ↓reduceIte, kD2, kD3, kD4, kD5, kD9, kD10, kD11, kD12, kD13, kD14, kD15, kD16, kD17, kD18, kD19, kD20, kD21, kD22, kD23, kD24, kD25] at kP242 kP243 kP244 kP245 kP249 kP2410 kP2411 kP2412 kP2413 kP2414 kP2415 kP2416 kP2417 kP2418 kP2419 kP2420 kP2421 kP2422 kP2423 kP2424 kP2425 kP2426 kP2427 kP2428 kP2429 kP2430 kP2431 kP2432 kP2433
            clear eP24
            have e4 : weavesS w' m k s w l = (false, chk w l) := by unfold weavesS; rw [if_neg (by simp [hd]), if_pos hc]
            have hsp := @Nat.succ_ne_zero; repeat' (first | simp (disch := first | exact dschL17 | fail) only [go_sem, ↓reduceIte, hsp, pap, chn, run21, run22, run40, run50, run30, run29, tup3, tupBI, eq_self, decide_true, if_true, Bool.false_eq_true, hA, kP242, kP243, kP244, kP245, kP249, kP2410, kP2411, kP2412, kP2413, kP2414, kP2415, kP2416, kP2417, kP2418, kP2419, kP2420, kP2421, kP2422, kP2423, kP2424, kP2425, kP2426, kP2427, kP2428, kP2429, kP2430, kP2431, kP2432, kP2433, g4, g5, g9, g10, g11, g12, hc, e1, n1, n2, hd, e2, t1, t2, e3, n3, n4, u1, u2, e4, neB4, clr_nil] | refine WP_drw ?_ | refine cnd_intro (fun hsp => ?_) fun hsp => ?_)
            all_goals (first | exact fin_pl rfl rfl (by repeat' first | exact xG | exact (xG.set (by omega)) | refine Ext.app ?_) | (exfalso; omega))
      · have e2 : cardS w' m k s t = (0, 0, 3) := by unfold cardS; rw [if_neg (by simp [hd]), if_pos (by omega)]
        have t1 : (t ≥ 0) = False := eq_false ht
        have t2 : True := trivial
        by_cases hn : 1 ≤ n
        · by_cases hn' : n ≤ 48
          · obtain ⟨W, hW⟩ : ∃ W, lst (fun t => ((liftN w'.toNat m k.toNat s.toNat t : Nat) : Int)) n.toNat = W := ⟨_, rfl⟩
            have hWl : W.length = n.toNat := by rw [← hW, lst_len]
            have hWne : W ≠ [] := by rintro rfl; simp at hWl; omega
            have e3 : weaveS w' m k s n = (w', W, 0) := by unfold weaveS; rw [if_neg (by simp [hd]), if_neg (by simp [hn, hn'])]; exact congrArg (fun X => (w', X, (0 : Int))) hW
            have hsm : ∀ i, Small (lst (fun t => ((liftN w'.toNat m k.toNat s.toNat t : Nat) : Int)) (min i 48)) := fun i => ⟨by rw [lst_len]; omega, fun x hx => by
              obtain ⟨j, _, rfl⟩ := List.mem_map.1 hx
              have := liftN_small hd j
              omega⟩
            have hsW : Small W := by have := hsm n.toNat; rwa [Nat.min_eq_left (by omega), hW] at this
            have n3 : ∀ {n : Nat}, nlV n W = .slice (some ⟨n, 0, 0⟩) W.length W.length := fun {n} => nlV_ne hWne
            have n4 : newH W = [rowB W 0] := newH_ne hWne
            have u1 : (n ≥ 1) = True := eq_true hn
            have u2 : (n ≤ 48) = True := eq_true hn'
            have hsp := @Nat.succ_ne_zero; repeat' (first | simp (disch := first | exact dschL17 | fail) only [go_sem, ↓reduceIte, hsp, pap, chn, run21, run22, run40, run50, run30, run29, tup3, tupBI, eq_self, decide_true, if_true, Bool.false_eq_true, hA, kD2, kD3, kD4, kD5, kD9, kD10, kD11, kD12, kD13, kD14, kD15, kD16, kD17, kD18, kD19, kD20, kD21, kD22, kD23, kD24, kD25, g4, g5, g9, g10, g11, g12, hc, e1, n1, n2, hd, e2, t1, t2, e3, n3, n4, u1, u2] | refine WP_drw ?_ | refine cnd_intro (fun hsp => ?_) fun hsp => ?_)
            refine WP_count [(34, 34), (149, 160)] 0 n.toNat (Nat.zero_le _) (fun H i fr h => fr 149 = .int .i64 (i : Int) ∧ h = H.set (G.length + 1 + 1 + 1 + 1) ⟨.cells [.int .i64 w', grV H.length (lst (fun t => ((liftN w'.toNat m k.toNat s.toNat t : Nat) : Int)) i)] 24 false false, 0⟩ ++ grH (lst (fun t => ((liftN w'.toNat m k.toNat s.toNat t : Nat) : Int)) i)) ?_ ?_ ?_
            · refine ⟨by (simp (disch := first | exact dschL17 | fail) only [go_sem, ↓reduceIte, Int.natCast_zero]; first | done | rfl), ?_⟩
              simp only [lst_zero, grV_nil, grH_nil, List.append_nil]
              simp (disch := first | exact dschL17 | fail) only [go_sem, ↓reduceIte]
            · rintro i fr H hi0 hi hA2 ⟨r149, rfl⟩
              have q12 := hA2 12 rfl
              have q25 := hA2 25 rfl
              have q148 := hA2 148 rfl
              try simp (disch := first | exact dschL17 | fail) only [go_sem, ↓reduceIte, kD12, kD25] at q12 q25 q148
              have hlt : ((i : Int) < n) = True := eq_true (by omega)
              have htl : (lst (fun t => ((liftN w'.toNat m k.toNat s.toNat t : Nat) : Int)) i).length < 1073741824 := by rw [lst_len]; omega
              have hin : 0 ≤ (i : Int) ∧ (i : Int) ≤ 10000000 := by omega
              have hsp := @Nat.succ_ne_zero; repeat' (first | simp (disch := first | exact dschL17 | fail) only [go_sem, ↓reduceIte, hsp, pap, chn, run21, run22, run40, run50, run30, run29, tup3, tupBI, eq_self, decide_true, if_true, Bool.false_eq_true, hA, hc, e1, n1, n2, hd, e2, t1, t2, e3, n3, n4, u1, u2, r149, q12, q25, q148, g12, hlt] | refine WP_drw ?_ | refine cnd_intro (fun hsp => ?_) fun hsp => ?_)
              
              refine ⟨by (repeat first | exact Agree.refl | assumption | refine Agree.put rfl ?_ | refine Agree.put0 ?_ | refine Agree.sub rfl (by assumption) ?_), by (first | rfl | omega | (simp (disch := first | exact dschL17 | fail) only [go_sem, ↓reduceIte, Int.natCast_zero]; first | done | rfl)), ?_⟩
              rw [lst_succ]
              try simp (disch := first | exact dschL17 | fail) only [go_sem, ↓reduceIte, hc, e1, n1, n2, hd, e2, t1, t2, e3, n3, n4, u1, u2]
            · rintro fr H hA2 ⟨r149, rfl⟩
              have qq2 := hA2 2 rfl
              have qq3 := hA2 3 rfl
              have qq4 := hA2 4 rfl
              have qq5 := hA2 5 rfl
              have qq9 := hA2 9 rfl
              have qq10 := hA2 10 rfl
              have qq11 := hA2 11 rfl
              have qq12 := hA2 12 rfl
              have qq13 := hA2 13 rfl
              have qq14 := hA2 14 rfl
              have qq15 := hA2 15 rfl
              have qq16 := hA2 16 rfl
              have qq17 := hA2 17 rfl
              have qq18 := hA2 18 rfl
              have qq19 := hA2 19 rfl
              have qq20 := hA2 20 rfl
              have qq21 := hA2 21 rfl
              have qq22 := hA2 22 rfl
              have qq23 := hA2 23 rfl
              have qq24 := hA2 24 rfl
              have qq25 := hA2 25 rfl
              have qq26 := hA2 26 rfl
              have qq27 := hA2 27 rfl
              have qq28 := hA2 28 rfl
              have qq29 := hA2 29 rfl
              have qq30 := hA2 30 rfl
              have qq31 := hA2 31 rfl
              have qq32 := hA2 32 rfl
              have qq33 := hA2 33 rfl
              have qq148 := hA2 148 rfl
              try simp (disch := first | exact dschL17 | fail) only [go_sem, ↓reduceIte, kD2, kD3, kD4, kD5, kD9, kD10, kD11, kD12, kD13, kD14, kD15, kD16, kD17, kD18, kD19, kD20, kD21, kD22, kD23, kD24, kD25] at qq2 qq3 qq4 qq5 qq9 qq10 qq11 qq12 qq13 qq14 qq15 qq16 qq17 qq18 qq19 qq20 qq21 qq22 qq23 qq24 qq25 qq26 qq27 qq28 qq29 qq30 qq31 qq32 qq33 qq148
              have hlt : (((n.toNat : Nat) : Int) < n) = False := eq_false (by omega)
              have hsp := @Nat.succ_ne_zero; repeat' (first | simp (disch := first | exact dschL17 | fail) only [go_sem, ↓reduceIte, hsp, pap, chn, run21, run22, run40, run50, run30, run29, tup3, tupBI, eq_self, decide_true, if_true, Bool.false_eq_true, hA, hc, e1, n1, n2, hd, e2, t1, t2, e3, n3, n4, u1, u2, qq2, qq3, qq4, qq5, qq9, qq10, qq11, qq12, qq13, qq14, qq15, qq16, qq17, qq18, qq19, qq20, qq21, qq22, qq23, qq24, qq25, qq26, qq27, qq28, qq29, qq30, qq31, qq32, qq33, qq148, hlt, r149, hW] | refine WP_drw ?_ | refine cnd_intro (fun hsp => ?_) fun hsp => ?_)
              all_goals (try (exfalso; omega))
              refine WPS_restF fun P25 eP25 => ?_
              rw [WP_region]
              have kP252 := congrFun eP25 2
              have kP253 := congrFun eP25 3
              have kP254 := congrFun eP25 4
              have kP255 := congrFun eP25 5
              have kP259 := congrFun eP25 9
              have kP2510 := congrFun eP25 10
              have kP2511 := congrFun eP25 11
              have kP2512 := congrFun eP25 12
              have kP2513 := congrFun eP25 13
              have kP2514 := congrFun eP25 14
              have kP2515 := congrFun eP25 15
              have kP2516 := congrFun eP25 16
              have kP2517 := congrFun eP25 17
              have kP2518 := congrFun eP25 18
              have kP2519 := congrFun eP25 19
              have kP2520 := congrFun eP25 20
              have kP2521 := congrFun eP25 21
              have kP2522 := congrFun eP25 22
              have kP2523 := congrFun eP25 23
              have kP2524 := congrFun eP25 24
              have kP2525 := congrFun eP25 25
              have kP2526 := congrFun eP25 26
              have kP2527 := congrFun eP25 27
              have kP2528 := congrFun eP25 28
              have kP2529 := congrFun eP25 29
              have kP2530 := congrFun eP25 30
              have kP2531 := congrFun eP25 31
              have kP2532 := congrFun eP25 32
              have kP2533 := congrFun eP25 33
              try simp (disch := first | exact dschL17 | fail) only [go_sem, ↓reduceIte, qq2, qq3, qq4, qq5, qq9, qq10, qq11, qq12, qq13, qq14, qq15, qq16, qq17, qq18, qq19, qq20, qq21, qq22, qq23, qq24, qq25, qq26, qq27, qq28, qq29, qq30, qq31, qq32, qq33] at kP252 kP253 kP254 kP255 kP259 kP2510 kP2511 kP2512 kP2513 kP2514 kP2515 kP2516 kP2517 kP2518 kP2519 kP2520 kP2521 kP2522 kP2523 kP2524 kP2525 kP2526 kP2527 kP2528 kP2529 kP2530 kP2531 kP2532 kP2533
              clear eP25
              have e4 : weavesS w' m k s w l = (false, chk w l) := by unfold weavesS; rw [if_neg (by simp [hd]), if_pos hc]
              have hsp := @Nat.succ_ne_zero; repeat' (first | simp (disch := first | exact dschL17 | fail) only [go_sem, ↓reduceIte, hsp, pap, chn, run21, run22, run40, run50, run30, run29, tup3, tupBI, eq_self, decide_true, if_true, Bool.false_eq_true, hA, kP252, kP253, kP254, kP255, kP259, kP2510, kP2511, kP2512, kP2513, kP2514, kP2515, kP2516, kP2517, kP2518, kP2519, kP2520, kP2521, kP2522, kP2523, kP2524, kP2525, kP2526, kP2527, kP2528, kP2529, kP2530, kP2531, kP2532, kP2533, g4, g5, g9, g10, g11, g12, hc, e1, n1, n2, hd, e2, t1, t2, e3, n3, n4, u1, u2, e4, neB4, clr_nil] | refine WP_drw ?_ | refine cnd_intro (fun hsp => ?_) fun hsp => ?_)
              all_goals (first | exact fin_pl rfl rfl (by repeat' first | exact xG | exact (xG.set (by omega)) | refine Ext.app ?_) | (exfalso; omega))
          · have e3 : weaveS w' m k s n = (0, [], 2) := by unfold weaveS; rw [if_neg (by simp [hd]), if_pos (by omega)]
            have n3 : ∀ {n : Nat}, nlV n [] = .slice none 0 0 := fun {n} => by simp [nlV]
            have n4 : newH [] = [] := rfl
            have u1 : (n ≥ 1) = True := eq_true hn
            have u2 : (n ≤ 48) = False := eq_false hn'
            have hsp := @Nat.succ_ne_zero; repeat' (first | simp (disch := first | exact dschL17 | fail) only [go_sem, ↓reduceIte, hsp, pap, chn, run21, run22, run40, run50, run30, run29, tup3, tupBI, eq_self, decide_true, if_true, Bool.false_eq_true, hA, kD2, kD3, kD4, kD5, kD9, kD10, kD11, kD12, kD13, kD14, kD15, kD16, kD17, kD18, kD19, kD20, kD21, kD22, kD23, kD24, kD25, g4, g5, g9, g10, g11, g12, hc, e1, n1, n2, hd, e2, t1, t2, e3, n3, n4, u1, u2] | refine WP_drw ?_ | refine cnd_intro (fun hsp => ?_) fun hsp => ?_)
            all_goals (try (exfalso; omega))
            refine WPS_restF fun P26 eP26 => ?_
            rw [WP_region]
            have kP262 := congrFun eP26 2
            have kP263 := congrFun eP26 3
            have kP264 := congrFun eP26 4
            have kP265 := congrFun eP26 5
            have kP269 := congrFun eP26 9
            have kP2610 := congrFun eP26 10
            have kP2611 := congrFun eP26 11
            have kP2612 := congrFun eP26 12
            have kP2613 := congrFun eP26 13
            have kP2614 := congrFun eP26 14
            have kP2615 := congrFun eP26 15
            have kP2616 := congrFun eP26 16
            have kP2617 := congrFun eP26 17
            have kP2618 := congrFun eP26 18
            have kP2619 := congrFun eP26 19
            have kP2620 := congrFun eP26 20
            have kP2621 := congrFun eP26 21
            have kP2622 := congrFun eP26 22
            have kP2623 := congrFun eP26 23
            have kP2624 := congrFun eP26 24
            have kP2625 := congrFun eP26 25
            have kP2626 := congrFun eP26 26
            have kP2627 := congrFun eP26 27
            have kP2628 := congrFun eP26 28
            have kP2629 := congrFun eP26 29
            have kP2630 := congrFun eP26 30
            have kP2631 := congrFun eP26 31
            have kP2632 := congrFun eP26 32
            have kP2633 := congrFun eP26 33
            try simp (disch := first | exact dschL17 | fail) only [go_sem, ↓reduceIte, kD2, kD3, kD4, kD5, kD9, kD10, kD11, kD12, kD13, kD14, kD15, kD16, kD17, kD18, kD19, kD20, kD21, kD22, kD23, kD24, kD25] at kP262 kP263 kP264 kP265 kP269 kP2610 kP2611 kP2612 kP2613 kP2614 kP2615 kP2616 kP2617 kP2618 kP2619 kP2620 kP2621 kP2622 kP2623 kP2624 kP2625 kP2626 kP2627 kP2628 kP2629 kP2630 kP2631 kP2632 kP2633
            clear eP26
            have e4 : weavesS w' m k s w l = (false, chk w l) := by unfold weavesS; rw [if_neg (by simp [hd]), if_pos hc]
            have hsp := @Nat.succ_ne_zero; repeat' (first | simp (disch := first | exact dschL17 | fail) only [go_sem, ↓reduceIte, hsp, pap, chn, run21, run22, run40, run50, run30, run29, tup3, tupBI, eq_self, decide_true, if_true, Bool.false_eq_true, hA, kP262, kP263, kP264, kP265, kP269, kP2610, kP2611, kP2612, kP2613, kP2614, kP2615, kP2616, kP2617, kP2618, kP2619, kP2620, kP2621, kP2622, kP2623, kP2624, kP2625, kP2626, kP2627, kP2628, kP2629, kP2630, kP2631, kP2632, kP2633, g4, g5, g9, g10, g11, g12, hc, e1, n1, n2, hd, e2, t1, t2, e3, n3, n4, u1, u2, e4, neB4, clr_nil] | refine WP_drw ?_ | refine cnd_intro (fun hsp => ?_) fun hsp => ?_)
            all_goals (first | exact fin_pl rfl rfl (by repeat' first | exact xG | exact (xG.set (by omega)) | refine Ext.app ?_) | (exfalso; omega))
        · have e3 : weaveS w' m k s n = (0, [], 2) := by unfold weaveS; rw [if_neg (by simp [hd]), if_pos (by omega)]
          have n3 : ∀ {n : Nat}, nlV n [] = .slice none 0 0 := fun {n} => by simp [nlV]
          have n4 : newH [] = [] := rfl
          have u1 : (n ≥ 1) = False := eq_false hn
          have u2 : True := trivial
          have hsp := @Nat.succ_ne_zero; repeat' (first | simp (disch := first | exact dschL17 | fail) only [go_sem, ↓reduceIte, hsp, pap, chn, run21, run22, run40, run50, run30, run29, tup3, tupBI, eq_self, decide_true, if_true, Bool.false_eq_true, hA, kD2, kD3, kD4, kD5, kD9, kD10, kD11, kD12, kD13, kD14, kD15, kD16, kD17, kD18, kD19, kD20, kD21, kD22, kD23, kD24, kD25, g4, g5, g9, g10, g11, g12, hc, e1, n1, n2, hd, e2, t1, t2, e3, n3, n4, u1, u2] | refine WP_drw ?_ | refine cnd_intro (fun hsp => ?_) fun hsp => ?_)
          all_goals (try (exfalso; omega))
          refine WPS_restF fun P27 eP27 => ?_
          rw [WP_region]
          have kP272 := congrFun eP27 2
          have kP273 := congrFun eP27 3
          have kP274 := congrFun eP27 4
          have kP275 := congrFun eP27 5
          have kP279 := congrFun eP27 9
          have kP2710 := congrFun eP27 10
          have kP2711 := congrFun eP27 11
          have kP2712 := congrFun eP27 12
          have kP2713 := congrFun eP27 13
          have kP2714 := congrFun eP27 14
          have kP2715 := congrFun eP27 15
          have kP2716 := congrFun eP27 16
          have kP2717 := congrFun eP27 17
          have kP2718 := congrFun eP27 18
          have kP2719 := congrFun eP27 19
          have kP2720 := congrFun eP27 20
          have kP2721 := congrFun eP27 21
          have kP2722 := congrFun eP27 22
          have kP2723 := congrFun eP27 23
          have kP2724 := congrFun eP27 24
          have kP2725 := congrFun eP27 25
          have kP2726 := congrFun eP27 26
          have kP2727 := congrFun eP27 27
          have kP2728 := congrFun eP27 28
          have kP2729 := congrFun eP27 29
          have kP2730 := congrFun eP27 30
          have kP2731 := congrFun eP27 31
          have kP2732 := congrFun eP27 32
          have kP2733 := congrFun eP27 33
          try simp (disch := first | exact dschL17 | fail) only [go_sem, ↓reduceIte, kD2, kD3, kD4, kD5, kD9, kD10, kD11, kD12, kD13, kD14, kD15, kD16, kD17, kD18, kD19, kD20, kD21, kD22, kD23, kD24, kD25] at kP272 kP273 kP274 kP275 kP279 kP2710 kP2711 kP2712 kP2713 kP2714 kP2715 kP2716 kP2717 kP2718 kP2719 kP2720 kP2721 kP2722 kP2723 kP2724 kP2725 kP2726 kP2727 kP2728 kP2729 kP2730 kP2731 kP2732 kP2733
          clear eP27
          have e4 : weavesS w' m k s w l = (false, chk w l) := by unfold weavesS; rw [if_neg (by simp [hd]), if_pos hc]
          have hsp := @Nat.succ_ne_zero; repeat' (first | simp (disch := first | exact dschL17 | fail) only [go_sem, ↓reduceIte, hsp, pap, chn, run21, run22, run40, run50, run30, run29, tup3, tupBI, eq_self, decide_true, if_true, Bool.false_eq_true, hA, kP272, kP273, kP274, kP275, kP279, kP2710, kP2711, kP2712, kP2713, kP2714, kP2715, kP2716, kP2717, kP2718, kP2719, kP2720, kP2721, kP2722, kP2723, kP2724, kP2725, kP2726, kP2727, kP2728, kP2729, kP2730, kP2731, kP2732, kP2733, g4, g5, g9, g10, g11, g12, hc, e1, n1, n2, hd, e2, t1, t2, e3, n3, n4, u1, u2, e4, neB4, clr_nil] | refine WP_drw ?_ | refine cnd_intro (fun hsp => ?_) fun hsp => ?_)
          all_goals (first | exact fin_pl rfl rfl (by repeat' first | exact xG | exact (xG.set (by omega)) | refine Ext.app ?_) | (exfalso; omega))
    · have e2 : cardS w' m k s t = (0, 0, chkC w' m k s) := by unfold cardS; rw [if_pos hd]
      have e3 : weaveS w' m k s n = (0, [], chkC w' m k s) := by unfold weaveS; rw [if_pos hd]
      have e4 : weavesS w' m k s w l = (false, chkC w' m k s) := by unfold weavesS; rw [if_pos hd]
      have n3 : ∀ {n : Nat}, nlV n [] = .slice none 0 0 := fun {n} => by simp [nlV]
      have n4 : newH [] = [] := rfl
      have hsp := @Nat.succ_ne_zero; repeat' (first | simp (disch := first | exact dschL17 | fail) only [go_sem, ↓reduceIte, hsp, pap, chn, run21, run22, run40, run50, run30, run29, tup3, tupBI, eq_self, decide_true, if_true, Bool.false_eq_true, hA, kD2, kD3, kD4, kD5, kD9, kD10, kD11, kD12, kD13, kD14, kD15, kD16, kD17, kD18, kD19, kD20, kD21, kD22, kD23, kD24, kD25, g4, g5, g9, g10, g11, g12, hc, e1, n1, n2, hd, e2, e3, e4, n3, n4, neB4, clr_nil] | refine WP_drw ?_ | refine cnd_intro (fun hsp => ?_) fun hsp => ?_)
      all_goals (first | exact fin_pl rfl rfl (by repeat' first | exact xG | exact (xG.set (by omega)) | refine Ext.app ?_) | (exfalso; omega))
end Go.AM
