/-
  Contracts: the chain with the fewest cards, and the fewest of a kind.
-/
import Derived.Test.YtppkmjfplhenmaaD8
import Derived.Test.YtppkmjfplhenmaaA6
set_option linter.unusedSimpArgs false
set_option linter.unusedVariables false
namespace Go.AM
open Go.Proofs.Try
theorem dschD9 {p : Prop} (h : p := by first | exact Nat.ne_of_beq_eq_false rfl | assumption | (apply asOne; (first | exact One.int | exact One.bool | exact newV_one | exact grV_one | exact cloneV_one | exact takF_one | assumption | exact Ints.one (by assumption) | exact slcV_one (by assumption) | exact One.lit ⟨rfl, rfl, rfl⟩)) | (apply asInts; (repeat first | assumption | (apply newV_ints' <;> first | assumption | (first | rfl | (simp only [List.length_append, List.length_cons, List.length_nil, List.length_set]; done) | (simp only [List.length_append, List.length_cons, List.length_nil, List.length_set]; omega))) | (apply grV_ints <;> first | assumption | (first | rfl | (simp only [List.length_append, List.length_cons, List.length_nil, List.length_set]; done) | (simp only [List.length_append, List.length_cons, List.length_nil, List.length_set]; omega))) | (apply Ints.slc <;> first | (repeat first | assumption | apply Ints.app); done | omega) | apply Ints.app); done) | (apply asTak; (repeat first | assumption | (refine TakAt.new ?_; (first | rfl | (simp only [List.length_append, List.length_cons, List.length_nil, List.length_set]; done) | (simp only [List.length_append, List.length_cons, List.length_nil, List.length_set]; omega))) | apply TakAt.app); done) | (apply asScal; (first | apply allS1 | apply allS2 | apply allS3 | apply allS4) <;> (first | exact One.int | exact One.bool | exact newV_one | exact grV_one | exact cloneV_one | exact takF_one | assumption | exact Ints.one (by assumption) | exact slcV_one (by assumption) | exact One.lit ⟨rfl, rfl, rfl⟩)) | exact litT rfl | exact litF rfl | omega | (simp only [List.length_append, List.length_cons, List.length_nil, lst_len, List.length_set, ints_length, List.length_reverse]; first | done | omega) | fail) : p := h

section
variable {base : Nat} {h : Heap} {v : AVal} {l : List Int}
theorem sl22h {n : Int} (h0 : 0 ≤ n) (hI : Ints h v l) (h1 : n ≤ l.length) : sliceA prog 22 v none (some (.int .i64 n)) none = some (slcV v 0 n.toNat) := sl_hi Fc.el22 Fc.ar22 h0 hI h1
theorem cl86 (hI : Ints h v l) (hne : l ≠ []) (hs : Small l) : callL prog raw base (.fn 86 [] []) [v] h = some (.slice (some ⟨h.length, 0, 0⟩) l.length l.length, h ++ [rowB l 0]) := by
  rw [run86 hI hs, cloneV, cloneH, nil_of_nilB hI hne]
  simp [newV_ne hne, newH_ne hne]
end

theorem fewest_bd {w : Int} {l : List Int} (hc : chk w l = 0) : (0 ≤ (fewestS w.toNat l).1 ∧ (fewestS w.toNat l).1 ≤ 2) ∧ (1 ≤ (fewestS w.toNat l).2.1 ∧ (fewestS w.toNat l).2.1 ≤ l.length) := by
  obtain ⟨m, j, h1, h2⟩ := fewN_some hc
  have hm := (findI_is h1).1
  have : fewestS w.toNat l = (planK j, (m : Int) + 1, planT j) := by
    unfold fewestS
    rw [h1]
    simp only [h2]
  rw [this]
  exact ⟨planK_bd, by dsimp only; omega⟩

theorem small_of {w : Int} {l : List Int} (hc : chk w l = 0) : Small l := by
  obtain ⟨hw, hp, hx⟩ := chk_ok hc
  have := pow_256 hw.1 hw.2
  exact ⟨by omega, fun x hm => by have := hx x hm; omega⟩
theorem small_take {l : List Int} {n : Nat} (h : Small l) : Small (l.take n) := ⟨by simp; have := h.1; omega, fun x hx => h.2 x (List.mem_of_mem_take hx)⟩

/-- card.Fewest: width, cards, kind, step, error. -/
def fewS (w : Int) (l : List Int) : Int × List Int × Int × Int × Int :=
  if chk w l ≠ 0 then (0, [], 0, 0, chk w l) else (w, l.take (fewestS w.toNat l).2.1.toNat, (fewestS w.toNat l).1, (fewestS w.toNat l).2.2, 0)

theorem fin_chn {h H : Heap} {w k s e w' k' s' e' : Int} (ew : w = w') (ek : k = k') (es : s = s') (ee : e = e') (hE : Ext h H) :
    compact h.length (.tuple [chn w (.slice none 0 0) k s, .int .i64 e]) H = some (.tuple [chn w' (nlV h.length []) k' s', .int .i64 e'], h ++ newH []) := by
  subst ew ek es ee
  simp only [newH, List.append_nil, nlV, if_true]
  exact fin_pl rfl rfl hE

theorem run24 {base : Nat} {h : Heap} {v : AVal} {l : List Int} {w : Int} (hI : Ints h v l) :
    callL prog raw base (.fn 24 [] []) [pap w v] h = some (.tuple [chn (fewS w l).1 (nlV h.length (fewS w l).2.1) (fewS w l).2.2.1 (fewS w l).2.2.2.1, .int .i64 (fewS w l).2.2.2.2], h ++ newH (fewS w l).2.1) := by
  refine callL_run func24 rfl rfl ?_
  by_cases hc : chk w l = 0
  · obtain ⟨hw, hp, hx⟩ := chk_ok hc
    have hs := small_of hc
    obtain ⟨hk, hn⟩ := fewest_bd hc
    have e : fewS w l = (w, l.take (fewestS w.toNat l).2.1.toNat, (fewestS w.toNat l).1, (fewestS w.toNat l).2.2, 0) := by unfold fewS; rw [if_neg (by simp [hc])]
    have hne : l.take (fewestS w.toNat l).2.1.toNat ≠ [] := by
      intro h1
      have h2 := congrArg List.length h1
      rw [List.length_take, List.length_nil] at h2
      omega
    have hcl : ∀ {base : Nat} {H : Heap}, Ints H v l → callL prog raw base (.fn 86 [] []) [slcV v 0 (fewestS w.toNat l).2.1.toNat] H = some (.slice (some ⟨H.length, 0, 0⟩) (l.take (fewestS w.toNat l).2.1.toNat).length (l.take (fewestS w.toNat l).2.1.toNat).length, H ++ [rowB (l.take (fewestS w.toNat l).2.1.toNat) 0]) := fun {base H} hI' => by
      have := Ints.slc hI' (Nat.zero_le _) (show (fewestS w.toNat l).2.1.toNat ≤ l.length by omega)
      rw [List.drop_zero] at this
      exact cl86 this hne (small_take hs)
    rw [e]
    generalize hf : fewestS w.toNat l = F at *
    obtain ⟨k, n, s⟩ := F
    dsimp only at hk hn hne hcl ⊢
    have hsp := @Nat.succ_ne_zero; repeat' (first | simp (disch := first | exact dschD9 | fail) only [go_sem, hsp, pap, pln, hc, hf, sl22h, hcl] | refine WP_drw ?_ | refine cnd_intro (fun hsp => ?_) fun hsp => ?_)

    refine fin_nw (f := fun x => .tuple [chn w x k s, .int .i64 0]) (l := l.take n.toNat) (j := 3) (fun x => by simp [AVal.refs, refsL]) (fun g x => by simp [AVal.ren, renL]) hne (.app (.app (.app (.app .refl)))) ?_ ?_ rfl
    · simp [rowB]
    · simp only [nlV, hne, if_false]
  · have e : fewS w l = (0, [], 0, 0, chk w l) := by unfold fewS; rw [if_pos hc]
    rw [e]
    have hsp := @Nat.succ_ne_zero; repeat' (first | simp (disch := first | exact dschD9 | fail) only [go_sem, hsp, pap, hc] | refine WP_drw ?_ | refine cnd_intro (fun hsp => ?_) fun hsp => ?_)
    exact fin_chn rfl rfl rfl rfl (.app (.app .refl))
attribute [go_sem] run24

/-- The least number of cards of a kind and a step. -/
def onlyN (w : Nat) (l : List Int) (k s : Nat) : Nat := match findI (fun m => !(firstS w l k (m + 1) s).2.2) l.length with | some m => m + 1 | none => l.length
/-- card.Only. -/
def onlyS (w : Int) (l : List Int) (k s : Int) : Int × Int :=
  if chk w l ≠ 0 then (0, chk w l) else if ¬ (0 ≤ k ∧ k ≤ 2) then (0, 1) else if ¬ stepOk k s w = true then (0, 3) else (((onlyN w.toNat l k.toNat s.toNat : Nat) : Int), 0)
def tup2 (x : Int × Int) : AVal := .tuple [.int .i64 x.1, .int .i64 x.2]

theorem first_all {w : Int} {l : List Int} (hc : chk w l = 0) {k s : Nat} : (firstS w.toNat l k l.length s).2.2 = false := by
  obtain ⟨hw, hp, hx⟩ := chk_ok hc
  unfold firstS
  rw [findI_none fun i hi => off_small hi (hx _ (getD_mem hi))]

theorem run25 {base : Nat} {h : Heap} {v : AVal} {l : List Int} {w k s : Int} (hI : Ints h v l) :
    callL prog raw base (.fn 25 [] []) [pap w v, .int .i64 k, .int .i64 s] h = some (tup2 (onlyS w l k s), h) := by
  refine callL_run func25 rfl rfl ?_
  by_cases hc : chk w l = 0
  · obtain ⟨hw, hp, hx⟩ := chk_ok hc
    by_cases hk : 0 ≤ k ∧ k ≤ 2
    · by_cases hst : stepOk k s w = true
      · have hs : 0 ≤ s ∧ s ≤ 1000 := by
          have h5 := hst
          unfold stepOk at h5
          split at h5 <;> simp at h5 <;> omega
        have e : onlyS w l k s = (((onlyN w.toNat l k.toNat s.toNat : Nat) : Int), 0) := by unfold onlyS; rw [if_neg (by simp [hc]), if_neg (by simp [hk]), if_neg (by simp [hst])]
        rw [e]
        have hsp := @Nat.succ_ne_zero; repeat' (first | simp (disch := first | exact dschD9 | fail) only [go_sem, hsp, pap, pln, hc, hk, hst] | refine WP_drw ?_ | refine cnd_intro (fun hsp => ?_) fun hsp => ?_)
        refine WP_loop (fun σ => ∃ i : Nat, i < l.length ∧ σ.fr 10 = .int .i64 ((i : Int) + 1) ∧ σ.fr 1 = .int .i64 k ∧ σ.fr 2 = .int .i64 s ∧ σ.fr 3 = .ptr (some ⟨h.length, 0, 0⟩) ∧ σ.h = h ++ [⟨.cells [.int .i64 w, v] 24 false false, 0⟩] ++ [⟨.cells [.int .i64 k, .int .i64 1, .int .i64 s] 124 false false, 0⟩] ∧
          ∀ j, j < i → (firstS w.toNat l k.toNat (j + 1) s.toNat).2.2 = true) (fun σ => match σ.fr 10 with | .int _ x => (l.length - x).toNat | _ => 0) ?_ ?_
        · refine ⟨0, by omega, by (first | (simp (disch := first | exact dschD9 | fail) only [go_sem]; done) | (simp (disch := first | exact dschD9 | fail) only [go_sem]; rfl)), by simp (disch := first | exact dschD9 | fail) only [go_sem], by simp (disch := first | exact dschD9 | fail) only [go_sem], by simp (disch := first | exact dschD9 | fail) only [go_sem], rfl, fun j hj => by omega⟩
        · rintro ⟨fr, H⟩ ⟨i, hi, r10, r1, r2, r3, rh, hno⟩
          dsimp only at r10 r1 r2 r3 rh
          subst rh
          have e1 : ((i : Int) + 1).toNat = i + 1 := by omega
          have hsp := @Nat.succ_ne_zero; repeat' (first | simp (disch := first | exact dschD9 | fail) only [go_sem, hsp, r10, r1, r2, r3, pln, hc, e1] | refine WP_drw ?_ | refine cnd_intro (fun hsp => ?_) fun hsp => ?_)
          · have e2 : onlyN w.toNat l k.toNat s.toNat = i + 1 := by
              unfold onlyN
              rw [findI_some (t := i) hi (by rw [hsp]; rfl) (fun j hj => by simp [hno j hj])]
            unfold tup2
            rw [e2]
            all_goals (first | refine fI ?_ | refine fB ?_ | refine fII ?_ ?_ | refine fBI ?_ ?_ | refine fIII ?_ ?_ ?_ | refine fIIB ?_ ?_ ?_ | skip); all_goals (try dsimp only); all_goals (try with_reducible rfl); all_goals (try omega)
          · have hl : i + 1 < l.length := by
              by_cases hl : i + 1 < l.length
              · exact hl
              · exfalso
                have := first_all hc (k := k.toNat) (s := s.toNat)
                rw [show l.length = i + 1 by omega] at this
                exact hsp this
            refine ⟨⟨i + 1, hl, by omega, fun j hj => ?_⟩, by omega⟩
            by_cases x1 : j = i
            · subst x1; simpa using hsp
            · exact hno j (by omega)
      · have e : onlyS w l k s = (0, 3) := by unfold onlyS; rw [if_neg (by simp [hc]), if_neg (by simp [hk]), if_pos hst]
        rw [e]
        unfold tup2
        have hsp := @Nat.succ_ne_zero; repeat' (first | simp (disch := first | exact dschD9 | fail) only [go_sem, hsp, pap, pln, hc, hk, hst] | refine WP_drw ?_ | refine cnd_intro (fun hsp => ?_) fun hsp => ?_)
        all_goals (first | refine fI ?_ | refine fB ?_ | refine fII ?_ ?_ | refine fBI ?_ ?_ | refine fIII ?_ ?_ ?_ | refine fIIB ?_ ?_ ?_ | skip); all_goals (try dsimp only); all_goals (try with_reducible rfl); all_goals (try omega)
    · have e : onlyS w l k s = (0, 1) := by unfold onlyS; rw [if_neg (by simp [hc]), if_pos hk]
      rw [e]
      unfold tup2
      have hsp := @Nat.succ_ne_zero; repeat' (first | simp (disch := first | exact dschD9 | fail) only [go_sem, hsp, pap, pln, hc, hk] | refine WP_drw ?_ | refine cnd_intro (fun hsp => ?_) fun hsp => ?_)
      all_goals (first | refine fI ?_ | refine fB ?_ | refine fII ?_ ?_ | refine fBI ?_ ?_ | refine fIII ?_ ?_ ?_ | refine fIIB ?_ ?_ ?_ | skip); all_goals (try dsimp only); all_goals (try with_reducible rfl); all_goals (try omega)
  · have e : onlyS w l k s = (0, chk w l) := by unfold onlyS; rw [if_pos hc]
    rw [e]
    unfold tup2
    have hsp := @Nat.succ_ne_zero; repeat' (first | simp (disch := first | exact dschD9 | fail) only [go_sem, hsp, pap, pln, hc] | refine WP_drw ?_ | refine cnd_intro (fun hsp => ?_) fun hsp => ?_)
    all_goals (first | refine fI ?_ | refine fB ?_ | refine fII ?_ ?_ | refine fBI ?_ ?_ | refine fIII ?_ ?_ ?_ | refine fIIB ?_ ?_ ?_ | skip); all_goals (try dsimp only); all_goals (try with_reducible rfl); all_goals (try omega)
attribute [go_sem] run25
end Go.AM
