/-
  Contracts: a chain out of a spool.
-/
import Derived.Test.YtppkmjfplhenmaaS4
import Derived.Test.YtppkmjfplhenmaaA7
set_option linter.unusedSimpArgs false
set_option linter.unusedVariables false
namespace Go.AM
open Go.Proofs.Try
theorem dschS5 {p : Prop} (h : p := by first | exact Nat.ne_of_beq_eq_false rfl | assumption | (apply asOne; (first | exact One.int | exact One.bool | exact newV_one | exact grV_one | exact cloneV_one | exact takF_one | assumption | exact Ints.one (by assumption) | exact slcV_one (by assumption) | exact Bytes.one (by assumption) | exact One.lit ⟨rfl, rfl, rfl⟩)) | (apply asSp; (repeat first | assumption | apply SpAt.set | (refine SpAt.new ?_ (by (first | rfl | (simp only [List.length_append, List.length_cons, List.length_nil, List.length_set]; done) | (simp only [List.length_append, List.length_cons, List.length_nil, List.length_set]; omega)))) | apply SpAt.app | apply Bytes.app); done) | (apply asBytes; (repeat first | assumption | apply Bytes.app); done) | (apply asInts; (repeat first | assumption | (apply newV_ints' <;> first | assumption | (first | rfl | (simp only [List.length_append, List.length_cons, List.length_nil, List.length_set]; done) | (simp only [List.length_append, List.length_cons, List.length_nil, List.length_set]; omega))) | (apply grV_ints <;> first | assumption | (first | rfl | (simp only [List.length_append, List.length_cons, List.length_nil, List.length_set]; done) | (simp only [List.length_append, List.length_cons, List.length_nil, List.length_set]; omega))) | (apply Ints.slc <;> first | (repeat first | assumption | apply Ints.app); done | omega) | apply Ints.app); done) | (apply asTak; (repeat first | assumption | (refine TakAt.new ?_; (first | rfl | (simp only [List.length_append, List.length_cons, List.length_nil, List.length_set]; done) | (simp only [List.length_append, List.length_cons, List.length_nil, List.length_set]; omega))) | apply TakAt.app); done) | (apply asScal; (first | apply allS1 | apply allS2 | apply allS3 | apply allS4) <;> (first | exact One.int | exact One.bool | exact newV_one | exact grV_one | exact cloneV_one | exact takF_one | assumption | exact Ints.one (by assumption) | exact slcV_one (by assumption) | exact Bytes.one (by assumption) | exact One.lit ⟨rfl, rfl, rfl⟩)) | exact litT rfl | exact litF rfl | omega | (simp only [List.length_append, List.length_cons, List.length_nil, lst_len, List.length_set, ints_length, List.length_reverse]; first | done | omega) | fail) : p := h
attribute [-go_sem] put_ne put_same
attribute [local go_sem ↓] put_if
theorem st36 {base : Nat} {l : List Oper} {s : St} {Q : AExit → St → Prop} : WP prog raw base (.region 7 l.toArray true) s Q = WPS prog raw base (.region 7 l.toArray true) s Q := WP_stop
attribute [local go_sem ↓ 3000] st36

def mcK (silk : List Int) (k : Nat) : Int := up silk (k + 1) 2
def mcW (silk : List Int) (k : Nat) (width : Int) : Int := if mcK silk k = 2 then max 2 (1 + up silk k (width - 1)) else 1 + up silk k (width - 1)
def mcS (silk : List Int) (k : Nat) (width : Int) : Int := if mcK silk k = 2 then 1 + up silk (k + 2) (mcW silk k width - 1 - 1) else 0
def mcJ (silk : List Int) (k : Nat) : Nat := if mcK silk k = 2 then k + 3 else k + 2
def mcN (silk : List Int) (k : Nat) (cards : Int) : Nat := (1 + up silk (mcJ silk k) (cards - 1)).toNat
def mcF (silk : List Int) (k : Nat) (width : Int) (i : Nat) : Int := up silk (mcJ silk k + 1 + i) (2 ^ (mcW silk k width).toNat - 1)
def mcL (silk : List Int) (k : Nat) (width cards : Int) : List Int := lst (mcF silk k width) (mcN silk k cards)

theorem mc_bd {silk : List Int} {k : Nat} {width : Int} (hw : 1 ≤ width ∧ width ≤ 8) : (0 ≤ mcK silk k ∧ mcK silk k ≤ 2) ∧ (1 ≤ mcW silk k width ∧ mcW silk k width ≤ max 2 width) ∧ stepOk (mcK silk k) (mcS silk k width) (mcW silk k width) = true := by
  have h1 := up_bd (silk := silk) (k := k + 1) (n := 2) (by omega)
  have h2 := up_bd (silk := silk) (k := k) (n := width - 1) (by omega)
  have h3 : 1 ≤ mcW silk k width ∧ mcW silk k width ≤ max 2 width := by
    unfold mcW; split <;> omega
  refine ⟨⟨h1.1, h1.2.1⟩, h3, ?_⟩
  unfold stepOk mcS
  split
  · rename_i e
    have h4 : 2 ≤ mcW silk k width := by unfold mcW; rw [if_pos e]; omega
    have h5 := up_bd (silk := silk) (k := k + 2) (n := mcW silk k width - 1 - 1) (by omega)
    exact decide_eq_true (by omega)
  · exact decide_eq_true rfl
theorem mcN_bd {silk : List Int} {k : Nat} {cards : Int} (hc : 1 ≤ cards) : 1 ≤ mcN silk k cards ∧ (mcN silk k cards : Int) ≤ cards := by
  have h1 := up_bd (silk := silk) (k := mcJ silk k) (n := cards - 1) (by omega)
  unfold mcN
  omega
theorem mcF_bd {silk : List Int} {k : Nat} {width : Int} (i : Nat) : 0 ≤ mcF silk k width i ∧ mcF silk k width i ≤ 2 ^ (mcW silk k width).toNat - 1 := by
  have h0 : (2 : Int) ^ (mcW silk k width).toNat = ((2 ^ (mcW silk k width).toNat : Nat) : Int) := by simp
  have h1 := Nat.two_pow_pos (mcW silk k width).toNat
  have := up_bd (silk := silk) (k := mcJ silk k + 1 + i) (n := 2 ^ (mcW silk k width).toNat - 1) (by omega)
  unfold mcF
  omega
theorem mc_ok {silk : List Int} {k : Nat} {width cards : Int} (hw : 1 ≤ width ∧ width ≤ 8) (hc : 1 ≤ cards ∧ cards ≤ 48) : chkC (mcW silk k width) (mcL silk k width cards) (mcK silk k) (mcS silk k width) = 0 := by
  obtain ⟨h1, h2, h3⟩ := mc_bd (silk := silk) (k := k) hw
  have h4 := mcN_bd (silk := silk) (k := k) hc.1
  refine chkC_of (by omega) (by unfold mcL; rw [lst_len]; omega) h1 (fun x hx => ?_) h3
  obtain ⟨i, _, rfl⟩ := List.mem_map.1 hx
  exact mcF_bd i

theorem run36 {base id k : Nat} {h : Heap} {v : AVal} {silk : List Int} {width cards : Int} (hS : SpAt h id v silk k) (hk : k ≤ 1000) (hw : 1 ≤ width ∧ width ≤ 8) (hc : 1 ≤ cards ∧ cards ≤ 48) :
    callL prog raw base (.fn 36 [] []) [.ptr (some ⟨id, 0, 0⟩), .int .i64 width, .int .i64 cards] h =
      some (chn (mcW silk k width) (newV h.length (mcL silk k width cards)) (mcK silk k) (mcS silk k width), h.set id (spB v silk (mcJ silk k + 1 + mcN silk k cards)) ++ newH (mcL silk k width cards)) := by
  obtain ⟨h1, h2, h3⟩ := mc_bd (silk := silk) (k := k) hw
  have h4 := mcN_bd (silk := silk) (k := k) hc.1
  have hid := lt_of_get hS.1
  have hSs : ∀ {m : Nat}, SpAt (h.set id (spB v silk m)) id v silk m := fun {m} => hS.set
  have u1 := up_bd (silk := silk) (k := k) (n := width - 1) (by omega)
  have u2 := up_bd (silk := silk) (k := mcJ silk k) (n := cards - 1) (by omega)
  have hne : mcL silk k width cards ≠ [] := by
    intro e
    have := congrArg List.length e
    unfold mcL at this
    rw [lst_len, List.length_nil] at this
    omega
  have hw8 : (1 : Int) ≤ mcW silk k width ∧ mcW silk k width ≤ 8 := by omega
  have hpw := pow_256 hw8.1 hw8.2
  have hp0 : (2 : Int) ^ (mcW silk k width).toNat = ((2 ^ (mcW silk k width).toNat : Nat) : Int) := by simp
  have hp1 := Nat.two_pow_pos (mcW silk k width).toNat
  have hshl : ∀ {t : TypeId}, binA prog .shl t (.int .i64 1) (.int .i64 (mcW silk k width)) = some (.int .i64 (2 ^ (mcW silk k width).toNat)) := fun {t} => by
    rw [bin_shl (by omega)]
    have : min (mcW silk k width).toNat IntKind.i64.bits = (mcW silk k width).toNat := by simp [IntKind.bits]; omega
    rw [this, Int.one_mul, wrap64 (by omega) (by omega)]
  refine callL_run func36 rfl rfl ?_
  by_cases hkd : mcK silk k = 2
  · have q1 : (mcK silk k = 2) = True := eq_true hkd
    have eK : up silk (k + 1) 2 = mcK silk k := rfl
    have eW : max 2 (1 + up silk k (width - 1)) = mcW silk k width := by unfold mcW; rw [if_pos hkd]
    have eS : 1 + up silk (k + 2) (mcW silk k width - 1 - 1) = mcS silk k width := by unfold mcS; rw [if_pos hkd]
    have eS' : 1 + up silk (k + 1 + 1) (mcW silk k width - 1 - 1) = mcS silk k width := eS
    have eJ : mcJ silk k = k + 1 + 1 + 1 := by unfold mcJ; rw [if_pos hkd]
    have eN : 1 + up silk (k + 1 + 1 + 1) (cards - 1) = ((mcN silk k cards : Nat) : Int) := by unfold mcN; rw [eJ] at u2 ⊢; omega
    have hsp := @Nat.succ_ne_zero; repeat' (first | simp (disch := first | exact dschS5 | fail) only [go_sem, ↓reduceIte, hsp, chn, run71, run72, q1, eK, eW, eS', eN] | refine WP_drw ?_ | refine cnd_intro (fun hsp => ?_) fun hsp => ?_)
    refine WP_count [(30, 43)] 0 (mcN silk k cards) (Nat.zero_le _) (fun H i fr h' => fr 30 = .int .i64 (i : Int) ∧ h' = h.set id (spB v silk (mcJ silk k + 1 + i)) ++ [⟨.cells [.int .i64 0, .slice none 0 0, .int .i64 0, .int .i64 0] 34 false false, 0⟩] ++ [⟨.cells [.int .i64 (mcW silk k width), grV (h.length + 1 + 1) (lst (mcF silk k width) i), .int .i64 (mcK silk k), .int .i64 (mcS silk k width)] 34 false false, 0⟩] ++ grH (lst (mcF silk k width) i)) ?_ ?_ ?_
    · refine ⟨by (simp (disch := first | exact dschS5 | fail) only [go_sem, ↓reduceIte, Int.natCast_zero]; first | done | rfl), ?_⟩
      simp only [lst_zero, grV_nil, grH_nil, List.append_nil, eJ, Nat.add_zero]
      try rfl
    · rintro i fr H hi0 hi hA ⟨r30, rfl⟩
      have pposa0 := hA 0 rfl
      have pposa7 := hA 7 rfl
      have pposa29 := hA 29 rfl
      try simp (disch := first | exact dschS5 | fail) only [go_sem, ↓reduceIte] at pposa0 pposa7 pposa29
      have hlt : ((i : Int) < (mcN silk k cards : Nat)) = True := eq_true (by omega)
      have htl : (lst (mcF silk k width) i).length < 1073741824 := by rw [lst_len]; omega
      have eF : up silk (mcJ silk k + 1 + i) (2 ^ (mcW silk k width).toNat - 1) = mcF silk k width i := rfl
      have hjk : mcJ silk k + 1 + i ≤ 1000000 := by rw [eJ]; omega
      have hsp := @Nat.succ_ne_zero; repeat' (first | simp (disch := first | exact dschS5 | fail) only [go_sem, ↓reduceIte, hsp, r30, pposa0, pposa7, pposa29, hlt] | refine WP_drw ?_ | refine cnd_intro (fun hsp => ?_) fun hsp => ?_)
      refine WPS_go ?_
      refine WP_wild [⟨1, 22, 32, ⟨h.length + 1, 0, 1⟩, grV (h.length + 1 + 1) (lst (mcF silk k width) i), 9⟩] (by kernel_rfl) (by kernel_rfl) (by kernel_rfl) ⟨refsLow_grV (by simp only [List.length_append, List.length_cons, List.length_nil, List.length_set]; omega), trivial⟩ fun K hK => ?_
      iterate 12
        rw [TRS_cons]
        refine ⟨by first | (simp (disch := first | exact dschS5 | fail) only [go_sem, ↓reduceIte, run71, r30, pposa0, pposa7, pposa29, hshl, eF, ldsQ_cons, ldsQ_nil, if_true, Nat.reduceLeDiff]; done) | exact trivial, ?_⟩
        simp (disch := first | exact dschS5 | fail) only [go_sem, ↓reduceIte, run71, r30, pposa0, pposa7, pposa29, hshl, eF]
      rw [TRS_nil]
      refine ⟨by first | (simp (disch := first | exact dschS5 | fail) only [go_sem, ↓reduceIte, run71, r30, pposa0, pposa7, pposa29, hshl, eF, ldsQ_cons, ldsQ_nil, if_true, Nat.reduceLeDiff]; done) | exact trivial, ?_⟩
      subst hK
      have hsp := @Nat.succ_ne_zero; repeat' (first | simp (disch := first | exact dschS5 | fail) only [go_sem, ↓reduceIte, hsp, run71, r30, pposa0, pposa7, pposa29, hlt, hshl, eF] | refine WP_drw ?_ | refine cnd_intro (fun hsp => ?_) fun hsp => ?_)
      refine ⟨by (repeat first | exact Agree.refl | assumption | refine Agree.put rfl ?_ | refine Agree.put0 ?_ | refine Agree.sub rfl (by assumption) ?_), ?_⟩
      rw [lst_succ]
      first | exact ⟨by omega, rfl⟩ | rfl
    · rintro fr H hA ⟨r30, rfl⟩
      have pposb0 := hA 0 rfl
      have pposb6 := hA 6 rfl
      have pposb7 := hA 7 rfl
      have pposb29 := hA 29 rfl
      try simp (disch := first | exact dschS5 | fail) only [go_sem, ↓reduceIte] at pposb0 pposb6 pposb7 pposb29
      have hlt : (((mcN silk k cards : Nat) : Int) < (mcN silk k cards : Nat)) = False := eq_false (by omega)
      have hsp := @Nat.succ_ne_zero; repeat' (first | simp (disch := first | exact dschS5 | fail) only [go_sem, ↓reduceIte, hsp, r30, pposb0, pposb6, pposb7, pposb29, hlt] | refine WP_drw ?_ | refine cnd_intro (fun hsp => ?_) fun hsp => ?_)
      obtain ⟨h1, eh1⟩ : ∃ h1, h1 = h.set id (spB v silk (mcJ silk k + 1 + mcN silk k cards)) := ⟨_, rfl⟩
      have el : h1.length = h.length := by rw [eh1]; simp
      rw [← eh1, ← el]
      exact fin_gr (f := fun x => chn (mcW silk k width) x (mcK silk k) (mcS silk k width)) (l := mcL silk k width cards) (j := 2) (fun x => by simp [AVal.refs, refsL]) (fun n => rfl) (fun g x => by simp [AVal.ren, renL]) rfl (by simp) (.app (.app .refl)) (by rw [if_neg hne]) rfl
  · have q1 : (mcK silk k = 2) = False := eq_false hkd
    have eK : up silk (k + 1) 2 = mcK silk k := rfl
    have eW : 1 + up silk k (width - 1) = mcW silk k width := by unfold mcW; rw [if_neg hkd]
    have eS : mcS silk k width = 0 := by unfold mcS; rw [if_neg hkd]
    rw [eS]
    have eJ : mcJ silk k = k + 1 + 1 := by unfold mcJ; rw [if_neg hkd]
    have eN : 1 + up silk (k + 1 + 1) (cards - 1) = ((mcN silk k cards : Nat) : Int) := by unfold mcN; rw [eJ] at u2 ⊢; omega
    have hsp := @Nat.succ_ne_zero; repeat' (first | simp (disch := first | exact dschS5 | fail) only [go_sem, ↓reduceIte, hsp, chn, run71, run72, q1, eK, eW, eN] | refine WP_drw ?_ | refine cnd_intro (fun hsp => ?_) fun hsp => ?_)
    refine WP_count [(30, 43)] 0 (mcN silk k cards) (Nat.zero_le _) (fun H i fr h' => fr 30 = .int .i64 (i : Int) ∧ h' = h.set id (spB v silk (mcJ silk k + 1 + i)) ++ [⟨.cells [.int .i64 0, .slice none 0 0, .int .i64 0, .int .i64 0] 34 false false, 0⟩] ++ [⟨.cells [.int .i64 (mcW silk k width), grV (h.length + 1 + 1) (lst (mcF silk k width) i), .int .i64 (mcK silk k), .int .i64 0] 34 false false, 0⟩] ++ grH (lst (mcF silk k width) i)) ?_ ?_ ?_
    · refine ⟨by (simp (disch := first | exact dschS5 | fail) only [go_sem, ↓reduceIte, Int.natCast_zero]; first | done | rfl), ?_⟩
      simp only [lst_zero, grV_nil, grH_nil, List.append_nil, eJ, Nat.add_zero]
      try rfl
    · rintro i fr H hi0 hi hA ⟨r30, rfl⟩
      have pnega0 := hA 0 rfl
      have pnega7 := hA 7 rfl
      have pnega29 := hA 29 rfl
      try simp (disch := first | exact dschS5 | fail) only [go_sem, ↓reduceIte] at pnega0 pnega7 pnega29
      have hlt : ((i : Int) < (mcN silk k cards : Nat)) = True := eq_true (by omega)
      have htl : (lst (mcF silk k width) i).length < 1073741824 := by rw [lst_len]; omega
      have eF : up silk (mcJ silk k + 1 + i) (2 ^ (mcW silk k width).toNat - 1) = mcF silk k width i := rfl
      have hjk : mcJ silk k + 1 + i ≤ 1000000 := by rw [eJ]; omega
      have hsp := @Nat.succ_ne_zero; repeat' (first | simp (disch := first | exact dschS5 | fail) only [go_sem, ↓reduceIte, hsp, r30, pnega0, pnega7, pnega29, hlt] | refine WP_drw ?_ | refine cnd_intro (fun hsp => ?_) fun hsp => ?_)
      refine WPS_go ?_
      refine WP_wild [⟨1, 22, 32, ⟨h.length + 1, 0, 1⟩, grV (h.length + 1 + 1) (lst (mcF silk k width) i), 9⟩] (by kernel_rfl) (by kernel_rfl) (by kernel_rfl) ⟨refsLow_grV (by simp only [List.length_append, List.length_cons, List.length_nil, List.length_set]; omega), trivial⟩ fun K hK => ?_
      iterate 12
        rw [TRS_cons]
        refine ⟨by first | (simp (disch := first | exact dschS5 | fail) only [go_sem, ↓reduceIte, run71, r30, pnega0, pnega7, pnega29, hshl, eF, ldsQ_cons, ldsQ_nil, if_true, Nat.reduceLeDiff]; done) | exact trivial, ?_⟩
        simp (disch := first | exact dschS5 | fail) only [go_sem, ↓reduceIte, run71, r30, pnega0, pnega7, pnega29, hshl, eF]
      rw [TRS_nil]
      refine ⟨by first | (simp (disch := first | exact dschS5 | fail) only [go_sem, ↓reduceIte, run71, r30, pnega0, pnega7, pnega29, hshl, eF, ldsQ_cons, ldsQ_nil, if_true, Nat.reduceLeDiff]; done) | exact trivial, ?_⟩
      subst hK
      have hsp := @Nat.succ_ne_zero; repeat' (first | simp (disch := first | exact dschS5 | fail) only [go_sem, ↓reduceIte, hsp, run71, r30, pnega0, pnega7, pnega29, hlt, hshl, eF] | refine WP_drw ?_ | refine cnd_intro (fun hsp => ?_) fun hsp => ?_)
      refine ⟨by (repeat first | exact Agree.refl | assumption | refine Agree.put rfl ?_ | refine Agree.put0 ?_ | refine Agree.sub rfl (by assumption) ?_), ?_⟩
      rw [lst_succ]
      first | exact ⟨by omega, rfl⟩ | rfl
    · rintro fr H hA ⟨r30, rfl⟩
      have pnegb0 := hA 0 rfl
      have pnegb6 := hA 6 rfl
      have pnegb7 := hA 7 rfl
      have pnegb29 := hA 29 rfl
      try simp (disch := first | exact dschS5 | fail) only [go_sem, ↓reduceIte] at pnegb0 pnegb6 pnegb7 pnegb29
      have hlt : (((mcN silk k cards : Nat) : Int) < (mcN silk k cards : Nat)) = False := eq_false (by omega)
      have hsp := @Nat.succ_ne_zero; repeat' (first | simp (disch := first | exact dschS5 | fail) only [go_sem, ↓reduceIte, hsp, r30, pnegb0, pnegb6, pnegb7, pnegb29, hlt] | refine WP_drw ?_ | refine cnd_intro (fun hsp => ?_) fun hsp => ?_)
      obtain ⟨h1, eh1⟩ : ∃ h1, h1 = h.set id (spB v silk (mcJ silk k + 1 + mcN silk k cards)) := ⟨_, rfl⟩
      have el : h1.length = h.length := by rw [eh1]; simp
      rw [← eh1, ← el]
      exact fin_gr (f := fun x => chn (mcW silk k width) x (mcK silk k) 0) (l := mcL silk k width cards) (j := 2) (fun x => by simp [AVal.refs, refsL]) (fun n => rfl) (fun g x => by simp [AVal.ren, renL]) rfl (by simp) (.app (.app .refl)) (by rw [if_neg hne]) rfl
end Go.AM
