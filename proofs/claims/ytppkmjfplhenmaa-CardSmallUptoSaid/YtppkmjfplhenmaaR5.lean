/-
  Contracts of the reference: changed squares, the best one.
-/
import Derived.Test.YtppkmjfplhenmaaR4
import Derived.Test.YtppkmjfplhenmaaD18
import Derived.Test.YtppkmjfplhenmaaA7
set_option linter.unusedSimpArgs false
set_option linter.unusedVariables false
namespace Go.AM
open Go.Proofs.Try
theorem dschR5 {p : Prop} (h : p := by first | exact Nat.ne_of_beq_eq_false rfl | assumption | (apply asOne; (first | exact One.int | exact One.bool | exact newV_one | exact grV_one | exact cloneV_one | exact takF_one | assumption | exact Ints.one (by assumption) | exact One.lit ⟨rfl, rfl, rfl⟩)) | (apply asInts; (repeat first | assumption | (apply newV_ints' <;> first | assumption | (first | rfl | (simp only [List.length_append, List.length_cons, List.length_nil, List.length_set]; done) | (simp only [List.length_append, List.length_cons, List.length_nil, List.length_set]; omega))) | (apply grV_ints <;> first | assumption | (first | rfl | (simp only [List.length_append, List.length_cons, List.length_nil, List.length_set]; done) | (simp only [List.length_append, List.length_cons, List.length_nil, List.length_set]; omega))) | apply Ints.app); done) | (apply asScal; (first | apply allS1 | apply allS2 | apply allS3 | apply allS4) <;> (first | exact One.int | exact One.bool | exact newV_one | exact grV_one | exact cloneV_one | exact takF_one | assumption | exact Ints.one (by assumption) | exact One.lit ⟨rfl, rfl, rfl⟩)) | exact litT rfl | exact litF rfl | omega | (simp only [List.length_append, List.length_cons, List.length_nil, lst_len, List.length_set, ints_length, List.length_reverse]; first | done | omega) | fail) : p := h

def xorChk : Bool := (List.range 256).all fun x => (List.range 8).all fun k => (x ^^^ 2 ^ k) == (if x / 2 ^ k % 2 = 1 then x - 2 ^ k else x + 2 ^ k)
theorem xorChk_ok : xorChk = true := by kernel_rfl
theorem xor_add {x k : Nat} (hx : x < 256) (hk : k < 8) : x ^^^ 2 ^ k = if x / 2 ^ k % 2 = 1 then x - 2 ^ k else x + 2 ^ k := by
  have h := xorChk_ok
  unfold xorChk at h
  have h1 := List.all_eq_true.1 h x (List.mem_range.2 hx)
  have h2 := List.all_eq_true.1 h1 k (List.mem_range.2 hk)
  exact eq_of_beq h2
theorem bit_le {x k : Nat} (h : x / 2 ^ k % 2 = 1) : 2 ^ k ≤ x := by
  by_cases hh : 2 ^ k ≤ x
  · exact hh
  · rw [Nat.div_eq_of_lt (by omega)] at h
    cases h

set_option maxHeartbeats 1000000 in
theorem run62 {base : Nat} {h : Heap} {v : AVal} {l : List Int} {w t k : Int} (hI : Ints h v l) (hc : sqr w l t k = 0) :
    callL prog raw base (.fn 62 [] []) [pap w v, .int .i64 t, .int .i64 k] h = some (pap w (newV h.length (chgL l t.toNat k.toNat)), h ++ newH (chgL l t.toNat k.toNat)) := by
  obtain ⟨h1, h2, h3⟩ := sqr_ok hc
  obtain ⟨hw, hp, hx⟩ := chk_ok h1
  have hne : l ≠ [] := by rintro rfl; simp at hp
  have hne' : chgL l t.toNat k.toNat ≠ [] := by
    intro e
    have := congrArg List.length e
    rw [chgL_len, List.length_nil] at this
    omega
  have h0 := hx _ (getD_mem (l := l) (i := t.toNat) (by omega))
  have h256 := pow_256 hw.1 hw.2
  have hk2 : 2 ^ k.toNat ≤ 2 ^ 7 := Nat.pow_le_pow_right (by decide) (by omega)
  have hk3 : 0 < 2 ^ k.toNat := Nat.pow_pos (by decide)
  have hl0 : 0 < l.length := by omega
  have hl1 : l.length < 1073741824 := by omega
  have hk : (2 : Int) ^ k.toNat = ((2 ^ k.toNat : Nat) : Int) := by simp
  obtain ⟨x, ex⟩ : ∃ x : Nat, l.getD t.toNat 0 = (x : Int) := ⟨(l.getD t.toNat 0).toNat, by omega⟩
  obtain ⟨b, eb⟩ : ∃ b : Nat, 2 ^ k.toNat = b := ⟨_, rfl⟩
  rw [eb] at hk2 hk3 hk
  have e84 : ∀ {base : Nat} {H : Heap}, callL prog raw base (.fn 84 [] []) [.int .i64 k] H = some (.int .i64 (b : Int), H) := fun {base H} => by rw [run84 (by omega) (by omega), hk]
  have ae : ∀ {base : Nat} {H : Heap}, Ints H v l → appendA prog base H 22 .emp v = some (.slice (some ⟨H.length, 0, 0⟩) l.length l.length, H ++ [rowB l 0]) := fun {base H} hI' => by
    rw [append_emp hI' (by omega) Fc.el22, newV_ne hne, newH_ne hne]
  have be : ∀ {lit : Bool} {H : Heap}, bsA prog lit H 22 0 [] = some (.emp, H) := fun {lit H} => bs_emp Fc.el22
  have hxb : x / b ≤ x := Nat.div_le_self _ _
  have hq : binA prog .quo 3 (.int .i64 (x : Int)) (.int .i64 (b : Int)) = some (.int .i64 ((x / b : Nat) : Int)) := by
    rw [bin_quo (by omega), tdivN]
    generalize x / b = q at hxb
    exact congrArg (fun z => some (AVal.int .i64 z)) (wrap64 (by omega) (by omega))
  have hq2 : binA prog .rem 3 (.int .i64 ((x / b : Nat) : Int)) (.int .i64 2) = some (.int .i64 ((x / b % 2 : Nat) : Int)) := by
    rw [bin_rem (by omega)]
    rfl
  obtain ⟨q, eq⟩ : ∃ q : Nat, x / b = q := ⟨_, rfl⟩
  rw [eq] at hq hq2 hxb
  obtain ⟨m, em⟩ : ∃ m : Nat, q % 2 = m := ⟨_, rfl⟩
  rw [em] at hq2
  refine callL_run func62 rfl rfl ?_
  simp (disch := first | exact dschR5 | fail) only [go_sem, pap, Fc.as22, Fc.ln22, e84, ae, be, ex, hq, hq2]
  refine WP_loose [⟨1, 3, 9, ⟨h.length, 0, 0⟩, .int .i64 w, 100⟩] (by kernel_rfl) (by kernel_rfl) ⟨rfl, trivial⟩ fun K hK => ?_
  iterate 9
    rw [TRS_cons]
    refine ⟨by first | (simp (disch := first | exact dschR5 | fail) only [go_sem, pap, Fc.as22, Fc.ln22, e84, ae, be, ex, hq, hq2, ldsQ_cons, ldsQ_nil, if_true, Nat.reduceLeDiff]; done) | exact trivial, ?_⟩
    simp (disch := first | exact dschR5 | fail) only [go_sem, pap, Fc.as22, Fc.ln22, e84, ae, be, ex, hq, hq2]
  rw [TRS_nil]
  refine ⟨by first | (simp (disch := first | exact dschR5 | fail) only [go_sem, pap, Fc.as22, Fc.ln22, e84, ae, be, ex, hq, hq2, ldsQ_cons, ldsQ_nil, if_true, Nat.reduceLeDiff]; done) | exact trivial, ?_⟩
  subst hK
  have hsp := @Nat.succ_ne_zero; repeat' (first | simp (disch := first | exact dschR5 | fail) only [go_sem, hsp, pap, Fc.as22, Fc.ln22, e84, ae, be, ex, hq, hq2] | refine WP_drw ?_ | refine cnd_intro (fun hsp => ?_) fun hsp => ?_)
  all_goals have em1 : (((m : Nat) : Int) = 1) = (m = 1) := propext (by omega)
  all_goals have hxx := xor_add (x := x) (k := k.toNat) (by omega) (by omega)
  all_goals rw [eb, eq, em] at hxx
  all_goals have hch : chgL l t.toNat k.toNat = l.set t.toNat ((x ^^^ b : Nat) : Int) := by unfold chgL; rw [ex, Int.toNat_natCast, eb]
  · have hm1 : m = 1 := by omega
    have hle := bit_le (x := x) (k := k.toNat) (by rw [eb, eq, em]; exact hm1)
    rw [eb] at hle
    rw [if_pos hm1] at hxx
    have e1 : l.set t.toNat ((x : Int) + (0 - (b : Int))) = chgL l t.toNat k.toNat := by rw [hch, hxx]; congr 1; omega
    rw [e1, show l.length = (chgL l t.toNat k.toNat).length from chgL_len.symm]
    refine fin_nw (f := fun x => pap w x) (l := chgL l t.toNat k.toNat) (j := 2) (fun x => by simp [AVal.refs, refsL]) (fun g x => by simp [AVal.ren, renL]) hne' (.app (.app (.app (.app .refl)))) ?_ rfl rfl
    simp
  · have hm1 : ¬ m = 1 := by omega
    rw [if_neg hm1] at hxx
    have e1 : l.set t.toNat ((x : Int) + (b : Int)) = chgL l t.toNat k.toNat := by rw [hch, hxx]; congr 1
    rw [e1, show l.length = (chgL l t.toNat k.toNat).length from chgL_len.symm]
    refine fin_nw (f := fun x => pap w x) (l := chgL l t.toNat k.toNat) (j := 2) (fun x => by simp [AVal.refs, refsL]) (fun g x => by simp [AVal.ren, renL]) hne' (.app (.app (.app (.app .refl)))) ?_ rfl rfl
    simp
attribute [go_sem] run62

/-- petershamref02.Best: throw, thread, cards, found. -/
theorem run63 {base : Nat} {h : Heap} {v : AVal} {l : List Int} {w : Int} (hI : Ints h v l) (hc : chk w l = 0) :
    callL prog raw base (.fn 63 [] []) [pap w v] h = some (.tuple [.int .i64 ((ball w.toNat l l.length).1 : Nat), .int .i64 ((ball w.toNat l l.length).2.1 : Nat), .int .i64 (ball w.toNat l l.length).2.2.1, .bool (ball w.toNat l l.length).2.2.2], h) := by
  obtain ⟨hw, hp, hx⟩ := chk_ok hc
  have flen : ∀ {l' : List Int}, chk w l' = 0 → ((l'.take (fewestS w.toNat l').2.1.toNat).length : Int) = (fewestS w.toNat l').2.1 := fun {l'} hc' => by
    have := (fewest_bd hc').2
    rw [List.length_take]; omega
  have h26 : ∀ {base : Nat} {H : Heap} {u : AVal} {l' : List Int}, Ints H u l' → chk w l' = 0 → callL prog raw base (.fn 26 [] []) [pap w u] H = some (chn w (fewV u w.toNat l') (fewestS w.toNat l').1 (fewestS w.toNat l').2.2, H) := fun hI' hc' => run26 hI' hc'
  have ln : ∀ {H : Heap} {u : AVal} {l' : List Int}, Ints H u l' → chk w l' = 0 → lenOpA prog H 22 (fewV u w.toNat l') = some (.int .i64 (fewestS w.toNat l').2.1) := fun {H u l'} hI' hc' => by
    rw [(fewV_ints hI' hc').len Fc.el22, flen hc']
  refine callL_run func63 rfl rfl ?_
  have hsp := @Nat.succ_ne_zero; repeat' (first | simp (disch := first | exact dschR5 | fail) only [go_sem, hsp, pap, chn, ln] | refine WP_drw ?_ | refine cnd_intro (fun hsp => ?_) fun hsp => ?_)
  refine WP_loop (fun σ => ∃ t : Nat, ∃ T : Heap, σ.fr 10 = .int .i64 (t : Int) ∧ σ.fr 1 = .ptr (some ⟨h.length, 0, 0⟩) ∧ σ.fr 6 = .int .i64 ((ball w.toNat l t).1 : Nat) ∧ σ.fr 7 = .int .i64 ((ball w.toNat l t).2.1 : Nat) ∧ σ.fr 8 = .int .i64 (ball w.toNat l t).2.2.1 ∧ σ.fr 9 = .bool (ball w.toNat l t).2.2.2 ∧ σ.h = h ++ [⟨.cells [.int .i64 w, v] 29 false false, 0⟩] ++ T ∧ t ≤ l.length ∧ (True)) (fun σ => match σ.fr 10 with | .int _ x => (((l.length : Nat) : Int) - x).toNat | _ => 0) ?_ ?_
  · refine ⟨0, [], ?_, ?_, ?_, ?_, ?_, ?_, ?_, by omega, trivial⟩
    iterate 6 focus (first | rfl | (simp (disch := first | exact dschR5 | fail) only [go_sem, Int.natCast_zero, ball_zero]; first | done | rfl))
    dsimp only
    rw [List.append_nil]
  · rintro ⟨fr, hp⟩ ⟨t, T, r10, r1, r6, r7, r8, r9, rh, hi, hP⟩
    dsimp only at r10 r1 r6 r7 r8 r9 rh hi hP
    subst rh
    have q10 := r10
    by_cases htl : (t : Int) < l.length
    · have htl' : ((t : Int) < l.length) = True := eq_true htl
      have hsp := @Nat.succ_ne_zero; repeat' (first | simp (disch := first | exact dschR5 | fail) only [go_sem, hsp, r10, r1, r6, r7, r8, r9, pap, htl'] | refine WP_drw ?_ | refine cnd_intro (fun hsp => ?_) fun hsp => ?_)
      refine WP_loop (fun σ => ∃ k : Nat, ∃ T2 : Heap, σ.fr 11 = .int .i64 (k : Int) ∧ σ.fr 10 = .int .i64 t ∧ σ.fr 1 = .ptr (some ⟨h.length, 0, 0⟩) ∧ σ.fr 6 = .int .i64 ((brow w.toNat l t (ball w.toNat l t) k).1 : Nat) ∧ σ.fr 7 = .int .i64 ((brow w.toNat l t (ball w.toNat l t) k).2.1 : Nat) ∧ σ.fr 8 = .int .i64 (brow w.toNat l t (ball w.toNat l t) k).2.2.1 ∧ σ.fr 9 = .bool (brow w.toNat l t (ball w.toNat l t) k).2.2.2 ∧ σ.h = h ++ [⟨.cells [.int .i64 w, v] 29 false false, 0⟩] ++ T2 ∧ k ≤ w.toNat ∧ (True)) (fun σ => match σ.fr 11 with | .int _ x => (((w.toNat : Nat) : Int) - x).toNat | _ => 0) ?_ ?_
      · refine ⟨0, T, ?_, ?_, ?_, ?_, ?_, ?_, ?_, ?_, by omega, trivial⟩
        iterate 7 focus (first | rfl | (simp (disch := first | exact dschR5 | fail) only [go_sem, Int.natCast_zero, r10, r1, r6, r7, r8, r9, brow_zero]; first | done | rfl))
        rfl
      · rintro ⟨fr, hp⟩ ⟨k, T2, r11, r10, r1, r6, r7, r8, r9, rh, hi, hP⟩
        dsimp only at r11 r10 r1 r6 r7 r8 r9 rh hi hP
        subst rh
        by_cases hkw : (k : Int) < w
        · have hs := sqr_iff (t := t) (k := k) hc (by omega) (by omega)
          have hc2 := chg_ok hs
          have hs2 := small_chg hs
          simp only [Int.toNat_natCast] at hc2 hs2
          have hkw' : ((k : Int) < w) = True := eq_true hkw
          have hrun : ∀ {base : Nat} {H : Heap}, Ints H v l → callL prog raw base (.fn 62 [] []) [pap w v, .int .i64 t, .int .i64 k] H = some (pap w (newV H.length (chgL l t k)), H ++ newH (chgL l t k)) := fun {base H} hI' => by
            have := run62 (base := base) hI' hs
            simpa only [Int.toNat_natCast] using this
          have hsp := @Nat.succ_ne_zero; repeat' (first | simp (disch := first | exact dschR5 | fail) only [go_sem, hsp, r11, r10, r1, r6, r7, r8, r9, pap, chn, ln, hc2, hrun, hkw'] | refine WP_drw ?_ | refine cnd_intro (fun hsp => ?_) fun hsp => ?_)
          · exact ⟨⟨k + 1, T2 ++ newH (chgL l t k), by simp, by rw [brow_pos hsp], by rw [brow_pos hsp], by rw [brow_pos hsp], by rw [brow_pos hsp], by simp only [List.append_assoc], by omega⟩, by omega⟩
          · exact ⟨⟨k + 1, T2 ++ newH (chgL l t k), by simp, by rw [brow_neg hsp], by rw [brow_neg hsp], by rw [brow_neg hsp], by rw [brow_neg hsp], by simp only [List.append_assoc], by omega⟩, by omega⟩
        · have hkw' : ((k : Int) < w) = False := eq_false hkw
          have ek : k = w.toNat := by omega
          subst ek
          have hsp := @Nat.succ_ne_zero; repeat' (first | simp (disch := first | exact dschR5 | fail) only [go_sem, hsp, r11, r10, r1, r6, r7, r8, r9, pap, hkw'] | refine WP_drw ?_ | refine cnd_intro (fun hsp => ?_) fun hsp => ?_)
          refine ⟨⟨t + 1, T2, by simp, by rw [ball_succ], by rw [ball_succ], by rw [ball_succ], by rw [ball_succ], rfl, by omega⟩, ?_⟩
          rw [q10]
          dsimp only
          omega
    · have htl' : ((t : Int) < l.length) = False := eq_false htl
      have et : t = l.length := by omega
      subst et
      have hsp := @Nat.succ_ne_zero; repeat' (first | simp (disch := first | exact dschR5 | fail) only [go_sem, hsp, r10, r1, r6, r7, r8, r9, pap, htl'] | refine WP_drw ?_ | refine cnd_intro (fun hsp => ?_) fun hsp => ?_)
      exact fin_pl rfl rfl (.app (.app .refl))
attribute [go_sem] run63
end Go.AM
