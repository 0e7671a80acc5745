/-
  Contracts: patterns that are woven, and turned.
-/
import Derived.Test.YtppkmjfplhenmaaD3
set_option linter.unusedSimpArgs false
set_option linter.unusedVariables false
namespace Go.AM
open Go.Proofs.Try
theorem dschD4 {p : Prop} (h : p := by first | exact Nat.ne_of_beq_eq_false rfl | assumption | (apply asOne; (first | exact One.int | exact One.bool | exact newV_one | exact grV_one | exact cloneV_one | exact takF_one | assumption | exact Ints.one (by assumption) | exact One.lit ⟨rfl, rfl, rfl⟩)) | (apply asInts; (repeat first | assumption | (apply newV_ints' <;> first | assumption | (first | rfl | (simp only [List.length_append, List.length_cons, List.length_nil, List.length_set]; done) | (simp only [List.length_append, List.length_cons, List.length_nil, List.length_set]; omega))) | (apply grV_ints <;> first | assumption | (first | rfl | (simp only [List.length_append, List.length_cons, List.length_nil, List.length_set]; done) | (simp only [List.length_append, List.length_cons, List.length_nil, List.length_set]; omega))) | apply Ints.app); done) | (apply asTak; (repeat first | assumption | (refine TakAt.new ?_; (first | rfl | (simp only [List.length_append, List.length_cons, List.length_nil, List.length_set]; done) | (simp only [List.length_append, List.length_cons, List.length_nil, List.length_set]; omega))) | apply TakAt.app); done) | (apply asScal; (first | apply allS1 | apply allS2 | apply allS3 | apply allS4) <;> (first | exact One.int | exact One.bool | exact newV_one | exact grV_one | exact cloneV_one | exact takF_one | assumption | exact Ints.one (by assumption) | exact One.lit ⟨rfl, rfl, rfl⟩)) | exact litT rfl | exact litF rfl | omega | (simp only [List.length_append, List.length_cons, List.length_nil, lst_len, List.length_set, ints_length, List.length_reverse]; first | done | omega) | fail) : p := h

/-- A fresh row; nil where it is empty. -/
def nlV (n : Nat) (l : List Int) : AVal := if l = [] then .slice none 0 0 else newV n l
/-- card.Weave: the first throws of a ribbon. -/
def wov (w : Int) (l : List Int) (k s : Int) (n : Nat) : List Int := lst (fun t => ((liftN w.toNat l k.toNat s.toNat t : Nat) : Int)) n
def weaveS (w : Int) (l : List Int) (k s n : Int) : Int × List Int × Int :=
  if chkC w l k s ≠ 0 then (0, [], chkC w l k s) else if ¬ (1 ≤ n ∧ n ≤ 48) then (0, [], 2) else (w, wov w l k s n.toNat, 0)

theorem fin_pap {h H : Heap} {w e w' e' : Int} (ew : w = w') (ee : e = e') (hE : Ext h H) :
    compact h.length (.tuple [pap w (.slice none 0 0), .int .i64 e]) H = some (.tuple [pap w' (nlV h.length []), .int .i64 e'], h ++ newH []) := by
  subst ew ee
  simp only [newH, List.append_nil, nlV, if_true]
  exact fin_pl rfl rfl hE

theorem run69 {base : Nat} {h : Heap} {v : AVal} {l : List Int} {w k s n : Int} (hI : Ints h v l) :
    callL prog raw base (.fn 69 [] []) [chn w v k s, .int .i64 n] h = some (.tuple [pap (weaveS w l k s n).1 (nlV h.length (weaveS w l k s n).2.1), .int .i64 (weaveS w l k s n).2.2], h ++ newH (weaveS w l k s n).2.1) := by
  refine callL_run func69 rfl rfl ?_
  by_cases hc : chkC w l k s = 0
  · by_cases hn : 1 ≤ n ∧ n ≤ 48
    · have e : weaveS w l k s n = (w, wov w l k s n.toNat, 0) := by unfold weaveS; rw [if_neg (by simp [hc]), if_neg (by simp [hn])]
      rw [e]
      have hsp := @Nat.succ_ne_zero; repeat' (first | simp (disch := first | exact Nat.ne_of_beq_eq_false rfl | assumption | exact dschD4 | fail) only [go_sem, hsp, chn, pap, hc, hn] | refine WP_draw (by kernel_rfl) ?_ | refine cnd_intro (fun hsp => ?_) (fun hsp => ?_))
      · refine WP_loop (fun σ => ∃ t : Nat, σ.fr 23 = .int .i64 (t : Int) ∧ σ.fr 2 = .ptr (some ⟨h.length, 0, 0⟩) ∧ σ.fr 4 = .ptr (some ⟨h.length + 1, 0, 0⟩) ∧ σ.fr 7 = .ptr (some ⟨h.length + 2, 0, 0⟩) ∧ σ.fr 22 = .int .i64 n ∧ σ.h = h ++ [⟨.cells [.int .i64 w, v, .int .i64 k, .int .i64 s] 34 false false, 0⟩] ++ [⟨.cells [.int .i64 0, .slice none 0 0] 24 false false, 0⟩] ++ [⟨.cells [.int .i64 w, grV (h.length + 3) (wov w l k s t)] 24 false false, 0⟩] ++ grH (wov w l k s t) ∧ t ≤ n.toNat ∧ (True)) (fun σ => match σ.fr 23 with | .int _ x => (((n.toNat : Nat) : Int) - x).toNat | _ => 0) ?_ ?_
        · refine ⟨0, ?_, ?_, ?_, ?_, ?_, ?_, by omega, trivial⟩
          iterate 5 focus (first | rfl | (simp (disch := first | exact Nat.ne_of_beq_eq_false rfl | assumption | exact dschD4 | fail) only [go_sem, Int.natCast_zero]; first | done | rfl))
          dsimp only
          rw [show wov w l k s 0 = [] from rfl, grV_nil, grH_nil, List.append_nil]
        · rintro ⟨fr, hp⟩ ⟨t, r23, r2, r4, r7, r22, rh, hi, hP⟩
          dsimp only at r23 r2 r4 r7 r22 rh hi hP
          subst rh
          have hl : (wov w l k s t).length < 1073741824 := by rw [wov, lst_len]; omega
          have hsp := @Nat.succ_ne_zero; repeat' (first | simp (disch := first | exact Nat.ne_of_beq_eq_false rfl | assumption | exact dschD4 | fail) only [go_sem, hsp, r23, r2, r4, r7, r22, chn] | refine WP_draw (by kernel_rfl) ?_ | refine cnd_intro (fun hsp => ?_) (fun hsp => ?_))
          · refine ⟨⟨t + 1, by simp, ?_, by omega⟩, by omega⟩
            rw [show wov w l k s (t + 1) = wov w l k s t ++ [((liftN w.toNat l k.toNat s.toNat t : Nat) : Int)] from lst_succ]
          · have et : wov w l k s t = wov w l k s n.toNat := by rw [show t = n.toNat by omega]
            rw [et]
            exact fin_gr (f := fun x => .tuple [pap w x, .int .i64 0]) (j := 3) (fun x => by simp [AVal.refs, refsL]) (fun _ => rfl) (fun g x => by simp [AVal.ren, renL]) rfl (by simp) (.app (.app (.app .refl))) rfl rfl
    · have e : weaveS w l k s n = (0, [], 2) := by unfold weaveS; rw [if_neg (by simp [hc]), if_pos hn]
      rw [e]
      have hsp := @Nat.succ_ne_zero; repeat' (first | simp (disch := first | exact Nat.ne_of_beq_eq_false rfl | assumption | exact dschD4 | fail) only [go_sem, hsp, chn, pap, hc, hn] | refine WP_draw (by kernel_rfl) ?_ | refine cnd_intro (fun hsp => ?_) (fun hsp => ?_))
      exact fin_pap rfl rfl (.app (.app .refl))
  · have e : weaveS w l k s n = (0, [], chkC w l k s) := by unfold weaveS; rw [if_pos hc]
    rw [e]
    have hsp := @Nat.succ_ne_zero; repeat' (first | simp (disch := first | exact Nat.ne_of_beq_eq_false rfl | assumption | exact dschD4 | fail) only [go_sem, hsp, chn, pap, hc] | refine WP_draw (by kernel_rfl) ?_ | refine cnd_intro (fun hsp => ?_) (fun hsp => ?_))
    exact fin_pap rfl rfl (.app (.app .refl))
attribute [go_sem] run69

/-! ### Rows turned -/
theorem rev_get {l : List Int} {i : Nat} (h : i < l.length) : l.reverse.getD i 0 = l.getD (l.length - 1 - i) 0 := by
  simp only [List.getD_eq_getElem?_getD]
  rw [List.getElem?_reverse h]

/-- slices.Reverse of a row that is one's own. -/
theorem run110 {base n : Nat} {A : Heap} {l : List Int} (hn : n = A.length) (hl : l.length < 1073741824) :
    callL prog raw base (.fn 110 [] []) [.slice (some ⟨n, 0, 0⟩) l.length l.length] (A ++ [rowB l 0]) = some (.tuple [], A ++ [rowB l.reverse 0]) := by
  subst hn
  have len : ∀ {H : Heap} {o m k : Nat}, lenOpA prog H 22 (.slice (some ⟨o, 0, 0⟩) m k) = some (.int .i64 (m : Int)) := fun {H o m k} => by simp [lenOpA, Fc.el22, lenA]
  have adr : ∀ {o m k : Nat} {i : Int}, 0 ≤ i → i < m → indexAddrA prog 22 (.slice (some ⟨o, 0, 0⟩) m k) (.int .i64 i) = some (.ptr (some ⟨o, 0, i.toNat⟩)) := fun {o m k i} h0 h1 => by
    simp [indexAddrA, Fc.ar22, Fc.el22, h0, h1, ARef.add]
  refine callL_run func110 rfl rfl ?_
  have hsp := @Nat.succ_ne_zero; repeat' (first | simp (disch := first | exact Nat.ne_of_beq_eq_false rfl | assumption | exact dschD4 | fail) only [go_sem, hsp, len] | refine WP_draw (by kernel_rfl) ?_ | refine cnd_intro (fun hsp => ?_) (fun hsp => ?_))
  refine WP_loop (fun σ => ∃ i : Nat, σ.fr 2 = .int .i64 (i : Int) ∧ σ.fr 3 = .int .i64 ((l.length : Int) - 1 - i) ∧ σ.fr 0 = .slice (some ⟨A.length, 0, 0⟩) l.length l.length ∧
    σ.h = A ++ [rowB (lst (fun j => if j < i ∨ l.length - 1 - i < j then l.getD (l.length - 1 - j) 0 else l.getD j 0) l.length) 0] ∧ 2 * i ≤ l.length + 1) (fun σ => match σ.fr 3 with | .int _ x => (x + 1).toNat | _ => 0) ?_ ?_
  · refine ⟨0, by simp (disch := first | exact Nat.ne_of_beq_eq_false rfl | assumption | exact dschD4 | fail) only [go_sem, Int.natCast_zero], by simp (disch := first | exact Nat.ne_of_beq_eq_false rfl | assumption | exact dschD4 | fail) only [go_sem, Int.natCast_zero, Int.sub_zero], by simp (disch := first | exact Nat.ne_of_beq_eq_false rfl | assumption | exact dschD4 | fail) only [go_sem], ?_, by omega⟩
    dsimp only
    rw [show lst (fun j => if j < 0 ∨ l.length - 1 - 0 < j then l.getD (l.length - 1 - j) 0 else l.getD j 0) l.length = l from ?_]
    rw [lst_self l, lst_len]
    refine lst_congr fun i hi => ?_
    rw [if_neg (by omega), lst_get hi]
  · rintro ⟨fr, hp⟩ ⟨i, r2, r3, r0, rh, hi⟩
    dsimp only at r2 r3 r0 rh hi
    subst rh
    have hsp := @Nat.succ_ne_zero; repeat' (first | simp (disch := first | exact Nat.ne_of_beq_eq_false rfl | assumption | exact dschD4 | fail) only [go_sem, hsp, r2, r3, r0, len, adr] | refine WP_draw (by kernel_rfl) ?_ | refine cnd_intro (fun hsp => ?_) (fun hsp => ?_))
    · have ej : ((l.length : Int) - 1 - i).toNat = l.length - 1 - i := by omega
      refine ⟨⟨i + 1, by simp, by omega, ?_, by omega⟩, by omega⟩
      rw [ej, if_neg (by omega), if_neg (by omega)]
      congr 3
      refine lst_congr fun j hj => ?_
      by_cases e1 : j = l.length - 1 - i
      · rw [if_pos e1, if_pos (by omega), e1, show l.length - 1 - (l.length - 1 - i) = i by omega]
      · rw [if_neg e1]
        by_cases e2 : j = i
        · rw [if_pos e2, if_pos (by omega), e2]
        · rw [if_neg e2]
          by_cases e3 : j < i ∨ l.length - 1 - i < j
          · rw [if_pos e3, if_pos (by omega)]
          · rw [if_neg e3, if_neg (by omega)]
    · have e : lst (fun j => if j < i ∨ l.length - 1 - i < j then l.getD (l.length - 1 - j) 0 else l.getD j 0) l.length = l.reverse := by
        refine lst_ext (by simp [lst_len]) fun j hj => ?_
        rw [lst_len] at hj
        rw [lst_get hj, rev_get hj]
        by_cases e3 : j < i ∨ l.length - 1 - i < j
        · rw [if_pos e3]
        · rw [if_neg e3, show l.length - 1 - j = j by omega]
      rw [e, show A.length + 1 = (A ++ [rowB l.reverse 0]).length by simp]
      exact compact_plain' rfl
attribute [go_sem] run110

/-- card.Turned. -/
def turnS (w : Int) (l : List Int) : Int × List Int × Int := if chk w l ≠ 0 then (0, [], chk w l) else (w, l.reverse, 0)
theorem nil_of_nilB {h : Heap} {v : AVal} {l : List Int} (hI : Ints h v l) (hl : l ≠ []) : nilB v = false := by
  cases hn : nilB v with
  | false => rfl
  | true => exact absurd (hI.nilB_nil hn).2 hl

theorem run74 {base : Nat} {h : Heap} {v : AVal} {l : List Int} {w : Int} (hI : Ints h v l) (hs : Small l) :
    callL prog raw base (.fn 74 [] []) [pap w v] h = some (.tuple [pap (turnS w l).1 (nlV h.length (turnS w l).2.1), .int .i64 (turnS w l).2.2], h ++ newH (turnS w l).2.1) := by
  refine callL_run func74 rfl rfl ?_
  by_cases hc : chk w l = 0
  · have hp := (chk_ok hc).2.1
    have hne : l ≠ [] := by rintro rfl; simp at hp
    have hne' : l.reverse ≠ [] := by simpa using hne
    have e : turnS w l = (w, l.reverse, 0) := by unfold turnS; rw [if_neg (by simp [hc])]
    have hcl : ∀ {base : Nat} {H : Heap}, Ints H v l → callL prog raw base (.fn 86 [] []) [v] H = some (.slice (some ⟨H.length, 0, 0⟩) l.length l.length, H ++ [rowB l 0]) := fun {base H} hI' => by
      rw [run86 hI' hs, cloneV, cloneH, nil_of_nilB hI' hne]
      simp [newV_ne hne, newH_ne hne]
    have hl : l.length < 1073741824 := by omega
    rw [e]
    have hsp := @Nat.succ_ne_zero; repeat' (first | simp (disch := first | exact Nat.ne_of_beq_eq_false rfl | assumption | exact dschD4 | fail) only [go_sem, hsp, pap, hc, hcl] | refine WP_draw (by kernel_rfl) ?_ | refine cnd_intro (fun hsp => ?_) (fun hsp => ?_))
    rw [show l.length = l.reverse.length by simp]
    refine fin_nw (f := fun x => .tuple [pap w x, .int .i64 0]) (l := l.reverse) (j := 2) (fun x => by simp [AVal.refs, refsL]) (fun g x => by simp [AVal.ren, renL]) hne' (.app (.app (.app .refl))) (by simp (disch := first | exact Nat.ne_of_beq_eq_false rfl | assumption | exact dschD4 | fail) only [go_sem]) ?_ rfl
    simp [nlV, hne]
  · have e : turnS w l = (0, [], chk w l) := by unfold turnS; rw [if_pos hc]
    rw [e]
    have hsp := @Nat.succ_ne_zero; repeat' (first | simp (disch := first | exact Nat.ne_of_beq_eq_false rfl | assumption | exact dschD4 | fail) only [go_sem, hsp, pap, hc] | refine WP_draw (by kernel_rfl) ?_ | refine cnd_intro (fun hsp => ?_) (fun hsp => ?_))
    exact fin_pap rfl rfl (.app (.app .refl))
attribute [go_sem] run74
end Go.AM
