/-
  Contracts of the reference: the fewest cards.
-/
import Derived.Test.YtppkmjfplhenmaaR3
set_option linter.unusedSimpArgs false
set_option linter.unusedVariables false
namespace Go.AM
open Go.Proofs.Try
theorem dschR4 {p : Prop} (h : p := by first | exact Nat.ne_of_beq_eq_false rfl | assumption | (apply asOne; (first | exact One.int | exact One.bool | exact newV_one | exact grV_one | exact cloneV_one | exact takF_one | assumption | exact Ints.one (by assumption) | exact One.lit ⟨rfl, rfl, rfl⟩)) | (apply asInts; (repeat first | assumption | (apply newV_ints' <;> first | assumption | (first | rfl | (simp only [List.length_append, List.length_cons, List.length_nil, List.length_set]; done) | (simp only [List.length_append, List.length_cons, List.length_nil, List.length_set]; omega))) | (apply grV_ints <;> first | assumption | (first | rfl | (simp only [List.length_append, List.length_cons, List.length_nil, List.length_set]; done) | (simp only [List.length_append, List.length_cons, List.length_nil, List.length_set]; omega))) | apply Ints.app); done) | (apply asScal; (first | apply allS1 | apply allS2 | apply allS3 | apply allS4) <;> (first | exact One.int | exact One.bool | exact newV_one | exact grV_one | exact cloneV_one | exact takF_one | assumption | exact Ints.one (by assumption) | exact One.lit ⟨rfl, rfl, rfl⟩)) | exact litT rfl | exact litF rfl | omega | (simp only [List.length_append, List.length_cons, List.length_nil, lst_len, List.length_set, ints_length, List.length_reverse]; first | done | omega) | fail) : p := h

/-- The chain's cards: the first throws, or all of them. -/
def fewV (v : AVal) (w : Nat) (l : List Int) : AVal := if (fewestS w l).2.1 < l.length then slcV v 0 (fewestS w l).2.1.toNat else v
theorem fewV_ints {h : Heap} {v : AVal} {l : List Int} {w : Int} (hI : Ints h v l) (hc : chk w l = 0) : Ints h (fewV v w.toNat l) (l.take (fewestS w.toNat l).2.1.toNat) := by
  have hb := (fewest_bd hc).2
  unfold fewV
  split
  · have := Ints.slc hI (Nat.zero_le _) (show (fewestS w.toNat l).2.1.toNat ≤ l.length by omega)
    rwa [List.drop_zero] at this
  · rw [List.take_of_length_le (by omega)]; exact hI
theorem fewV_one {h : Heap} {v : AVal} {l : List Int} {w : Nat} {m : List Int} (hI : Ints h v l) : One (fewV v w m) := by
  unfold fewV
  split
  · exact slcV_one hI
  · exact hI.one

/-- Does a plan stand? -/
def okK (w : Nat) (l : List Int) (n k s : Nat) : Bool := !(firstS w l k n s).2.2
/-- All plans before a kind and a step are excluded. -/
def noneB (w : Nat) (l : List Int) (n k s : Nat) : Prop := ∀ k' s', (k' < k ∨ (k' = k ∧ s' < s)) → k' ≤ 2 → s' < w → stepOk k' s' w = true → okK w l n k' s' = false

theorem stepN {k s w : Nat} : stepOk k s w = true ↔ (if k = 2 then 1 ≤ s ∧ s < w else s = 0) := by
  unfold stepOk
  by_cases h : k = 2
  · subst h
    rw [if_pos rfl, if_pos (show ((2 : Nat) : Int) = 2 from rfl), decide_eq_true_iff]
    omega
  · rw [if_neg h, if_neg (by omega), decide_eq_true_iff]
    omega
theorem noneB_J {w : Nat} {l : List Int} {n k s : Nat} (hw : 1 ≤ w) (hk : k ≤ 2) (hs : s < w) (hst : stepOk k s w = true) (hn : noneB w l n k s) (hok : okK w l n k s = true) :
    ∃ j, fewJ w l n = some j ∧ planK j = k ∧ planT j = s := by
  rw [stepN] at hst
  have hall : ∀ j, j < w + 1 → okP w l n j = okK w l n (planK j).toNat (planT j).toNat := fun _ _ => rfl
  have hidx : ∃ j, j < w + 1 ∧ planK j = k ∧ planT j = s ∧ ∀ i, i < j → ((planK i).toNat < k ∨ ((planK i).toNat = k ∧ (planT i).toNat < s)) ∧ (planT i).toNat < w ∧ stepOk (planK i).toNat (planT i).toNat w = true ∧ (planK i).toNat ≤ 2 := by
    by_cases h2 : k = 2
    · subst h2
      rw [if_pos rfl] at hst
      refine ⟨s + 1, by omega, by unfold planK; rw [if_neg (by omega), if_neg (by omega)]; rfl, by unfold planT; rw [if_neg (by omega)]; omega, fun i hi => ?_⟩
      by_cases h0 : i = 0
      · subst h0
        refine ⟨.inl (by decide), by show (0 : Nat) < w; omega, ?_, by decide⟩
        rw [stepN]; rfl
      · by_cases h1 : i = 1
        · subst h1
          refine ⟨.inl (by decide), by show (0 : Nat) < w; omega, ?_, by decide⟩
          rw [stepN]; rfl
        · have e1 : planK i = 2 := by unfold planK; rw [if_neg h0, if_neg h1]
          have e2 : planT i = (i : Int) - 1 := by unfold planT; rw [if_neg (by omega)]
          have e3 : ((i : Int) - 1).toNat = i - 1 := by omega
          rw [e1, e2, e3]
          refine ⟨.inr ⟨rfl, by omega⟩, by omega, ?_, by decide⟩
          rw [stepN, if_pos (show (2 : Int).toNat = 2 from rfl)]
          omega
    · rw [if_neg h2] at hst
      subst hst
      by_cases h1 : k = 1
      · subst h1
        refine ⟨1, by omega, rfl, rfl, fun i hi => ?_⟩
        have : i = 0 := by omega
        subst this
        refine ⟨.inl (by decide), by show (0 : Nat) < w; omega, ?_, by decide⟩
        rw [stepN]; rfl
      · have : k = 0 := by omega
        subst this
        exact ⟨0, by omega, rfl, rfl, fun i hi => by omega⟩
  obtain ⟨j, hj, ek, es, hb⟩ := hidx
  refine ⟨j, findI_some hj ?_ fun i hi => ?_, ek, es⟩
  · rw [hall j hj, ek, es]; exact hok
  · obtain ⟨b1, b2, b3, b4⟩ := hb i hi
    rw [hall i (by omega)]
    exact hn _ _ b1 b4 b2 b3
theorem noneB_none {w : Nat} {l : List Int} {n : Nat} (hw : 1 ≤ w) (hn : noneB w l n 3 0) : (fewJ w l n).isSome = false := by
  have : fewJ w l n = none := findI_none fun j hj => by
    have e : okP w l n j = okK w l n (planK j).toNat (planT j).toNat := rfl
    have kb := planK_bd (j := j)
    rw [e]
    refine hn _ _ (.inl (by omega)) (by omega) ?_ ?_
    · unfold planT; split <;> omega
    · rw [stepN]
      unfold planK planT
      by_cases h0 : j = 0
      · subst h0; rfl
      · by_cases h1 : j = 1
        · subst h1; rfl
        · rw [if_neg h0, if_neg h1, if_pos (show (2 : Int).toNat = 2 from rfl), if_neg (show ¬ j ≤ 1 by omega)]
          omega
  rw [this]; rfl

theorem noneB_next {w : Nat} {l : List Int} {n k s : Nat} (hn : noneB w l n k s) (h : stepOk k s w = true → okK w l n k s = false) : noneB w l n k (s + 1) := by
  intro k' s' h1 h2 h3 h4
  by_cases e : k' = k ∧ s' = s
  · obtain ⟨rfl, rfl⟩ := e; exact h h4
  · exact hn k' s' (by omega) h2 h3 h4
theorem noneB_row {w : Nat} {l : List Int} {n k : Nat} (hn : noneB w l n k w) : noneB w l n (k + 1) 0 := by
  intro k' s' h1 h2 h3 h4
  exact hn k' s' (by omega) h2 h3 h4
theorem fin_ext {h H : Heap} {a b : List AVal} {v : AVal} {l : List Int} (hI : Ints h v l) (ha : plainL a = true) (hb : plainL b = true) (hE : Ext h H) : compact h.length (.agg (a ++ v :: b)) H = some (.agg (a ++ v :: b), h) := by
  obtain ⟨T, rfl⟩ := hE
  exact fin_old hI ha hb rfl

theorem run26 {base : Nat} {h : Heap} {v : AVal} {l : List Int} {w : Int} (hI : Ints h v l) (hc : chk w l = 0) :
    callL prog raw base (.fn 26 [] []) [pap w v] h = some (chn w (fewV v w.toNat l) (fewestS w.toNat l).1 (fewestS w.toNat l).2.2, h) := by
  obtain ⟨hw, hp, hx⟩ := chk_ok hc
  refine callL_run func26 rfl rfl ?_
  have hsp := @Nat.succ_ne_zero; repeat' (first | simp (disch := first | exact dschR4 | fail) only [go_sem, hsp, pap] | refine WP_drw ?_ | refine cnd_intro (fun hsp => ?_) fun hsp => ?_)
  refine WP_loop (fun σ => ∃ n : Nat, ∃ T : Heap, 1 ≤ n ∧ n ≤ l.length ∧ σ.fr 3 = .int .i64 (n : Int) ∧ σ.fr 1 = .ptr (some ⟨h.length, 0, 0⟩) ∧ σ.fr 2 = .ptr (some ⟨h.length + 1, 0, 0⟩) ∧
    σ.h = h ++ [⟨.cells [.int .i64 w, v] 29 false false, 0⟩] ++ [⟨.cells [.int .i64 0, .slice none 0 0, .int .i64 0, .int .i64 0] 40 false false, 0⟩] ++ T ∧ ∀ j, j < n - 1 → (fewJ w.toNat l (j + 1)).isSome = false)
    (fun σ => match σ.fr 3 with | .int _ x => (l.length - x).toNat | _ => 0) ?_ ?_
  · refine ⟨1, [], by omega, by omega, by (simp (disch := first | exact dschR4 | fail) only [go_sem, Int.natCast_zero]; first | done | rfl), by (simp (disch := first | exact dschR4 | fail) only [go_sem, Int.natCast_zero]; first | done | rfl), by (simp (disch := first | exact dschR4 | fail) only [go_sem, Int.natCast_zero]; first | done | rfl), ?_, fun j hj => by omega⟩
    dsimp only
    rw [List.append_nil]
  · rintro ⟨fr, H⟩ ⟨n, T, hn1, hn, r3, r1, r2, rh, hno⟩
    dsimp only at r3 r1 r2 rh
    subst rh
    have q3 := r3
    by_cases hnl : (n : Int) < l.length
    · have hnl' : ((n : Int) < l.length) = True := eq_true hnl
      have hsp := @Nat.succ_ne_zero; repeat' (first | simp (disch := first | exact dschR4 | fail) only [go_sem, hsp, r3, r1, r2, pap, hnl'] | refine WP_drw ?_ | refine cnd_intro (fun hsp => ?_) fun hsp => ?_)
      refine WP_loop (fun σ => ∃ k : Nat, ∃ T2 : Heap, σ.fr 4 = .int .i64 (k : Int) ∧ σ.fr 3 = .int .i64 n ∧ σ.fr 1 = .ptr (some ⟨h.length, 0, 0⟩) ∧ σ.fr 2 = .ptr (some ⟨h.length + 1, 0, 0⟩) ∧ σ.h = h ++ [⟨.cells [.int .i64 w, v] 29 false false, 0⟩] ++ [⟨.cells [.int .i64 0, .slice none 0 0, .int .i64 0, .int .i64 0] 40 false false, 0⟩] ++ T2 ∧ k ≤ 3 ∧ (noneB w.toNat l n k 0)) (fun σ => match σ.fr 4 with | .int _ x => (((3 : Nat) : Int) - x).toNat | _ => 0) ?_ ?_
      · refine ⟨0, T, ?_, ?_, ?_, ?_, ?_, by omega, ?_⟩
        iterate 4 focus (first | rfl | (simp (disch := first | exact dschR4 | fail) only [go_sem, Int.natCast_zero, r3, r1, r2]; first | done | rfl))
        · rfl
        · intro k' s' h1 _ _ _; omega
      · rintro ⟨fr, hp⟩ ⟨k, T2, r4, r3, r1, r2, rh, hi, hP⟩
        dsimp only at r4 r3 r1 r2 rh hi hP
        subst rh
        have q4 := r4
        have hPk := hP
        by_cases hk : k < 3
        · have hk' : ((k : Int) ≤ 2) = True := eq_true (by omega)
          have hsp := @Nat.succ_ne_zero; repeat' (first | simp (disch := first | exact dschR4 | fail) only [go_sem, hsp, r4, r3, r1, r2, pap, hk'] | refine WP_drw ?_ | refine cnd_intro (fun hsp => ?_) fun hsp => ?_)
          refine WP_loop (fun σ => ∃ s : Nat, ∃ T3 : Heap, σ.fr 5 = .int .i64 (s : Int) ∧ σ.fr 4 = .int .i64 k ∧ σ.fr 3 = .int .i64 n ∧ σ.fr 1 = .ptr (some ⟨h.length, 0, 0⟩) ∧ σ.fr 2 = .ptr (some ⟨h.length + 1, 0, 0⟩) ∧ σ.h = h ++ [⟨.cells [.int .i64 w, v] 29 false false, 0⟩] ++ [⟨.cells [.int .i64 0, .slice none 0 0, .int .i64 0, .int .i64 0] 40 false false, 0⟩] ++ T3 ∧ s ≤ w.toNat ∧ (noneB w.toNat l n k s)) (fun σ => match σ.fr 5 with | .int _ x => (((w.toNat : Nat) : Int) - x).toNat | _ => 0) ?_ ?_
          · refine ⟨0, T2, ?_, ?_, ?_, ?_, ?_, ?_, by omega, ?_⟩
            iterate 5 focus (first | rfl | (simp (disch := first | exact dschR4 | fail) only [go_sem, Int.natCast_zero, r4, r3, r1, r2]; first | done | rfl))
            · rfl
            · exact hPk
          · rintro ⟨fr, hp⟩ ⟨s, T3, r5, r4, r3, r1, r2, rh, hi, hP⟩
            dsimp only at r5 r4 r3 r1 r2 rh hi hP
            subst rh
            by_cases hsw : (s : Int) < w
            · have hsw' : ((s : Int) < w) = True := eq_true hsw
              have hwn := weave_first (w := w.toNat) (k := k) (n := n) (s := s) (l := l) (by omega)
              have hsl0 : Ints h (slcV v 0 n) (l.take n) := by
                have := Ints.slc hI (Nat.zero_le _) (show n ≤ l.length by omega)
                rwa [List.drop_zero] at this
              cases hst : stepOk k s w with
              | true =>
                have hct := chkC_take (n := n) hc (by omega) hst (by omega)
                have hsp := @Nat.succ_ne_zero; repeat' (first | simp (disch := first | exact dschR4 | fail) only [go_sem, hsp, r5, r4, r3, r1, r2, pap, sl22h, hsw', hst, hwn] | refine WP_drw ?_ | refine cnd_intro (fun hsp => ?_) fun hsp => ?_)
                · have hok : okK w.toNat l n k s = true := by unfold okK; simpa using hsp
                  obtain ⟨j, e1, e2, e3⟩ := noneB_J (by omega) (by omega) (by omega) (by rw [show ((w.toNat : Nat) : Int) = w by omega]; exact hst) hP hok
                  have ef : fewestS w.toNat l = ((k : Int), (n : Int), (s : Int)) := by
                    have e4 : fewN w.toNat l = some (n - 1) := findI_some (by omega) (by rw [show n - 1 + 1 = n by omega, e1]; rfl) hno
                    unfold fewestS
                    rw [e4]
                    simp only [show n - 1 + 1 = n by omega, e1, e2, e3]
                    rw [show ((n - 1 : Nat) : Int) + 1 = n by omega]
                  rw [ef]
                  have e5 : fewV v w.toNat l = slcV v 0 n := by unfold fewV; rw [ef]; simp only [Int.toNat_natCast]; rw [if_pos hnl]
                  rw [e5]
                  exact fin_ext (a := [.int .i64 w]) (b := [.int .i64 k, .int .i64 s]) hsl0 rfl rfl (.app (.app (.app (.app .refl))))
                · refine ⟨⟨s + 1, T3 ++ [⟨.cells [.int .i64 w, slcV v 0 n, .int .i64 k, .int .i64 s] 40 false false, 0⟩], by simp, by simp only [List.append_assoc], by omega, noneB_next hP fun _ => ?_⟩, by omega⟩
                  unfold okK
                  simpa using hsp
              | false =>
                have hsp := @Nat.succ_ne_zero; repeat' (first | simp (disch := first | exact dschR4 | fail) only [go_sem, hsp, r5, r4, r3, r1, r2, pap, sl22h, hsw', hst] | refine WP_drw ?_ | refine cnd_intro (fun hsp => ?_) fun hsp => ?_)
                refine ⟨⟨s + 1, T3 ++ [⟨.cells [.int .i64 w, slcV v 0 n, .int .i64 k, .int .i64 s] 40 false false, 0⟩], by simp, by simp only [List.append_assoc], by omega, noneB_next hP fun h9 => ?_⟩, by omega⟩
                rw [show ((w.toNat : Nat) : Int) = w by omega, hst] at h9
                cases h9
            · have hsw' : ((s : Int) < w) = False := eq_false hsw
              have es : s = w.toNat := by omega
              subst es
              have hsp := @Nat.succ_ne_zero; repeat' (first | simp (disch := first | exact dschR4 | fail) only [go_sem, hsp, r5, r4, r3, r1, r2, pap, hsw'] | refine WP_drw ?_ | refine cnd_intro (fun hsp => ?_) fun hsp => ?_)
              refine ⟨⟨k + 1, T3, by simp, rfl, by omega, noneB_row hP⟩, ?_⟩
              rw [q4]
              dsimp only
              omega
        · have hk' : ((3 : Int) ≤ 2) = False := eq_false (by omega)
          have ek : k = 3 := by omega
          subst ek
          have hsp := @Nat.succ_ne_zero; repeat' (first | simp (disch := first | exact dschR4 | fail) only [go_sem, hsp, r4, r3, r1, r2, pap, hk'] | refine WP_drw ?_ | refine cnd_intro (fun hsp => ?_) fun hsp => ?_)
          refine ⟨⟨n + 1, T2, by omega, by omega, by simp, rfl, fun j hj => ?_⟩, ?_⟩
          · by_cases e : j = n - 1
            · subst e
              rw [show n - 1 + 1 = n by omega]
              exact noneB_none (by omega) hP
            · exact hno j (by omega)
          · rw [q3]
            dsimp only
            omega
    · have hnl' : ((n : Int) < l.length) = False := eq_false hnl
      have en : n = l.length := by omega
      subst en
      have hsp := @Nat.succ_ne_zero; repeat' (first | simp (disch := first | exact dschR4 | fail) only [go_sem, hsp, r3, r1, r2, pap, hnl'] | refine WP_drw ?_ | refine cnd_intro (fun hsp => ?_) fun hsp => ?_)
      have ej : fewJ w.toNat l l.length = some 0 := findI_some (by omega) (okP_all hc) (fun j hj => by omega)
      have ef : fewestS w.toNat l = (0, (l.length : Int), 0) := by
        have e4 : fewN w.toNat l = some (l.length - 1) := findI_some (by omega) (by rw [show l.length - 1 + 1 = l.length by omega, ej]; rfl) hno
        unfold fewestS
        rw [e4]
        simp only [show l.length - 1 + 1 = l.length by omega, ej]
        rw [show ((l.length - 1 : Nat) : Int) + 1 = l.length by omega]
        rfl
      have e5 : fewV v w.toNat l = v := by unfold fewV; rw [ef]; simp
      rw [ef, e5]
      exact fin_ext (a := [.int .i64 w]) (b := [.int .i64 0, .int .i64 0]) hI rfl rfl (.app (.app (.app .refl)))
attribute [go_sem] run26
end Go.AM
