/-
  Contracts: all plans with a number of cards, in their order.
-/
import Derived.Test.YtppkmjfplhenmaaD6
import Derived.Test.YtppkmjfplhenmaaA6
set_option linter.unusedSimpArgs false
set_option linter.unusedVariables false
namespace Go.AM
open Go.Proofs.Try
theorem dschD7 {p : Prop} (h : p := by first | exact Nat.ne_of_beq_eq_false rfl | assumption | (apply asOne; (first | exact One.int | exact One.bool | exact newV_one | exact grV_one | exact cloneV_one | exact takF_one | assumption | exact Ints.one (by assumption) | exact One.lit ⟨rfl, rfl, rfl⟩)) | (apply asInts; (repeat first | assumption | (apply newV_ints' <;> first | assumption | (first | rfl | (simp only [List.length_append, List.length_cons, List.length_nil, List.length_set]; done) | (simp only [List.length_append, List.length_cons, List.length_nil, List.length_set]; omega))) | (apply grV_ints <;> first | assumption | (first | rfl | (simp only [List.length_append, List.length_cons, List.length_nil, List.length_set]; done) | (simp only [List.length_append, List.length_cons, List.length_nil, List.length_set]; omega))) | apply Ints.app); done) | (apply asTak; (repeat first | assumption | (refine TakAt.new ?_; (first | rfl | (simp only [List.length_append, List.length_cons, List.length_nil, List.length_set]; done) | (simp only [List.length_append, List.length_cons, List.length_nil, List.length_set]; omega))) | apply TakAt.app); done) | (apply asScal; (first | apply allS1 | apply allS2 | apply allS3 | apply allS4) <;> (first | exact One.int | exact One.bool | exact newV_one | exact grV_one | exact cloneV_one | exact takF_one | assumption | exact Ints.one (by assumption) | exact One.lit ⟨rfl, rfl, rfl⟩)) | exact litT rfl | exact litF rfl | omega | (simp only [List.length_append, List.length_cons, List.length_nil, lst_len, List.length_set, ints_length, List.length_reverse]; first | done | omega) | fail) : p := h

theorem refs_pap {w : Int} {v : AVal} : refsL [.int .i64 w, v] = v.refs := by simp [refsL, AVal.refs]

theorem run112 {base : Nat} {h : Heap} {v : AVal} {l : List Int} {w n : Int} (hI : Ints h v l) : callL prog raw base (.fn 112 [] []) [pap w v, .int .i64 n] h =
    some (.fn 118 [] [.ptr (some ⟨h.length, 0, 0⟩), .ptr (some ⟨h.length + 1, 0, 0⟩)], h ++ [intB n, ⟨.cells [.int .i64 w, v] 126 false false, 0⟩]) := by
  refine callL_run func112 rfl rfl ?_
  have hsp := @Nat.succ_ne_zero; repeat' (first | simp (disch := first | exact dschD7 | fail) only [go_sem, hsp, pap] | refine WP_drw ?_ | refine cnd_intro (fun hsp => ?_) fun hsp => ?_)
  rw [List.append_assoc]
  have hlow := hI.refs_lt
  have hlen := hI.refs_len
  rw [compact_gen (js := [1, 0]) (bs := [intB n, ⟨.cells [.int .i64 w, v] 126 false false, 0⟩]) (by simp [AVal.refs, refsL]) (by decide) ?_ ?_ rfl]
  · have n0 : ∀ {js : List Nat} {u : Nat}, newId h.length (js.map fun j => h.length + j) h.length u = (h.length + js.idxOf 0, 0) := fun {js u} => newId_map (j := 0)
    have n1 : ∀ {js : List Nat} {u : Nat}, newId h.length (js.map fun j => h.length + j) (h.length + 1) u = (h.length + js.idxOf 1, 0) := fun {js u} => newId_map (j := 1)
    simp only [AVal.ren, renL, n0, n1]
    rfl
  · intro j hj
    simp only [List.mem_cons, List.not_mem_nil, or_false] at hj
    rcases hj with rfl | rfl
    · exact ⟨_, _, _, _, rfl, by simp [refsL, AVal.refs], by simp [renL, AVal.ren]⟩
    · refine ⟨_, _, _, _, rfl, by rw [refs_pap]; exact hlow, ?_⟩
      simp only [renL, AVal.ren, hI.ren_low]
  · simp [rcost, blkRefs, ABody.refs, refsL, AVal.refs]
    omega
attribute [go_sem] run112

/-- The plans in their order: two, then one for each step. -/
def planK (j : Nat) : Int := if j = 0 then 0 else if j = 1 then 1 else 2
def planT (j : Nat) : Int := if j ≤ 1 then 0 else (j : Int) - 1

theorem run118 {base m L cp dp : Nat} {H0 : Heap} {v : AVal} {w n : Int} (hw : 1 ≤ w ∧ w ≤ 8) (J : Nat → Heap → Prop) (S : Heap → Prop) (happ : ∀ j H T, J j H → J j (H ++ T)) (hm : ∀ j H, J j H → m ≤ H.length)
    (hget : ∀ j H, J j H → H[cp]? = some (intB n) ∧ H[dp]? = some ⟨.cells [.int .i64 w, v] 126 false false, 0⟩)
    (hy : ∀ j H, j < w.toNat + 1 → J j H → ∃ b H', callL prog raw base (.yld L) [pln (planK j) n (planT j)] H = some (.bool b, H') ∧ (∀ i x, m ≤ i → H[i]? = some x → H'[i]? = some x) ∧ (b = true → J (j + 1) H') ∧ (b = false → S H'))
    (h0 : J 0 H0) : ∃ H', callL prog raw base (.fn 118 [] [.ptr (some ⟨cp, 0, 0⟩), .ptr (some ⟨dp, 0, 0⟩)]) [.yld L] H0 = some (.tuple [], H') ∧ (J (w.toNat + 1) H' ∨ S H') := by
  have key := callL_rawW (P := prog) (raw := raw) (base := base) (f := 118) (fn := f118) (first := []) (captured := [.ptr (some ⟨cp, 0, 0⟩), .ptr (some ⟨dp, 0, 0⟩)]) (args := [.yld L]) (h := H0) (K := fun v H' => v = .tuple [] ∧ (J (w.toNat + 1) H' ∨ S H')) func118 rfl rfl ?_
  · obtain ⟨v, H', h1, rfl, h2⟩ := key
    exact ⟨H', h1, h2⟩
  have bs : ∀ {lit : Bool} {H : Heap}, lit = false → bsA prog lit H 153 2 [(0, .int .i64 0), (1, .int .i64 1)] = some (.slice (some ⟨H.length, 0, 0⟩) 2 2, H ++ [⟨.cells [.int .i64 0, .int .i64 1] 25 true false, 0⟩]) := fun {lit H} hl => by
    subst hl
    simp [bsA, rowOf, Fc.el153, fillA, repCells, AVal.isN, AVal.cells, splice]
  have len : ∀ {H : Heap} {o m k : Nat}, lenOpA prog H 153 (.slice (some ⟨o, 0, 0⟩) m k) = some (.int .i64 (m : Int)) := fun {H o m k} => by simp [lenOpA, Fc.el153, lenA]
  have adr : ∀ {o m k : Nat} {i : Int}, 0 ≤ i → i < m → indexAddrA prog 153 (.slice (some ⟨o, 0, 0⟩) m k) (.int .i64 i) = some (.ptr (some ⟨o, 0, i.toNat⟩)) := fun {o m k i} h0 h1 => by
    simp [indexAddrA, Fc.ar153, Fc.el153, h0, h1, ARef.add]
  have hm0 := hm 0 H0 h0
  have hsp := @Nat.succ_ne_zero; repeat' (first | simp (disch := first | exact dschD7 | fail) only [go_sem, hsp, bs, len] | refine WP_drw ?_ | refine cnd_intro (fun hsp => ?_) fun hsp => ?_)
  refine WP_loop (fun σ => ∃ i : Nat, i ≤ 2 ∧ σ.fr 9 = .int .i64 (i : Int) ∧ σ.fr 8 = .int .i64 2 ∧ σ.fr 7 = .slice (some ⟨H0.length, 0, 0⟩) 2 2 ∧ σ.fr 0 = .yld L ∧ σ.fr 1 = .ptr (some ⟨cp, 0, 0⟩) ∧ σ.fr 2 = .ptr (some ⟨dp, 0, 0⟩) ∧
    σ.h[H0.length]? = some ⟨.cells [.int .i64 0, .int .i64 1] 25 true false, 0⟩ ∧ J i σ.h) (fun σ => match σ.fr 9 with | .int _ x => (2 - x).toNat | _ => 0) ?_ ?_
  · refine ⟨0, by omega, by simp (disch := first | exact dschD7 | fail) only [go_sem, Int.natCast_zero], by (first | (simp (disch := first | exact dschD7 | fail) only [go_sem]; done) | (simp (disch := first | exact dschD7 | fail) only [go_sem]; rfl)), by simp (disch := first | exact dschD7 | fail) only [go_sem], by simp (disch := first | exact dschD7 | fail) only [go_sem], by simp (disch := first | exact dschD7 | fail) only [go_sem], by simp (disch := first | exact dschD7 | fail) only [go_sem], by simp, happ _ _ _ h0⟩
  · rintro ⟨fr, H⟩ ⟨i, hi, r9, r8, r7, r0, r1, r2, hb, hJ⟩
    dsimp only at r9 r8 r7 r0 r1 r2 hb hJ
    obtain ⟨hg1, hg2⟩ := hget i H hJ
    by_cases hi2 : i < 2
    · have hv : ([.int .i64 0, .int .i64 1] : List AVal)[i]? = some (.int .i64 (planK i)) := by
        have : i = 0 ∨ i = 1 := by omega
        rcases this with rfl | rfl <;> rfl
      have ht : planT i = 0 := by unfold planT; rw [if_pos (by omega)]
      obtain ⟨b, H', hc, hkeep, ht', hf⟩ := hy i H (by omega) hJ
      rw [ht] at hc
      have hi2' : ((i : Int) < 2) = True := eq_true (by omega)
      have hsp := @Nat.succ_ne_zero; repeat' (first | simp (disch := first | exact dschD7 | fail) only [go_sem, hsp, r9, r8, r7, r0, r1, r2, bs, len, adr, hb, hg1, intB, hv, hc, hi2'] | refine WP_drw ?_ | refine cnd_intro (fun hsp => ?_) fun hsp => ?_)
      · exact .inr (hf (by simpa using ‹_›))
      · refine ⟨⟨i + 1, by omega, by simp, hkeep _ _ hm0 hb, ht' (by cases b with | true => rfl | false => exact absurd rfl (by assumption))⟩, by omega⟩
    · have hi2' : ((i : Int) < 2) = False := eq_false (by omega)
      have e2 : i = 2 := by omega
      subst e2
      have hsp := @Nat.succ_ne_zero; repeat' (first | simp (disch := first | exact dschD7 | fail) only [go_sem, hsp, r9, r8, r7, r0, r1, r2, bs, len, hi2'] | refine WP_drw ?_ | refine cnd_intro (fun hsp => ?_) fun hsp => ?_)
      refine WP_loop (fun σ => ∃ i : Nat, 1 ≤ i ∧ (i : Int) ≤ w ∧ σ.fr 6 = .int .i64 (i : Int) ∧ σ.fr 0 = .yld L ∧ σ.fr 1 = .ptr (some ⟨cp, 0, 0⟩) ∧ σ.fr 2 = .ptr (some ⟨dp, 0, 0⟩) ∧ J (i + 1) σ.h) (fun σ => match σ.fr 6 with | .int _ x => (w - x).toNat | _ => 0) ?_ ?_
      · refine ⟨1, by omega, by omega, by (first | (simp (disch := first | exact dschD7 | fail) only [go_sem, r0, r1, r2]; done) | (simp (disch := first | exact dschD7 | fail) only [go_sem, r0, r1, r2]; rfl)), by simp (disch := first | exact dschD7 | fail) only [go_sem, r0, r1, r2], by simp (disch := first | exact dschD7 | fail) only [go_sem, r0, r1, r2], by simp (disch := first | exact dschD7 | fail) only [go_sem, r0, r1, r2], hJ⟩
      · rintro ⟨fr, H⟩ ⟨i, hi1, hi, r6, r0, r1, r2, hJ⟩
        dsimp only at r6 r0 r1 r2 hJ
        obtain ⟨hg1, hg2⟩ := hget (i + 1) H hJ
        by_cases hiw : (i : Int) < w
        · have hp : planK (i + 1) = 2 := by unfold planK; rw [if_neg (by omega), if_neg (by omega)]
          have ht : planT (i + 1) = i := by unfold planT; rw [if_neg (by omega)]; omega
          obtain ⟨b, H', hc, hkeep, ht', hf⟩ := hy (i + 1) H (by omega) hJ
          rw [ht, hp] at hc
          have hiw' : ((i : Int) < w) = True := eq_true hiw
          have hsp := @Nat.succ_ne_zero; repeat' (first | simp (disch := first | exact dschD7 | fail) only [go_sem, hsp, r6, r0, r1, r2, hg1, hg2, intB, hc, hiw'] | refine WP_drw ?_ | refine cnd_intro (fun hsp => ?_) fun hsp => ?_)
          · exact .inr (hf (by simpa using ‹_›))
          · refine ⟨⟨i + 1, by omega, by omega, by simp, ht' (by cases b with | true => rfl | false => exact absurd rfl (by assumption))⟩, by omega⟩
        · have hiw' : ((i : Int) < w) = False := eq_false hiw
          have hsp := @Nat.succ_ne_zero; repeat' (first | simp (disch := first | exact dschD7 | fail) only [go_sem, hsp, r6, r0, r1, r2, hg1, hg2, intB, hiw'] | refine WP_drw ?_ | refine cnd_intro (fun hsp => ?_) fun hsp => ?_)
          have e : i + 1 = w.toNat + 1 := by omega
          rw [e] at hJ
          exact .inl hJ

theorem yields118 {base L cp dp : Nat} {v : AVal} {w n : Int} {I : Nat → Heap → Prop} (hw : 1 ≤ w ∧ w ≤ 8) (hI : ∀ j H, I j H → H[cp]? = some (intB n) ∧ H[dp]? = some ⟨.cells [.int .i64 w, v] 126 false false, 0⟩) :
    Yields prog raw base L (.fn 118 [] [.ptr (some ⟨cp, 0, 0⟩), .ptr (some ⟨dp, 0, 0⟩)]) (w.toNat + 1) (fun j => [pln (planK j) n (planT j)]) I := by
  intro J S H0 hL hJ happ hy h0
  obtain ⟨H', h1, h2⟩ := run118 (m := L + 1) hw J S happ (fun j H h => (hJ j H h).2) (fun j H h => hI j H (hJ j H h).1) hy h0
  exact ⟨_, H', h1, h2⟩
end Go.AM
