/-
  Contracts: how far a run goes; the map of a pattern's lifts.
-/
import Derived.Test.YtppkmjfplhenmaaD15
set_option linter.unusedSimpArgs false
set_option linter.unusedVariables false
namespace Go.AM
open Go.Proofs.Try
theorem dschD16 {p : Prop} (h : p := by first | exact Nat.ne_of_beq_eq_false rfl | assumption | (apply asOne; (first | exact One.int | exact One.bool | exact newV_one | exact grV_one | exact cloneV_one | exact takF_one | assumption | exact Ints.one (by assumption) | exact One.lit ⟨rfl, rfl, rfl⟩)) | (apply asInts; (repeat first | assumption | (apply newV_ints' <;> first | assumption | (first | rfl | (simp only [List.length_append, List.length_cons, List.length_nil, List.length_set]; done) | (simp only [List.length_append, List.length_cons, List.length_nil, List.length_set]; omega))) | (apply grV_ints <;> first | assumption | (first | rfl | (simp only [List.length_append, List.length_cons, List.length_nil, List.length_set]; done) | (simp only [List.length_append, List.length_cons, List.length_nil, List.length_set]; omega))) | apply Ints.app); done) | (apply asScal; (first | apply allS1 | apply allS2 | apply allS3 | apply allS4) <;> (first | exact One.int | exact One.bool | exact newV_one | exact grV_one | exact cloneV_one | exact takF_one | assumption | exact Ints.one (by assumption) | exact One.lit ⟨rfl, rfl, rfl⟩)) | exact litT rfl | exact litF rfl | omega | (simp only [List.length_append, List.length_cons, List.length_nil, lst_len, List.length_set, ints_length, List.length_reverse]; first | done | omega) | fail) : p := h

theorem stQ_int {base id ver off : Nat} {c : List AVal} {e : TypeId} {row : Bool} {x : Int} {k : ABlk → Heap} (h : off < c.length) :
    stQ base id (some ⟨.cells c e row false, ver⟩) ver off [.int .i64 x] k = some (k ⟨.cells (c.set off (.int .i64 x)) e row false, ver⟩) := by
  simp only [stQ]
  rw [if_pos ⟨trivial, by simp only [List.length_cons, List.length_nil]; omega, by simp [AVal.scalar], .inr (by simp [AVal.bare])⟩]
  simp only [splice]
attribute [go_sem 2000] stQ_int

/-- A row is not touched where a cell of a variable is written. -/
theorem Ints.set_row {H : Heap} {v : AVal} {l : List Int} {i : Nat} {b : ABlk} (hI : Ints H v l) (hb : ∀ r n k, v = .slice (some r) n k → r.id ≠ i) : Ints (H.set i b) v l := by
  refine ⟨hI.1, ?_⟩
  rcases hI.2 with h1 | h1 | ⟨r, k, c, e, row, ro, h1, h2, h3⟩
  · exact .inl h1
  · exact .inr (.inl h1)
  · exact .inr (.inr ⟨r, k, c, e, row, ro, h1, by rw [get_set_ne (Ne.symm (hb r _ _ h1))]; exact h2, h3⟩)

/-- A run that goes on from n, as far as it goes. -/
def extF (p q : List Int) (a b : Nat) (back : Bool) : Nat → Nat → Nat
  | 0, n => n
  | m + 1, n => if runAt p q a b back n = true then extF p q a b back m (n + 1) else n
def byI (back : Bool) : Int := if back = true then -1 else 1

theorem run104 {P Q A B Y N S : Nat} {v v' : AVal} {p q : List Int} {w w' : Int} {a b : Nat} {back : Bool} (hp : p.length ≤ 1000) (hq : q.length ≤ 1000) (ha : a ≤ 1000) (hb : b ≤ 1000) (hv : ∀ r n k, v = .slice (some r) n k → r.id ≠ N) (hv' : ∀ r n k, v' = .slice (some r) n k → r.id ≠ N) : ∀ (m n : Nat) {base : Nat} {H : Heap} (_ : Ints H v p) (_ : Ints H v' q)
    (_ : H[P]? = some ⟨.cells [.int .i64 w, v] 24 false false, 0⟩) (_ : H[Q]? = some ⟨.cells [.int .i64 w', v'] 24 false false, 0⟩) (_ : H[A]? = some (intB a)) (_ : H[B]? = some (intB b)) (_ : H[Y]? = some (intB (byI back)))
    (_ : H[N]? = some (intB n)) (_ : H[S]? = some ⟨.cells [.fn 104 [] [.ptr (some ⟨P, 0, 0⟩), .ptr (some ⟨A, 0, 0⟩), .ptr (some ⟨N, 0, 0⟩), .ptr (some ⟨Q, 0, 0⟩), .ptr (some ⟨B, 0, 0⟩), .ptr (some ⟨Y, 0, 0⟩), .ptr (some ⟨S, 0, 0⟩)]] 1 false false, 0⟩)
    (_ : [P, Q, A, B, Y, S].all (fun i => i != N) = true) (_ : p.length ≤ a + n + m) (_ : n ≤ 1000),
    callL prog raw base (.fn 104 [] [.ptr (some ⟨P, 0, 0⟩), .ptr (some ⟨A, 0, 0⟩), .ptr (some ⟨N, 0, 0⟩), .ptr (some ⟨Q, 0, 0⟩), .ptr (some ⟨B, 0, 0⟩), .ptr (some ⟨Y, 0, 0⟩), .ptr (some ⟨S, 0, 0⟩)]) [] H =
      some (.tuple [], H.set N (intB ((extF p q a b back m n : Nat) : Int))) := by
  intro m
  induction m with
  | zero =>
    intro n base H hI hI' gP gQ gA gB gY gN gS hne hm hn
    have hN := lt_of_get gN
    have hset : H.set N (intB ((extF p q a b back 0 n : Nat) : Int)) = H := by
      unfold extF
      have := List.getElem?_eq_some_iff.1 gN
      rw [← this.2, List.set_getElem_self]
    rw [hset]
    have g1 : (0 ≤ (a : Int) + n ∧ (a : Int) + n < p.length) = False := eq_false (by omega)
    refine callL_run func104 rfl rfl ?_
    have hsp := @Nat.succ_ne_zero; repeat' (first | simp (disch := first | exact dschD16 | fail) only [go_sem, hsp, gP, gQ, gA, gB, gY, gN, gS, intB, g1, pap] | refine WP_drw ?_ | refine cnd_intro (fun hsp => ?_) fun hsp => ?_)
    exact compact_plain' rfl
  | succ m ih =>
    intro n base H hI hI' gP gQ gA gB gY gN gS hne hm hn
    have hN := lt_of_get gN
    have ey : (b : Int) + n * byI back = posI b back n := by
      unfold byI posI
      cases back <;> simp <;> omega
    have eb1 : (n : Int) * byI back ≤ 1000 ∧ -1000 ≤ (n : Int) * byI back := by
      unfold byI
      cases back <;> simp <;> omega
    by_cases hr : runAt p q a b back n = true
    · have hr' := hr
      unfold runAt at hr'
      rw [decide_eq_true_eq] at hr'
      have g1 : (0 ≤ (a : Int) + n ∧ (a : Int) + n < p.length) = True := eq_true (by omega)
      have ea : ((a : Int) + n).toNat = a + n := by omega
      have hne' := hne
      simp only [List.all_cons, List.all_nil, Bool.and_true, Bool.and_eq_true, bne_iff_ne, ne_eq] at hne'
      have hNS : N ≠ S := fun e => hne'.2.2.2.2.2 e.symm
      have gN' : (H.set N (intB ((n : Int) + 1)))[N]? = some (intB ((n + 1 : Nat) : Int)) := by rw [get_set_same hN]; rfl
      have hrec := ih (n + 1) (base := H.length) (H := H.set N (intB ((n : Int) + 1))) (hI.set_row hv) (hI'.set_row hv') (by rw [get_set_ne (Ne.symm hne'.1)]; exact gP) (by rw [get_set_ne (Ne.symm hne'.2.1)]; exact gQ) (by rw [get_set_ne (Ne.symm hne'.2.2.1)]; exact gA)
        (by rw [get_set_ne (Ne.symm hne'.2.2.2.1)]; exact gB) (by rw [get_set_ne (Ne.symm hne'.2.2.2.2.1)]; exact gY) gN' (by rw [get_set_ne hNS]; exact gS) hne (by omega) (by omega)
      rw [intB] at hrec
      refine callL_run func104 rfl rfl ?_
      have hsp := @Nat.succ_ne_zero; repeat' (first | simp (disch := first | exact dschD16 | fail) only [go_sem, hsp, gP, gQ, gA, gB, gY, gN, gS, intB, g1, pap, ey, hr'.2.1, ea, hr'.2.2, hrec] | refine WP_drw ?_ | refine cnd_intro (fun hsp => ?_) fun hsp => ?_)
      rw [List.set_set, show extF p q a b back (m + 1) n = extF p q a b back m (n + 1) by simp only [extF]; rw [if_pos hr]]
      have hfin := compact_plain' (h := H.set N ⟨.cells [.int .i64 ((extF p q a b back m (n + 1) : Nat) : Int)] 3 false false, 0⟩) (v := .tuple []) rfl
      rwa [List.length_set] at hfin
    · have hx : extF p q a b back (m + 1) n = n := by simp only [extF]; rw [if_neg hr]
      have hset : H.set N (intB ((extF p q a b back (m + 1) n : Nat) : Int)) = H := by
        rw [hx]
        have := List.getElem?_eq_some_iff.1 gN
        rw [← this.2, List.set_getElem_self]
      rw [hset]
      unfold runAt at hr
      rw [decide_eq_true_eq] at hr
      have ea : ((a : Int) + n).toNat = a + n := by omega
      refine callL_run func104 rfl rfl ?_
      by_cases g1 : a + n < p.length
      · have g1' : (0 ≤ (a : Int) + n ∧ (a : Int) + n < p.length) = True := eq_true (by omega)
        by_cases g2 : 0 ≤ posI b back n ∧ posI b back n < q.length
        · have g3 : (p.getD (a + n) 0 = q.getD (posI b back n).toNat 0) = False := eq_false (fun e => hr ⟨g1, g2, e⟩)
          have hsp := @Nat.succ_ne_zero; repeat' (first | simp (disch := first | exact dschD16 | fail) only [go_sem, hsp, gP, gQ, gA, gB, gY, gN, gS, intB, g1', pap, ey, g2, g3, ea] | refine WP_drw ?_ | refine cnd_intro (fun hsp => ?_) fun hsp => ?_)
          exact compact_plain' rfl
        · have g2' : (0 ≤ posI b back n ∧ posI b back n < q.length) = False := eq_false g2
          have hsp := @Nat.succ_ne_zero; repeat' (first | simp (disch := first | exact dschD16 | fail) only [go_sem, hsp, gP, gQ, gA, gB, gY, gN, gS, intB, g1', pap, ey, g2', ea] | refine WP_drw ?_ | refine cnd_intro (fun hsp => ?_) fun hsp => ?_)
          exact compact_plain' rfl
      · have g1' : (0 ≤ (a : Int) + n ∧ (a : Int) + n < p.length) = False := eq_false (by omega)
        have hsp := @Nat.succ_ne_zero; repeat' (first | simp (disch := first | exact dschD16 | fail) only [go_sem, hsp, gP, gQ, gA, gB, gY, gN, gS, intB, g1', pap, ey, ea] | refine WP_drw ?_ | refine cnd_intro (fun hsp => ?_) fun hsp => ?_)
        exact compact_plain' rfl
end Go.AM
