/-
  Contracts: the longest run that is shared.
-/
import Derived.Test.YtppkmjfplhenmaaD17
set_option linter.unusedSimpArgs false
set_option linter.unusedVariables false
namespace Go.AM
open Go.Proofs.Try
theorem dschD18 {p : Prop} (h : p := by first | exact Nat.ne_of_beq_eq_false rfl | assumption | (apply asOne; (first | exact One.int | exact One.bool | exact newV_one | exact grV_one | exact cloneV_one | exact takF_one | assumption | exact Ints.one (by assumption) | exact One.lit ⟨rfl, rfl, rfl⟩)) | (apply asInts; (repeat first | assumption | (apply newV_ints' <;> first | assumption | (first | rfl | (simp only [List.length_append, List.length_cons, List.length_nil, List.length_set]; done) | (simp only [List.length_append, List.length_cons, List.length_nil, List.length_set]; omega))) | (apply grV_ints <;> first | assumption | (first | rfl | (simp only [List.length_append, List.length_cons, List.length_nil, List.length_set]; done) | (simp only [List.length_append, List.length_cons, List.length_nil, List.length_set]; omega))) | apply Ints.app); done) | (apply asScal; (first | apply allS1 | apply allS2 | apply allS3 | apply allS4) <;> (first | exact One.int | exact One.bool | exact newV_one | exact grV_one | exact cloneV_one | exact takF_one | assumption | exact Ints.one (by assumption) | exact One.lit ⟨rfl, rfl, rfl⟩)) | exact litT rfl | exact litF rfl | omega | (simp only [List.length_append, List.length_cons, List.length_nil, lst_len, List.length_set, ints_length, List.length_reverse]; first | done | omega) | fail) : p := h

/-- A run as a value. -/
def runW (r : Nat × Nat × Nat × Bool) : AVal := runV r.1 r.2.1 r.2.2.1 r.2.2.2
def runC (r : Nat × Nat × Nat × Bool) : List AVal := [.int .i64 (r.1 : Int), .int .i64 (r.2.1 : Int), .int .i64 (r.2.2.1 : Int), .bool r.2.2.2]

/-- The best run, behind none, one or both ways. -/
def shB (p q : List Int) (a : Nat) (st : Nat × Nat × Nat × Bool) (b : Nat) (e : Nat) : Nat × Nat × Nat × Bool :=
  if e = 0 then st else if e = 1 then shStep p q a st b false else shStep p q a (shStep p q a st b false) b true
theorem shB_pos {p q : List Int} {a b e : Nat} {st : Nat × Nat × Nat × Bool} {back : Bool} (he : (e = 0 ∧ back = false) ∨ (e = 1 ∧ back = true)) (h : (shB p q a st b e).2.2.1 < extF p q a b back p.length 0) : shB p q a st b (e + 1) = (a, b, extF p q a b back p.length 0, back) := by
  rcases he with ⟨rfl, rfl⟩ | ⟨rfl, rfl⟩
  · simp only [shB, if_true] at h ⊢; simp [shStep, h]
  · simp [shB] at h ⊢; rw [shStep, if_pos h]
theorem shB_neg {p q : List Int} {a b e : Nat} {st : Nat × Nat × Nat × Bool} {back : Bool} (he : (e = 0 ∧ back = false) ∨ (e = 1 ∧ back = true)) (h : ¬ (shB p q a st b e).2.2.1 < extF p q a b back p.length 0) : shB p q a st b (e + 1) = shB p q a st b e := by
  rcases he with ⟨rfl, rfl⟩ | ⟨rfl, rfl⟩
  · simp only [shB, if_true] at h ⊢; simp [shStep, h]
  · simp [shB] at h ⊢; rw [shStep, if_neg (by omega)]

theorem shB_two {p q : List Int} {a b : Nat} {st : Nat × Nat × Nat × Bool} : shB p q a st b 2 = shStep p q a (shStep p q a st b false) b true := by simp [shB]

/-- The closure's own block. -/
def fnB (P Q A B Y N S : Nat) : ABlk := ⟨.cells [.fn 104 [] [.ptr (some ⟨P, 0, 0⟩), .ptr (some ⟨A, 0, 0⟩), .ptr (some ⟨N, 0, 0⟩), .ptr (some ⟨Q, 0, 0⟩), .ptr (some ⟨B, 0, 0⟩), .ptr (some ⟨Y, 0, 0⟩), .ptr (some ⟨S, 0, 0⟩)]] 1 false false, 0⟩
theorem asc4 {A B C D E : Heap} : A ++ B ++ C ++ D ++ E = A ++ (B ++ C ++ D ++ E) := by simp
theorem asc3 {A B C D : Heap} : A ++ B ++ C ++ D = A ++ (B ++ C ++ D) := by simp
theorem asc2 {A B C : Heap} : A ++ B ++ C = A ++ (B ++ C) := by simp
theorem call_on {base P Q A B Y N S : Nat} {K : Heap} {v v' : AVal} {p q : List Int} {w w' : Int} {a b : Nat} {back : Bool} (hp : p.length ≤ 1000) (hq : q.length ≤ 1000) (ha : a ≤ 1000) (hb : b ≤ 1000) (hI : Ints K v p) (hI' : Ints K v' q)
    (gP : K[P]? = some ⟨.cells [.int .i64 w, v] 24 false false, 0⟩) (gQ : K[Q]? = some ⟨.cells [.int .i64 w', v'] 24 false false, 0⟩) (gA : K[A]? = some (intB a)) (gB : K[B]? = some (intB b)) (hY : Y = K.length) (hN : N = K.length + 1) (hS : S = K.length + 1 + 1) :
    callL prog raw base (.fn 104 [] [.ptr (some ⟨P, 0, 0⟩), .ptr (some ⟨A, 0, 0⟩), .ptr (some ⟨N, 0, 0⟩), .ptr (some ⟨Q, 0, 0⟩), .ptr (some ⟨B, 0, 0⟩), .ptr (some ⟨Y, 0, 0⟩), .ptr (some ⟨S, 0, 0⟩)]) []
      (K ++ [intB (byI back)] ++ [intB 0] ++ [⟨.cells [.fn 104 [] [.ptr (some ⟨P, 0, 0⟩), .ptr (some ⟨A, 0, 0⟩), .ptr (some ⟨N, 0, 0⟩), .ptr (some ⟨Q, 0, 0⟩), .ptr (some ⟨B, 0, 0⟩), .ptr (some ⟨Y, 0, 0⟩), .ptr (some ⟨S, 0, 0⟩)]] 1 false false, 0⟩]) =
      some (.tuple [], K ++ [intB (byI back)] ++ [intB ((extF p q a b back p.length 0 : Nat) : Int)] ++ [⟨.cells [.fn 104 [] [.ptr (some ⟨P, 0, 0⟩), .ptr (some ⟨A, 0, 0⟩), .ptr (some ⟨N, 0, 0⟩), .ptr (some ⟨Q, 0, 0⟩), .ptr (some ⟨B, 0, 0⟩), .ptr (some ⟨Y, 0, 0⟩), .ptr (some ⟨S, 0, 0⟩)]] 1 false false, 0⟩]) := by
  subst hY hN hS
  have hlt : ∀ {v : AVal} {l : List Int}, Ints K v l → ∀ r n k, v = .slice (some r) n k → r.id ≠ K.length + 1 := fun {v l} hI r n k hv => by
    rcases hI.2 with ⟨rfl, _⟩ | ⟨rfl, _⟩ | ⟨r', k', c, e, row, ro, rfl, h2, _⟩
    · cases hv
    · cases hv
    · injection hv with h3
      injection h3 with h3
      subst h3
      have := lt_of_get h2
      omega
  have lP := lt_of_get gP
  have lQ := lt_of_get gQ
  have lA := lt_of_get gA
  have lB := lt_of_get gB
  have h0 := run104 (P := P) (Q := Q) (A := A) (B := B) (Y := K.length) (N := K.length + 1) (S := K.length + 1 + 1) (w := w) (w' := w') (a := a) (b := b) (back := back) hp hq ha hb (hlt hI) (hlt hI') p.length 0 (base := base)
    (H := K ++ [intB (byI back)] ++ [intB 0] ++ [⟨.cells [.fn 104 [] [.ptr (some ⟨P, 0, 0⟩), .ptr (some ⟨A, 0, 0⟩), .ptr (some ⟨K.length + 1, 0, 0⟩), .ptr (some ⟨Q, 0, 0⟩), .ptr (some ⟨B, 0, 0⟩), .ptr (some ⟨K.length, 0, 0⟩), .ptr (some ⟨K.length + 1 + 1, 0, 0⟩)]] 1 false false, 0⟩])
    hI.app.app.app hI'.app.app.app (get_app (get_app (get_app gP))) (get_app (get_app (get_app gQ))) (get_app (get_app (get_app gA))) (get_app (get_app (get_app gB))) (get_app (get_app (by simp))) (get_app (by rw [get_eq (by simp)]; rfl)) (by rw [get_eq (by simp)])
    (by simp; omega) (by omega) (by omega)
  rw [h0, set_lt (by simp), set_eq (by simp)]

set_option maxHeartbeats 4000000 in
theorem run59 {base : Nat} {h : Heap} {v v' : AVal} {p q : List Int} {w w' : Int} (hI : Ints h v p) (hI' : Ints h v' q) :
    callL prog raw base (.fn 59 [] []) [pap w v, pap w' v'] h = some (.tuple [runW (shareS w p w' q).1, .int .i64 (shareS w p w' q).2], h) := by
  refine callL_run func59 rfl rfl ?_
  by_cases hc : bothS w p w' q = 0
  · obtain ⟨hc1, hc2, rfl⟩ := both_ok hc
    obtain ⟨hw, hp, hx⟩ := chk_ok hc1
    obtain ⟨_, hp', hx'⟩ := chk_ok hc2
    have hsp := @Nat.succ_ne_zero; repeat' (first | simp (disch := first | exact dschD18 | fail) only [go_sem, hsp, pap, hc] | refine WP_drw ?_ | refine cnd_intro (fun hsp => ?_) fun hsp => ?_)
    have hIA : Ints (h ++ [(⟨.cells [.int .i64 w, v] 24 false false, 0⟩ : ABlk)] ++ [(⟨.cells [.int .i64 w, v'] 24 false false, 0⟩ : ABlk)] ++ [(⟨.cells [.int .i64 0, .int .i64 0, .int .i64 0, .bool false] 82 false false, 0⟩ : ABlk)]) v p ∧ Ints (h ++ [(⟨.cells [.int .i64 w, v] 24 false false, 0⟩ : ABlk)] ++ [(⟨.cells [.int .i64 w, v'] 24 false false, 0⟩ : ABlk)] ++ [(⟨.cells [.int .i64 0, .int .i64 0, .int .i64 0, .bool false] 82 false false, 0⟩ : ABlk)]) v' q := ⟨hI.app.app.app, hI'.app.app.app⟩
    have hg0 : (h ++ [(⟨.cells [.int .i64 w, v] 24 false false, 0⟩ : ABlk)] ++ [(⟨.cells [.int .i64 w, v'] 24 false false, 0⟩ : ABlk)] ++ [(⟨.cells [.int .i64 0, .int .i64 0, .int .i64 0, .bool false] 82 false false, 0⟩ : ABlk)])[h.length]? = some ⟨.cells [.int .i64 w, v] 24 false false, 0⟩ := by simp (disch := first | exact dschD18 | fail) only [go_sem]
    have hg1 : (h ++ [(⟨.cells [.int .i64 w, v] 24 false false, 0⟩ : ABlk)] ++ [(⟨.cells [.int .i64 w, v'] 24 false false, 0⟩ : ABlk)] ++ [(⟨.cells [.int .i64 0, .int .i64 0, .int .i64 0, .bool false] 82 false false, 0⟩ : ABlk)])[h.length + 1]? = some ⟨.cells [.int .i64 w, v'] 24 false false, 0⟩ := by simp (disch := first | exact dschD18 | fail) only [go_sem]
    have hg2 : (h ++ [(⟨.cells [.int .i64 w, v] 24 false false, 0⟩ : ABlk)] ++ [(⟨.cells [.int .i64 w, v'] 24 false false, 0⟩ : ABlk)] ++ [(⟨.cells [.int .i64 0, .int .i64 0, .int .i64 0, .bool false] 82 false false, 0⟩ : ABlk)])[h.length + 2]? = some ⟨.cells [.int .i64 0, .int .i64 0, .int .i64 0, .bool false] 82 false false, 0⟩ := by
      rw [get_eq (by simp)]
    have hE : Ext h (h ++ [(⟨.cells [.int .i64 w, v] 24 false false, 0⟩ : ABlk)] ++ [(⟨.cells [.int .i64 w, v'] 24 false false, 0⟩ : ABlk)] ++ [(⟨.cells [.int .i64 0, .int .i64 0, .int .i64 0, .bool false] 82 false false, 0⟩ : ABlk)]) := .app (.app (.app .refl))
    have hAl : (h ++ [(⟨.cells [.int .i64 w, v] 24 false false, 0⟩ : ABlk)] ++ [(⟨.cells [.int .i64 w, v'] 24 false false, 0⟩ : ABlk)] ++ [(⟨.cells [.int .i64 0, .int .i64 0, .int .i64 0, .bool false] 82 false false, 0⟩ : ABlk)]).length = h.length + 3 := by simp
    generalize hA : h ++ [(⟨.cells [.int .i64 w, v] 24 false false, 0⟩ : ABlk)] ++ [(⟨.cells [.int .i64 w, v'] 24 false false, 0⟩ : ABlk)] ++ [(⟨.cells [.int .i64 0, .int .i64 0, .int .i64 0, .bool false] 82 false false, 0⟩ : ABlk)] = A at *
    refine WP_loop (fun σ => ∃ i : Nat, ∃ ks : List Int, σ.fr 31 = .int .i64 (i : Int) ∧ σ.fr 29 = v' ∧ σ.fr 30 = .int .i64 q.length ∧ σ.fr 7 = .map (some (h.length + 3)) ∧ σ.fr 2 = .ptr (some ⟨h.length, 0, 0⟩) ∧ σ.fr 3 = .ptr (some ⟨h.length + 1, 0, 0⟩) ∧ σ.fr 4 = .ptr (some ⟨h.length + 2, 0, 0⟩) ∧ σ.h = A ++ [⟨.map (mkEs (fun x => posL q x i) (A.length + 1) ks), 0⟩] ++ mkRows (fun x => posL q x i) ks ∧ i ≤ q.length ∧ (ks.Nodup ∧ (∀ x, x ∈ ks ↔ posL q x i ≠ []))) (fun σ => match σ.fr 31 with | .int _ x => (((q.length : Nat) : Int) - x).toNat | _ => 0) ?_ ?_
    · refine ⟨0, [], ?_, ?_, ?_, ?_, ?_, ?_, ?_, ?_, by omega, ?_⟩
      iterate 7 focus (first | rfl | (simp (disch := first | exact dschD18 | fail) only [go_sem, Int.natCast_zero]; first | done | rfl))
      · dsimp only
        simp [mkEs, mkRows]
      · exact ⟨List.nodup_nil, fun x => by simp [posL_zero]⟩
    · rintro ⟨fr, hp⟩ ⟨i, ks, r31, r29, r30, r7, r2, r3, r4, rh, hi, hP⟩
      dsimp only at r31 r29 r30 r7 r2 r3 r4 rh hi hP
      subst rh
      have hIH : Ints (A ++ [⟨.map (mkEs (fun x => posL q x i) (A.length + 1) ks), 0⟩] ++ mkRows (fun x => posL q x i) ks) v' q := by
        exact hIA.2.app.app
      by_cases hil : (i : Int) < q.length
      · have hil' : ((i : Int) < q.length) = True := eq_true hil
        obtain ⟨vl, va, H1, H2, ks', e1, e2, e3, e4, e5, e6⟩ := map_step (base := h.length) (A := A) (q := q) (ks := ks) (i := i) (by omega) (by omega) (by omega) hP.1 hP.2
        rw [hAl] at e1 e2 e3 e4 hIH ⊢
        have hsp := @Nat.succ_ne_zero; repeat' (first | simp (disch := first | exact dschD18 | fail) only [go_sem, hsp, r31, r29, r30, r7, r2, r3, r4, pap, hil', e1, e2, e3] | refine WP_drw ?_ | refine cnd_intro (fun hsp => ?_) fun hsp => ?_)
        exact ⟨⟨i + 1, ks', by simp, e4, by omega, e5, e6⟩, by omega⟩
      · have hil' : ((i : Int) < q.length) = False := eq_false hil
        have ei : i = q.length := by omega
        subst ei
        obtain ⟨vx, hvx⟩ : ∃ vx : Int → AVal, ∀ x, (∀ {T : Heap}, lookupA prog (A ++ [(⟨.map (mkEs (fun x => posL q x q.length) (A.length + 1) ks), 0⟩ : ABlk)] ++ mkRows (fun x => posL q x q.length) ks ++ T) 141 (.map (some A.length)) (.int .i64 x) false = some (vx x)) ∧
            Ints (A ++ [(⟨.map (mkEs (fun x => posL q x q.length) (A.length + 1) ks), 0⟩ : ABlk)] ++ mkRows (fun x => posL q x q.length) ks) (vx x) (posL q x q.length) := by
          have := fun x => look_ints (A := A) (q := q) (ks := ks) (x := x) (by omega) hP.2
          exact ⟨fun x => (this x).choose, fun x => (this x).choose_spec⟩
        have hIA1 := hIA.1
        have hIA2 := hIA.2
        have hsp := @Nat.succ_ne_zero; repeat' (first | simp (disch := first | exact dschD18 | fail) only [go_sem, hsp, r31, r29, r30, r7, r2, r3, r4, pap, hil', hg0] | refine WP_drw ?_ | refine cnd_intro (fun hsp => ?_) fun hsp => ?_)
        have k0 : (A ++ [(⟨.map (mkEs (fun x => posL q x q.length) (A.length + 1) ks), 0⟩ : ABlk)] ++ mkRows (fun x => posL q x q.length) ks)[h.length]? = some ⟨.cells [.int .i64 w, v] 24 false false, 0⟩ := get_app (get_app hg0)
        have k1 : (A ++ [(⟨.map (mkEs (fun x => posL q x q.length) (A.length + 1) ks), 0⟩ : ABlk)] ++ mkRows (fun x => posL q x q.length) ks)[h.length + 1]? = some ⟨.cells [.int .i64 w, v'] 24 false false, 0⟩ := get_app (get_app hg1)
        have k2 : (A ++ [(⟨.map (mkEs (fun x => posL q x q.length) (A.length + 1) ks), 0⟩ : ABlk)] ++ mkRows (fun x => posL q x q.length) ks)[h.length + 2]? = some ⟨.cells [.int .i64 0, .int .i64 0, .int .i64 0, .bool false] 82 false false, 0⟩ := get_app (get_app hg2)
        have hEG : Ext h (A ++ [(⟨.map (mkEs (fun x => posL q x q.length) (A.length + 1) ks), 0⟩ : ABlk)] ++ mkRows (fun x => posL q x q.length) ks) := hE.app.app
        have hGl : h.length + 4 ≤ (A ++ [(⟨.map (mkEs (fun x => posL q x q.length) (A.length + 1) ks), 0⟩ : ABlk)] ++ mkRows (fun x => posL q x q.length) ks).length := by simp; omega
        have hGi : (A ++ [(⟨.map (mkEs (fun x => posL q x q.length) (A.length + 1) ks), 0⟩ : ABlk)] ++ mkRows (fun x => posL q x q.length) ks).length = A.length + 1 + (mkRows (fun x => posL q x q.length) ks).length := by simp; omega
        try rw [← hGi]
        generalize hG : A ++ [(⟨.map (mkEs (fun x => posL q x q.length) (A.length + 1) ks), 0⟩ : ABlk)] ++ mkRows (fun x => posL q x q.length) ks = G at *
        rw [hAl] at hvx
        have hIG := hI.ext hEG
        have hIG' := hI'.ext hEG
        refine WP_loop (fun σ => ∃ a : Nat, ∃ T : Heap, σ.fr 49 = .int .i64 (a : Int) ∧ σ.fr 47 = v ∧ σ.fr 48 = .int .i64 p.length ∧ σ.fr 7 = .map (some (h.length + 3)) ∧ σ.fr 2 = .ptr (some ⟨h.length, 0, 0⟩) ∧ σ.fr 3 = .ptr (some ⟨h.length + 1, 0, 0⟩) ∧ σ.fr 4 = .ptr (some ⟨h.length + 2, 0, 0⟩) ∧ σ.fr 10 = .ptr (some ⟨G.length, 0, 0⟩) ∧ σ.h = G ++ [⟨.cells (runC (shAll p q a)) 82 false false, 0⟩] ++ T ∧ a ≤ p.length ∧ (True)) (fun σ => match σ.fr 49 with | .int _ x => (((p.length : Nat) : Int) - x).toNat | _ => 0) ?_ ?_
        · refine ⟨0, [], ?_, ?_, ?_, ?_, ?_, ?_, ?_, ?_, ?_, by omega, trivial⟩
          iterate 8 focus (first | rfl | (simp (disch := first | exact dschD18 | fail) only [go_sem, Int.natCast_zero, r7, r2, r3, r4]; first | done | rfl))
          dsimp only
          rw [List.append_nil]
          rfl
        · rintro ⟨fr, hp⟩ ⟨a, T, r49, r47, r48, r7, r2, r3, r4, r10, rh, hi, hP⟩
          dsimp only at r49 r47 r48 r7 r2 r3 r4 r10 rh hi hP
          subst rh
          have q49 := r49
          have hlk : ∀ {x : Int} {B C D : Heap}, lookupA prog (G ++ B ++ C ++ D) 141 (.map (some (h.length + 3))) (.int .i64 x) false = some (vx x) := fun {x B C D} => by
            rw [List.append_assoc, List.append_assoc]; exact (hvx x).1
          have hIx := (hvx (p.getD a 0)).2
          by_cases hap : (a : Int) < p.length
          · have hap' : ((a : Int) < p.length) = True := eq_true hap
            have hsp := @Nat.succ_ne_zero; repeat' (first | simp (disch := first | exact dschD18 | fail) only [go_sem, hsp, r49, r47, r48, r7, r2, r3, r4, r10, pap, hlk, hap'] | refine WP_drw ?_ | refine cnd_intro (fun hsp => ?_) fun hsp => ?_)
            have hLl := posL_len (q := q) (x := p.getD a 0) q.length
            generalize hL : posL q (p.getD a 0) q.length = L at *
            refine WP_loop (fun σ => ∃ j : Nat, ∃ T2 : Heap, σ.fr 58 = .int .i64 (j : Int) ∧ σ.fr 57 = .int .i64 L.length ∧ σ.fr 56 = vx (p.getD a 0) ∧ σ.fr 11 = .ptr (some ⟨G.length + 1 + T.length, 0, 0⟩) ∧ σ.fr 47 = v ∧ σ.fr 48 = .int .i64 p.length ∧ σ.fr 49 = .int .i64 a ∧ σ.fr 7 = .map (some (h.length + 3)) ∧ σ.fr 2 = .ptr (some ⟨h.length, 0, 0⟩) ∧ σ.fr 3 = .ptr (some ⟨h.length + 1, 0, 0⟩) ∧ σ.fr 4 = .ptr (some ⟨h.length + 2, 0, 0⟩) ∧ σ.fr 10 = .ptr (some ⟨G.length, 0, 0⟩) ∧ σ.h = G ++ [⟨.cells (runC (shRow p q a L (shAll p q a) j)) 82 false false, 0⟩] ++ T ++ [intB a] ++ T2 ∧ j ≤ L.length ∧ (True)) (fun σ => match σ.fr 58 with | .int _ x => (((L.length : Nat) : Int) - x).toNat | _ => 0) ?_ ?_
            · refine ⟨0, [], ?_, ?_, ?_, ?_, ?_, ?_, ?_, ?_, ?_, ?_, ?_, ?_, ?_, by omega, trivial⟩
              iterate 12 focus (first | rfl | (simp (disch := first | exact dschD18 | fail) only [go_sem, Int.natCast_zero, r7, r2, r3, r4, r10, r47, r48, r49, shRow_zero]; first | done | rfl))
              dsimp only
              rw [List.append_nil]
              rfl
            · rintro ⟨fr, hp⟩ ⟨j, T2, r58, r57, r56, r11, r47, r48, r49, r7, r2, r3, r4, r10, rh, hi, hP⟩
              dsimp only at r58 r57 r56 r11 r47 r48 r49 r7 r2 r3 r4 r10 rh hi hP
              subst rh
              have bs : ∀ {lit : Bool} {H : Heap}, lit = false → bsA prog lit H 120 2 [(0, .bool false), (1, .bool true)] = some (.slice (some ⟨H.length, 0, 0⟩) 2 2, H ++ [⟨.cells [.bool false, .bool true] 4 true false, 0⟩]) := fun {lit H} hl => by
                subst hl
                simp [bsA, rowOf, Fc.el120, fillA, repCells, AVal.isN, AVal.cells, splice]
              by_cases hjl : (j : Int) < L.length
              · have hjl' : ((j : Int) < L.length) = True := eq_true hjl
                have hLb : L.getD j 0 = ((((L.getD j 0).toNat : Nat)) : Int) ∧ (L.getD j 0).toNat < q.length := by
                  have := posL_mem (q := q) (x := p.getD a 0) (m := q.length) (y := L.getD j 0) (by rw [hL]; exact getD_mem (by omega))
                  omega
                obtain ⟨hLb1, hLb2⟩ := hLb
                generalize (L.getD j 0).toNat = b at hLb1 hLb2
                have q58 := r58
                have hsp := @Nat.succ_ne_zero; repeat' (first | simp (disch := first | exact dschD18 | fail) only [go_sem, hsp, r58, r57, r56, r11, r47, r48, r49, r7, r2, r3, r4, r10, pap, bs, hjl', hLb1] | refine WP_drw ?_ | refine cnd_intro (fun hsp => ?_) fun hsp => ?_)
                refine WP_loop (fun σ => ∃ e : Nat, ∃ T3 : Heap, σ.fr 64 = .int .i64 (e : Int) ∧ σ.fr 62 = .slice (some ⟨G.length + 1 + T.length + 1 + T2.length + 1, 0, 0⟩) 2 2 ∧ σ.fr 63 = .int .i64 2 ∧ σ.fr 14 = .ptr (some ⟨G.length + 1 + T.length + 1 + T2.length, 0, 0⟩) ∧ σ.fr 58 = .int .i64 j ∧ σ.fr 57 = .int .i64 L.length ∧ σ.fr 56 = vx (p.getD a 0) ∧ σ.fr 11 = .ptr (some ⟨G.length + 1 + T.length, 0, 0⟩) ∧ σ.fr 47 = v ∧ σ.fr 48 = .int .i64 p.length ∧ σ.fr 49 = .int .i64 a ∧ σ.fr 7 = .map (some (h.length + 3)) ∧ σ.fr 2 = .ptr (some ⟨h.length, 0, 0⟩) ∧ σ.fr 3 = .ptr (some ⟨h.length + 1, 0, 0⟩) ∧ σ.fr 4 = .ptr (some ⟨h.length + 2, 0, 0⟩) ∧ σ.fr 10 = .ptr (some ⟨G.length, 0, 0⟩) ∧ σ.h = G ++ [(⟨.cells (runC (shB p q a (shRow p q a L (shAll p q a) j) b e)) 82 false false, 0⟩ : ABlk)] ++ T ++ [intB a] ++ T2 ++ [intB b] ++ [(⟨.cells [.bool false, .bool true] 4 true false, 0⟩ : ABlk)] ++ T3 ∧ e ≤ 2 ∧ (True)) (fun σ => match σ.fr 64 with | .int _ x => (((2 : Nat) : Int) - x).toNat | _ => 0) ?_ ?_
                · refine ⟨0, [], ?_, ?_, ?_, ?_, ?_, ?_, ?_, ?_, ?_, ?_, ?_, ?_, ?_, ?_, ?_, ?_, ?_, by omega, trivial⟩
                  iterate 16 focus (first | rfl | (simp (disch := first | exact dschD18 | fail) only [go_sem, Int.natCast_zero, r7, r2, r3, r4, r10, r47, r48, r49, r57, r56, r58, r11]; first | done | rfl))
                  dsimp only
                  rw [List.append_nil]
                  rfl
                · rintro ⟨fr, hp⟩ ⟨e, T3, r64, r62, r63, r14, r58, r57, r56, r11, r47, r48, r49, r7, r2, r3, r4, r10, rh, hi, hP⟩
                  dsimp only at r64 r62 r63 r14 r58 r57 r56 r11 r47 r48 r49 r7 r2 r3 r4 r10 rh hi hP
                  subst rh
                  by_cases he2 : (e : Int) < 2
                  · have he2' : ((e : Int) < 2) = True := eq_true he2
                    obtain ⟨back, hback⟩ : ∃ back : Bool, (e = 0 ∧ back = false) ∨ (e = 1 ∧ back = true) := by
                      have : e = 0 ∨ e = 1 := by omega
                      rcases this with h0 | h1
                      · exact ⟨false, .inl ⟨h0, rfl⟩⟩
                      · exact ⟨true, .inr ⟨h1, rfl⟩⟩
                    have hld : ([.bool false, .bool true] : List AVal)[e]? = some (.bool back) := by
                      rcases hback with ⟨rfl, rfl⟩ | ⟨rfl, rfl⟩ <;> rfl
                    have hext := extF_le (p := p) (q := q) (a := a) (b := b) (back := back) (m := p.length) (n := 0)
                    have hcall := fun base => call_on (base := base) (K := G ++ [(⟨.cells (runC (shB p q a (shRow p q a L (shAll p q a) j) b e)) 82 false false, 0⟩ : ABlk)] ++ T ++ [intB a] ++ T2 ++ [intB b] ++ [(⟨.cells [.bool false, .bool true] 4 true false, 0⟩ : ABlk)] ++ T3) (P := h.length) (Q := h.length + 1) (A := G.length + 1 + T.length) (B := G.length + 1 + T.length + 1 + T2.length) (Y := G.length + 1 + T.length + 1 + T2.length + 1 + 1 + T3.length) (N := G.length + 1 + T.length + 1 + T2.length + 1 + 1 + T3.length + 1) (S := G.length + 1 + T.length + 1 + T2.length + 1 + 1 + T3.length + 1 + 1) (v := v) (v' := v') (p := p) (q := q) (w := w) (w' := w) (a := a) (b := b) (back := back) (by omega) (by omega) (by omega) (by omega)
                      hIG.app.app.app.app.app.app.app hIG'.app.app.app.app.app.app.app (get_app (get_app (get_app (get_app (get_app (get_app (get_app k0))))))) (get_app (get_app (get_app (get_app (get_app (get_app (get_app k1))))))) (get_app (get_app (get_app (get_app (by rw [get_eq (by (first | rfl | (simp only [List.length_append, List.length_cons, List.length_nil, List.length_set]; done) | (simp only [List.length_append, List.length_cons, List.length_nil, List.length_set]; omega)))]))))) (get_app (get_app (by rw [get_eq (by (first | rfl | (simp only [List.length_append, List.length_cons, List.length_nil, List.length_set]; done) | (simp only [List.length_append, List.length_cons, List.length_nil, List.length_set]; omega)))]))) (by (first | rfl | (simp only [List.length_append, List.length_cons, List.length_nil, List.length_set]; done) | (simp only [List.length_append, List.length_cons, List.length_nil, List.length_set]; omega))) (by (first | rfl | (simp only [List.length_append, List.length_cons, List.length_nil, List.length_set]; done) | (simp only [List.length_append, List.length_cons, List.length_nil, List.length_set]; omega))) (by (first | rfl | (simp only [List.length_append, List.length_cons, List.length_nil, List.length_set]; done) | (simp only [List.length_append, List.length_cons, List.length_nil, List.length_set]; omega)))
                    simp only [intB, runC] at hcall
                    cases back with
                    | false =>
                      simp only [byI, Bool.false_eq_true, if_false] at hcall
                      have hsp := @Nat.succ_ne_zero; repeat' (first | simp (disch := first | exact dschD18 | fail) only [go_sem, hsp, r64, r62, r63, r14, r58, r57, r56, r11, r47, r48, r49, r7, r2, r3, r4, r10, pap, he2', hld, runC, intB, hcall, runV] | refine WP_drw ?_ | refine cnd_intro (fun hsp => ?_) fun hsp => ?_)
                      · refine ⟨⟨e + 1, T3 ++ [intB 1] ++ [intB (extF p q a b false p.length 0 : Nat)] ++ [fnB h.length (h.length + 1) (G.length + 1 + T.length) (G.length + 1 + T.length + 1 + T2.length) (G.length + 1 + T.length + 1 + T2.length + 1 + 1 + T3.length) (G.length + 1 + T.length + 1 + T2.length + 1 + 1 + T3.length + 1) (G.length + 1 + T.length + 1 + T2.length + 1 + 1 + T3.length + 1 + 1)], by simp, ?_, by omega⟩, by omega⟩
                        rw [shB_pos hback (by omega)]
                        exact asc4
                      · refine ⟨⟨e + 1, T3 ++ [intB 1] ++ [intB (extF p q a b false p.length 0 : Nat)] ++ [fnB h.length (h.length + 1) (G.length + 1 + T.length) (G.length + 1 + T.length + 1 + T2.length) (G.length + 1 + T.length + 1 + T2.length + 1 + 1 + T3.length) (G.length + 1 + T.length + 1 + T2.length + 1 + 1 + T3.length + 1) (G.length + 1 + T.length + 1 + T2.length + 1 + 1 + T3.length + 1 + 1)], by simp, ?_, by omega⟩, by omega⟩
                        rw [shB_neg hback (by omega)]
                        exact asc4
                    | true =>
                      simp only [byI, if_true] at hcall
                      have hsp := @Nat.succ_ne_zero; repeat' (first | simp (disch := first | exact dschD18 | fail) only [go_sem, hsp, r64, r62, r63, r14, r58, r57, r56, r11, r47, r48, r49, r7, r2, r3, r4, r10, pap, he2', hld, runC, intB, hcall, runV] | refine WP_drw ?_ | refine cnd_intro (fun hsp => ?_) fun hsp => ?_)
                      · refine ⟨⟨e + 1, T3 ++ [intB (-1)] ++ [intB (extF p q a b true p.length 0 : Nat)] ++ [fnB h.length (h.length + 1) (G.length + 1 + T.length) (G.length + 1 + T.length + 1 + T2.length) (G.length + 1 + T.length + 1 + T2.length + 1 + 1 + T3.length) (G.length + 1 + T.length + 1 + T2.length + 1 + 1 + T3.length + 1) (G.length + 1 + T.length + 1 + T2.length + 1 + 1 + T3.length + 1 + 1)], by simp, ?_, by omega⟩, by omega⟩
                        rw [shB_pos hback (by omega)]
                        exact asc4
                      · refine ⟨⟨e + 1, T3 ++ [intB (-1)] ++ [intB (extF p q a b true p.length 0 : Nat)] ++ [fnB h.length (h.length + 1) (G.length + 1 + T.length) (G.length + 1 + T.length + 1 + T2.length) (G.length + 1 + T.length + 1 + T2.length + 1 + 1 + T3.length) (G.length + 1 + T.length + 1 + T2.length + 1 + 1 + T3.length + 1) (G.length + 1 + T.length + 1 + T2.length + 1 + 1 + T3.length + 1 + 1)], by simp, ?_, by omega⟩, by omega⟩
                        rw [shB_neg hback (by omega)]
                        exact asc4
                  · have he2' : ((e : Int) < 2) = False := eq_false he2
                    have ee : e = 2 := by omega
                    subst ee
                    have hsp := @Nat.succ_ne_zero; repeat' (first | simp (disch := first | exact dschD18 | fail) only [go_sem, hsp, r64, r63, r62, r14, r58, r57, r56, r11, r47, r48, r49, r7, r2, r3, r4, r10, pap, he2'] | refine WP_drw ?_ | refine cnd_intro (fun hsp => ?_) fun hsp => ?_)
                    refine ⟨⟨j + 1, T2 ++ [intB b] ++ [⟨.cells [.bool false, .bool true] 4 true false, 0⟩] ++ T3, by simp, ?hh, by omega⟩, ?mm⟩
                    case hh =>
                      rw [shRow_succ, hLb1, Int.toNat_natCast, ← shB_two]
                      exact asc4
                    case mm =>
                      rw [q58]
                      dsimp only
                      omega
              · have hjl' : ((j : Int) < L.length) = False := eq_false hjl
                have ej : j = L.length := by omega
                subst ej
                have hsp := @Nat.succ_ne_zero; repeat' (first | simp (disch := first | exact dschD18 | fail) only [go_sem, hsp, r58, r57, r56, r11, r47, r48, r49, r7, r2, r3, r4, r10, pap, hjl'] | refine WP_drw ?_ | refine cnd_intro (fun hsp => ?_) fun hsp => ?_)
                refine ⟨⟨a + 1, T ++ [intB a] ++ T2, by simp, ?hh, by omega⟩, ?mm⟩
                case hh =>
                  rw [shAll_succ, hL]
                  exact asc3
                case mm =>
                  rw [q49]
                  dsimp only
                  omega
          · have hap' : ((a : Int) < p.length) = False := eq_false hap
            have ea : a = p.length := by omega
            subst ea
            by_cases hz : (shAll p q p.length).2.2.1 = 0
            · have hz' : ((((shAll p q p.length).2.2.1 : Nat) : Int) = 0) = True := eq_true (by omega)
              rw [shareS, if_neg (by simp [hc]), if_pos hz]
              have hsp := @Nat.succ_ne_zero; repeat' (first | simp (disch := first | exact dschD18 | fail) only [go_sem, hsp, r49, r47, r48, r7, r2, r3, r4, r10, pap, runC, k2, hap', hz'] | refine WP_drw ?_ | refine cnd_intro (fun hsp => ?_) fun hsp => ?_)
              exact fin_pl rfl rfl ((hEG.set (by omega)).app.app)
            · have hz' : ((((shAll p q p.length).2.2.1 : Nat) : Int) = 0) = False := eq_false (by omega)
              rw [shareS, if_neg (by simp [hc]), if_neg hz]
              have hsp := @Nat.succ_ne_zero; repeat' (first | simp (disch := first | exact dschD18 | fail) only [go_sem, hsp, r49, r47, r48, r7, r2, r3, r4, r10, pap, runC, k2, hap', hz'] | refine WP_drw ?_ | refine cnd_intro (fun hsp => ?_) fun hsp => ?_)
              exact fin_pl rfl rfl ((hEG.set (by omega)).app.app)
  · rw [shareS, if_pos hc]
    have hsp := @Nat.succ_ne_zero; repeat' (first | simp (disch := first | exact dschD18 | fail) only [go_sem, hsp, pap, hc] | refine WP_drw ?_ | refine cnd_intro (fun hsp => ?_) fun hsp => ?_)
    exact fin_pl rfl rfl (.app (.app (.app .refl)))
attribute [go_sem] run59
end Go.AM
