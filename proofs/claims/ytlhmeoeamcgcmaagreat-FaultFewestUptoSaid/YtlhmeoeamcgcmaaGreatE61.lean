/-
  Contracts: all truths listed; those that explain a loom.
-/
import Derived.Test.YtlhmeoeamcgcmaaGreatE60
set_option linter.unusedSimpArgs false
set_option linter.unusedVariables false
namespace Go.AM
open Go.Proofs.Tryz
theorem dschE61 {p : Prop} (h : p := by first | exact Nat.ne_of_beq_eq_false rfl | assumption | (apply asOne; (first | exact One.int | exact One.bool | assumption | exact Ints.one (by assumption) | exact Rows.one (by assumption) | exact Own.one (by assumption) | exact One.lit ⟨rfl, rfl, rfl⟩)) | (apply asInts; (repeat first | assumption | exact ints_nil | apply Ints.app); done) | (apply asRows; (repeat first | assumption | exact Rows.nil | apply Rows.app); done) | (apply asScal; (first | apply allS1 | apply allS2 | apply allS3 | apply allS4) <;> (first | exact One.int | exact One.bool | assumption | exact Ints.one (by assumption) | exact Rows.one (by assumption) | exact Own.one (by assumption) | exact One.lit ⟨rfl, rfl, rfl⟩)) | exact litT rfl | exact litF rfl | omega | (simp only [List.length_append, List.length_cons, List.length_nil, List.length_set, List.length_reverse]; first | done | omega) | fail) : p := h
attribute [-go_sem] put_ne put_same
attribute [local go_sem ↓] put_if
theorem toN_mem {k : Int} {f : Nat} {rest : List (List Brk)} {x : List Brk} : ∀ n, x ∈ toN k f rest n ↔ ∃ j, j < n ∧ ∃ y ∈ rest, x = (k, (f : Int), ((f + j : Nat) : Int)) :: y
  | 0 => by simp [toN]
  | n + 1 => by
    rw [toN, List.mem_append, toN_mem n]
    unfold addB
    rw [List.mem_map]
    constructor
    · rintro (⟨j, hj, y, hy, rfl⟩ | ⟨y, hy, rfl⟩)
      · exact ⟨j, by omega, y, hy, rfl⟩
      · exact ⟨n, by omega, y, hy, rfl⟩
    · rintro ⟨j, hj, y, hy, rfl⟩
      by_cases e : j = n
      · subst e; exact .inr ⟨y, hy, rfl⟩
      · exact .inl ⟨j, by omega, y, hy, rfl⟩
theorem frN_mem {k : Int} {T : Nat} {rest : List (List Brk)} {x : List Brk} : ∀ n, x ∈ frN k T rest n ↔ ∃ f j, f < n ∧ j < T - f ∧ ∃ y ∈ rest, x = (k, (f : Int), ((f + j : Nat) : Int)) :: y
  | 0 => by simp [frN]
  | n + 1 => by
    rw [frN, List.mem_append, frN_mem n, toN_mem]
    constructor
    · rintro (⟨f, j, hf, hj, h⟩ | ⟨j, hj, h⟩)
      · exact ⟨f, j, by omega, hj, h⟩
      · exact ⟨n, j, by omega, hj, h⟩
    · rintro ⟨f, j, hf, hj, h⟩
      by_cases e : f = n
      · subst e; exact .inr ⟨j, hj, h⟩
      · exact .inl ⟨f, j, by omega, hj, h⟩
/-- Which truths are listed. -/
theorem allR_mem {T : Nat} : ∀ (m k : Nat) {x : List Brk}, x ∈ allR T k m ↔ x.Pairwise (fun a b => a.1 < b.1) ∧ ∀ b ∈ x, ((k : Int) ≤ b.1 ∧ b.1 < ((k + m : Nat) : Int)) ∧ 0 ≤ b.2.1 ∧ b.2.1 ≤ b.2.2 ∧ b.2.2 < (T : Int)
  | 0, k, x => by
    simp only [allR, List.mem_singleton]
    constructor
    · rintro rfl; exact ⟨.nil, by simp⟩
    · rintro ⟨_, h⟩
      cases x with
      | nil => rfl
      | cons b x => have := (h b (by simp)).1; omega
  | m + 1, k, x => by
    rw [allR, List.mem_append, allR_mem m (k + 1), frN_mem]
    constructor
    · rintro (⟨h1, h2⟩ | ⟨f, j, hf, hj, y, hy, rfl⟩)
      · exact ⟨h1, fun b hb => ⟨by have := (h2 b hb).1; omega, (h2 b hb).2⟩⟩
      · obtain ⟨h1, h2⟩ := (allR_mem m (k + 1)).1 hy
        refine ⟨List.pairwise_cons.2 ⟨fun b hb => by have := (h2 b hb).1; simp only; omega, h1⟩, fun b hb => ?_⟩
        rcases List.mem_cons.1 hb with rfl | hb
        · simp only; omega
        · exact ⟨by have := (h2 b hb).1; omega, (h2 b hb).2⟩
    · rintro ⟨h1, h2⟩
      cases x with
      | nil => exact .inl ⟨.nil, by simp⟩
      | cons b y =>
        have hb := h2 b (by simp)
        have hy : ∀ c ∈ y, ((k + 1 : Nat) : Int) ≤ c.1 ∧ c.1 < ((k + 1 + m : Nat) : Int) := fun c hc => by
          have := List.rel_of_pairwise_cons h1 hc
          have := (h2 c (by simp [hc])).1
          omega
        by_cases e : b.1 = (k : Int)
        · refine .inr ⟨b.2.1.toNat, (b.2.2 - b.2.1).toNat, by omega, by omega, y, (allR_mem m (k + 1)).2 ⟨(List.pairwise_cons.1 h1).2, fun c hc => ⟨hy c hc, (h2 c (by simp [hc])).2⟩⟩, ?_⟩
          congr 1
          rw [← e]
          refine Prod.ext rfl (Prod.ext ?_ ?_)
          · show b.2.1 = ((b.2.1.toNat : Nat) : Int); omega
          · show b.2.2 = ((b.2.1.toNat + (b.2.2 - b.2.1).toNat : Nat) : Int); omega
        · refine .inl ⟨h1, fun c hc => ⟨?_, (h2 c hc).2⟩⟩
          rcases List.mem_cons.1 hc with rfl | hc
          · omega
          · exact hy c hc
theorem rise_len {α : Type} {f : α → Int} : ∀ (l : List α) {a c : Int}, l.Pairwise (fun x y => f x < f y) → (∀ x ∈ l, a ≤ f x ∧ f x < c) → a ≤ c → (l.length : Int) ≤ c - a
  | [], a, c, _, _, h => by simp; omega
  | x :: l, a, c, hp, hm, h => by
    have hx := hm x (by simp)
    have := rise_len l (a := f x + 1) (c := c) (List.pairwise_cons.1 hp).2 (fun y hy => ⟨by have := List.rel_of_pairwise_cons hp hy; omega, (hm y (by simp [hy])).2⟩) (by omega)
    simp only [List.length_cons]
    omega
theorem allR_len {T m k : Nat} {x : List Brk} (h : x ∈ allR T k m) : x.length ≤ m := by
  obtain ⟨h1, h2⟩ := (allR_mem m k).1 h
  have := rise_len (f := fun b : Brk => b.1) x (a := (k : Int)) (c := ((k + m : Nat) : Int)) h1 (fun b hb => (h2 b hb).1) (by omega)
  omega
theorem bsE0 {lit : Bool} {A : Heap} : bsA prog lit A 37 0 [] = some (.emp, A) := by
  simp [bsA, rowOf, Fc.el37, fillA, repCells]
theorem app_emp {α : Type} {E : Enc α} {e t : TypeId} {base : Nat} {h : Heap} {x : AVal} {l : List α} {zs : List AVal} (hR : Rows E h x l) (hs : ∀ y, (E.cells y).all AVal.scalar = true) (ht : elS prog t = some (e, E.z, zs)) (h0 : 0 < l.length) (hl : l.length < 2147483648) :
    appendA prog base h t .emp x = some (.slice (some ⟨h.length, 0, 0⟩) l.length l.length, h ++ [rowE E e l 0]) := by
  simp only [appendA, ht, hR.lenA, hR.firstN, flat_scalar hs, if_true]
  rw [if_neg (by omega), if_pos (show l.length < 2 ^ 31 from hl)]
  rfl
/-- A break ahead of a truth. -/
theorem app1B {base : Nat} {K : Heap} {w : AVal} {x : List Brk} {b : Brk} (hR : Rows encB K w x) (hb : base ≤ K.length) (hl : x.length ≤ 1000) :
    ∃ tv K2, appendA prog base (K ++ [rowE encB 128 [b] 0]) 66 (.slice (some ⟨K.length, 0, 0⟩) 1 1) w = some (tv, K2) ∧ Own encB 128 0 K2 tv (b :: x) ∧ Ext K K2 := by
  have o1 : Own encB 128 K.length (K ++ [rowE encB 128 [b] 0]) (.slice (some ⟨K.length, 0, 0⟩) 1 1) [b] := .inr ⟨K.length, 0, rfl, get_eq rfl, Nat.le_refl _, by simp⟩
  by_cases hx : x = []
  · subst hx
    exact ⟨_, _, app_nil o1 (hR.ext (.app .refl)) Fc.el66 hb, o1.low (Nat.zero_le _), .app .refl⟩
  · obtain ⟨tv, K2, a1, a2, a3, a4, a5⟩ := o1.appendR (P := prog) (base := base) (t := 66) (hR.ext (.app .refl)) Fc.el66 encB_sc hb (by simp) (List.length_pos_iff.2 hx) (by simp; omega)
    exact ⟨tv, K2, a1, a2.low (Nat.zero_le _), a4 K (Nat.le_refl _) (.app .refl)⟩
set_option maxHeartbeats 4000000 in
theorem run_AllR {L : Lom} {pv sv : AVal} (hLT : 1 ≤ L.T ∧ L.T ≤ 12) (hpl : L.ps.length ≤ 6) (hS : One sv) : ∀ (m : Nat) {k base : Nat} {h : Heap}, k + m = L.ps.length → (allR L.T.toNat k m).length ≤ 3000 → base ≤ h.length → Parts h pv L.ps →
    Ret prog raw base (.fn 16 [] []) [lomV L.R L.T pv sv, .int .i64 (k : Int)] h (fun v H => Ext h H ∧ AllAt h.length H v (allR L.T.toNat k m))
  | 0, k, base, h, hk, hl, hb, hP => by
    have ho := hP.one
    have l1 : ∀ {a : ABlk}, lenOpA prog (h ++ [a]) 29 pv = some (.int .i64 (L.ps.length : Int)) := fun {a} => (hP.ext (.app .refl)).lenR
    have t1 : ((k : Int) = (L.ps.length : Int)) = True := eq_true (by omega)
    have bz : ∀ {lit : Bool} {A : Heap}, lit = false → bsA prog lit A 37 1 [(0, .slice none 0 0)] = some (.slice (some ⟨A.length, 0, 0⟩) 1 1, A ++ [rowE encZ 66 [.slice none 0 0] 0]) := fun hl => bsZ0 ⟨rfl, rfl, rfl⟩ hl
    refine ret_raw func16 rfl (by kernel_rfl) ?_
    have hsp := @Nat.succ_ne_zero; repeat' (first | simp (disch := first | exact dschE61 | fail) only [go_sem, ↓reduceIte, hsp, l1, t1, bz] | refine WP_drw ?_ | refine cnd_intro (fun hsp => ?_) fun hsp => ?_)
    refine ⟨.app (.app .refl), [.slice none 0 0], .inr ⟨h.length + 1, 0, rfl, get_eq (by simp), by omega, by simp⟩, rfl, fun i x t a c => ?_⟩
    cases i with
    | zero =>
      simp only [allR, List.getElem?_cons_zero, Option.some.injEq] at a c
      subst a c
      exact .inl Own.nil
    | succ i => simp at a
  | m + 1, k, base, h, hk, hl, hb, hP => by
    have ho := hP.one
    have l1 : ∀ {a : ABlk}, lenOpA prog (h ++ [a]) 29 pv = some (.int .i64 (L.ps.length : Int)) := fun {a} => (hP.ext (.app .refl)).lenR
    have t1 : ((k : Int) = (L.ps.length : Int)) = False := eq_false (by omega)
    obtain ⟨h1, eh1⟩ : ∃ h1, h1 = h ++ [(⟨.cells [.int .i64 L.R, .int .i64 L.T, pv, sv] 32 false false, 0⟩ : ABlk)] := ⟨_, rfl⟩
    have x1 : Ext h h1 := by rw [eh1]; exact .app .refl
    have hh1 := x1.len
    have l2 := (hP.ext x1).lenR
    have g1 : h1[h.length]? = some ⟨.cells [.int .i64 L.R, .int .i64 L.T, pv, sv] 32 false false, 0⟩ := by rw [eh1]; exact get_eq rfl
    obtain ⟨rest, er⟩ : ∃ rest, rest = allR L.T.toNat (k + 1) m := ⟨_, rfl⟩
    have hrl : rest.length ≤ 3000 := by rw [er]; simp only [allR, List.length_append] at hl; omega
    have hr0 : 0 < rest.length := by rw [er]; exact allR_pos _ _
    obtain ⟨w1, H1, e1, y1, oR⟩ := run_AllR hLT hpl hS m (k := k + 1) (base := base) (h := h1) (by omega) (by rw [← er]; exact hrl) (by omega) (hP.ext x1)
    rw [← er] at oR
    rw [show ((k + 1 : Nat) : Int) = (k : Int) + 1 by omega] at e1
    have r1 := oR.one
    refine ret_raw func16 rfl (by kernel_rfl) ?_
    obtain ⟨vs, hO, hvl, hin⟩ := id oR
    have hap := fun base => app_emp (base := base) (hO.rows (show vs.length < 2 ^ 60 by omega)) encZ_sc Fc.el37 (show 0 < vs.length by omega) (by omega)
    have hH1 := y1.len
    have hsp := @Nat.succ_ne_zero; repeat' (first | simp (disch := first | exact dschE61 | fail) only [go_sem, ↓reduceIte, hsp, ← eh1, l2, t1, g1, e1, bsE0, hap] | refine WP_drw ?_ | refine cnd_intro (fun hsp => ?_) fun hsp => ?_)
    obtain ⟨H2, eH2⟩ : ∃ H2, H2 = H1 ++ [rowE encZ 66 vs 0] := ⟨_, rfl⟩
    rw [← eH2]
    have y2 : Ext H1 H2 := by rw [eH2]; exact .app .refl
    have o2 : AllAt H1.length H2 (.slice (some ⟨H1.length, 0, 0⟩) vs.length vs.length) rest := ⟨vs, .inr ⟨H1.length, 0, rfl, by rw [eH2]; exact get_eq rfl, Nat.le_refl _, by omega⟩, hvl, fun i x t a c => (hin i x t a c).ext y2⟩
    clear eH2
    have g2 := y1.get g1
    obtain ⟨T, eT⟩ := Int.eq_ofNat_of_zero_le (show 0 ≤ L.T by omega)
    have eT2 : L.T.toNat = T := by omega
    rw [eT2] at er
    have hTs : allR T k (m + 1) = rest ++ frN (k : Int) T rest T := by rw [er]; rfl
    rw [eT2, hTs]
    have hnl := oR.len (show rest.length < 2 ^ 60 by omega)
    refine WP_count [(6, 54)] 0 T (Nat.zero_le _) (fun _ f fr h' => fr 7 = .int .i64 (f : Int) ∧ Ext H1 h' ∧ ∃ v, fr 6 = v ∧ AllAt H1.length h' v (rest ++ frN (k : Int) T rest f)) ?_ ?_ ?_
    · exact ⟨by (simp (disch := first | exact dschE61 | fail) only [go_sem, ↓reduceIte, Int.natCast_zero]; first | done | rfl), y2, .slice (some ⟨H1.length, 0, 0⟩) vs.length vs.length, by simp (disch := first | exact dschE61 | fail) only [go_sem, ↓reduceIte], by simp only [frN, List.append_nil]; exact o2⟩
    · rintro f fr H hf0 hf hA ⟨r7, xH, v, r6, oV⟩
      have p1 := hA 1 rfl
      have p2 := hA 2 rfl
      have p4 := hA 4 rfl
      have p5 := hA 5 rfl
      try simp (disch := first | exact dschE61 | fail) only [go_sem, ↓reduceIte] at p1 p2 p4 p5
      have pr1 := hA 1 rfl
      simp (disch := first | exact dschE61 | fail) only [go_sem, ↓reduceIte] at pr1
      have pr5 := hA 5 rfl
      simp (disch := first | exact dschE61 | fail) only [go_sem, ↓reduceIte] at pr5
      have hlt : ((f : Int) < L.T) = True := eq_true (by omega)
      have g1H := xH.get g2
      have hsp := @Nat.succ_ne_zero; repeat' (first | simp (disch := first | exact dschE61 | fail) only [go_sem, ↓reduceIte, hsp, r7, r6, p1, p2, p4, p5, hlt, g1H] | refine WP_drw ?_ | refine cnd_intro (fun hsp => ?_) fun hsp => ?_)
      refine WP_count [(6, 6), (8, 54)] 0 (T - f) (Nat.zero_le _) (fun _ j fr h' => fr 8 = .int .i64 ((f + j : Nat) : Int) ∧ Ext H1 h' ∧ ∃ v, fr 6 = v ∧ AllAt H1.length h' v (rest ++ frN (k : Int) T rest f ++ toN (k : Int) f rest j)) ?_ ?_ ?_
      · exact ⟨by (simp (disch := first | exact dschE61 | fail) only [go_sem, ↓reduceIte, Nat.add_zero, r7]; first | done | rfl), xH, v, by simp (disch := first | exact dschE61 | fail) only [go_sem, ↓reduceIte, r6], by simp only [toN, List.append_nil]; exact oV⟩
      · rintro j fr2 H2' hj0 hj hA2 ⟨r8, xH2, v2, r62, oV2⟩
        have q1 := hA2 1 rfl
        have q2 := hA2 2 rfl
        have q4 := hA2 4 rfl
        have q5 := hA2 5 rfl
        have q7 := hA2 7 rfl
        try simp (disch := first | exact dschE61 | fail) only [go_sem, ↓reduceIte, p1, p2, p4, p5] at q1 q2 q4 q5 q7
        have q7 := hA2 7 rfl
        simp (disch := first | exact dschE61 | fail) only [go_sem, ↓reduceIte, r7] at q7
        have qr1 := hA2 1 rfl
        simp (disch := first | exact dschE61 | fail) only [go_sem, ↓reduceIte, pr1] at qr1
        have qr5 := hA2 5 rfl
        simp (disch := first | exact dschE61 | fail) only [go_sem, ↓reduceIte, pr5] at qr5
        have hlt2 : (((f + j : Nat) : Int) < L.T) = True := eq_true (by omega)
        have g1H2 := xH2.get g2
        have hsp := @Nat.succ_ne_zero; repeat' (first | simp (disch := first | exact dschE61 | fail) only [go_sem, ↓reduceIte, hsp, r8, r62, q7, q1, q2, q4, q5, q7, hlt2, g1H2] | refine WP_drw ?_ | refine cnd_intro (fun hsp => ?_) fun hsp => ?_)
        refine WP_count [(6, 6), (9, 54)] 0 rest.length (Nat.zero_le _) (fun _ i fr h' => fr 9 = .int .i64 (i : Int) ∧ Ext H1 h' ∧ ∃ v, fr 6 = v ∧ AllAt H1.length h' v (rest ++ frN (k : Int) T rest f ++ toN (k : Int) f rest j ++ addB (k : Int) (f : Int) ((f + j : Nat) : Int) (rest.take i))) ?_ ?_ ?_
        · exact ⟨by (simp (disch := first | exact dschE61 | fail) only [go_sem, ↓reduceIte, Int.natCast_zero]; first | done | rfl), xH2, v2, by simp (disch := first | exact dschE61 | fail) only [go_sem, ↓reduceIte, r62], by simp only [addB, List.take_zero, List.map_nil, List.append_nil]; exact oV2⟩
        · rintro i fr3 K hi0 hi hA3 ⟨r9, xK, v3, r63, oV3⟩
          have d1 := hA3 1 rfl
          have d2 := hA3 2 rfl
          have d4 := hA3 4 rfl
          have d5 := hA3 5 rfl
          have d7 := hA3 7 rfl
          have d8 := hA3 8 rfl
          try simp (disch := first | exact dschE61 | fail) only [go_sem, ↓reduceIte, q1, q2, q4, q5, q7] at d1 d2 d4 d5 d7 d8
          have d7 := hA3 7 rfl
          simp (disch := first | exact dschE61 | fail) only [go_sem, ↓reduceIte, q7] at d7
          have d8 := hA3 8 rfl
          simp (disch := first | exact dschE61 | fail) only [go_sem, ↓reduceIte, r8] at d8
          have dr1 := hA3 1 rfl
          simp (disch := first | exact dschE61 | fail) only [go_sem, ↓reduceIte, qr1] at dr1
          have dr5 := hA3 5 rfl
          simp (disch := first | exact dschE61 | fail) only [go_sem, ↓reduceIte, qr5] at dr5
          have hlt3 : ((i : Int) < (rest.length : Int)) = True := eq_true (by omega)
          have hnK := (oR.ext xK).len (show rest.length < 2 ^ 60 by omega)
          have hx : rest[i]? = some rest[i] := List.getElem?_eq_getElem hi
          obtain ⟨x, ex⟩ : ∃ x, x = rest[i] := ⟨_, rfl⟩
          rw [← ex] at hx
          obtain ⟨a, w, ad, ld, oW⟩ := (oR.ext xK).at (show rest.length < 2 ^ 60 by omega) hx
          have hw := oW.one
          have hKl := xK.len
          have hxl : x.length ≤ 6 := by
            have := allR_len (T := T) (m := m) (k := k + 1) (x := x) (by rw [← er]; exact List.mem_of_getElem? hx)
            omega
          obtain ⟨tv, K2, eA, oT, xK2⟩ := app1B (base := base) (b := ((k : Int), (f : Int), ((f + j : Nat) : Int))) (oW.rows (by omega)) (show base ≤ K.length by omega) (by omega)
          have hlen : (rest ++ frN (k : Int) T rest f ++ toN (k : Int) f rest j ++ addB (k : Int) (f : Int) ((f + j : Nat) : Int) (rest.take i)).length ≤ 10000000 := by
            have b1 := frN_len (k := (k : Int)) (T := T) (rest := rest) f
            have b2 : f * (T * rest.length) ≤ 12 * (12 * 3000) := Nat.mul_le_mul (by omega) (Nat.mul_le_mul (by omega) hrl)
            have b3 : j * rest.length ≤ 12 * 3000 := Nat.mul_le_mul (by omega) hrl
            rw [List.length_append, List.length_append, List.length_append, toN_len, addB_len, List.length_take]
            omega
          obtain ⟨z, A', bz, xA, w', h', eW, oN, hl5, hE, hw1, _⟩ := (oV3.ext xK2).snoc (base := base) (.inl oT) (by omega) (by have := xK2.len; omega) hlen
          have d1 := ld _ (.app (t := [rowE encB 128 [((k : Int), (f : Int), ((f + j : Nat) : Int))] 0]) .refl)
          have d0 := ld _ .refl
          have bsN : ∀ {lit : Bool} {A : Heap}, bsA prog lit A 66 1 [(0, .agg [.int .i64 (k : Int), .int .i64 (f : Int), .int .i64 ((f + j : Nat) : Int)])] = some (.slice (some ⟨A.length, 0, 0⟩) 1 1, A ++ [rowE encB 128 [((k : Int), (f : Int), ((f + j : Nat) : Int))] 0]) := fun {lit A} => bsBR (b := ((k : Int), (f : Int), ((f + j : Nat) : Int)))
          have ht1 := oT.one
          have hsp := @Nat.succ_ne_zero; repeat' (first | simp (disch := first | exact dschE61 | fail) only [go_sem, ↓reduceIte, hsp, r9, r63, d7, d8, dr1, dr5, d1, d2, d4, d5, d7, d8, hlt3, hnK, bsN, ad, d1, eA, bz, eW] | refine WP_drw ?_ | refine cnd_intro (fun hsp => ?_) fun hsp => ?_)
          refine ⟨by (repeat first | exact Agree.refl | assumption | refine Agree.put rfl ?_ | refine Agree.put0 ?_ | refine Agree.sub rfl (by assumption) ?_), by omega, hE _ (Nat.le_refl _) (xK.trans xK2), w', rfl, ?_⟩
          rw [addB_take hx, ← List.append_assoc]
          exact oN
        · rintro fr3 K hA3 ⟨r9, xK, v3, r63, oV3⟩
          have d1 := hA3 1 rfl
          have d2 := hA3 2 rfl
          have d4 := hA3 4 rfl
          have d5 := hA3 5 rfl
          have d7 := hA3 7 rfl
          have d8 := hA3 8 rfl
          try simp (disch := first | exact dschE61 | fail) only [go_sem, ↓reduceIte, q1, q2, q4, q5, q7] at d1 d2 d4 d5 d7 d8
          have d7 := hA3 7 rfl
          simp (disch := first | exact dschE61 | fail) only [go_sem, ↓reduceIte, q7] at d7
          have d8 := hA3 8 rfl
          simp (disch := first | exact dschE61 | fail) only [go_sem, ↓reduceIte, r8] at d8
          have dr1 := hA3 1 rfl
          simp (disch := first | exact dschE61 | fail) only [go_sem, ↓reduceIte, qr1] at dr1
          have dr5 := hA3 5 rfl
          simp (disch := first | exact dschE61 | fail) only [go_sem, ↓reduceIte, qr5] at dr5
          have hlt3 : ((rest.length : Int) < (rest.length : Int)) = False := eq_false (by omega)
          have hnK := (oR.ext xK).len (show rest.length < 2 ^ 60 by omega)
          rw [List.take_length] at oV3
          have hsp := @Nat.succ_ne_zero; repeat' (first | simp (disch := first | exact dschE61 | fail) only [go_sem, ↓reduceIte, hsp, r9, r63, d7, d8, dr5, d1, d2, d4, d5, d7, d8, hlt3, hnK] | refine WP_drw ?_ | refine cnd_intro (fun hsp => ?_) fun hsp => ?_)
          refine ⟨by (repeat first | exact Agree.refl | assumption | refine Agree.put rfl ?_ | refine Agree.put0 ?_ | refine Agree.sub rfl (by assumption) ?_), by omega, xK, v3, rfl, ?_⟩
          rw [toN, ← List.append_assoc]
          exact oV3
      · rintro fr2 H2' hA2 ⟨r8, xH2, v2, r62, oV2⟩
        have q1 := hA2 1 rfl
        have q2 := hA2 2 rfl
        have q4 := hA2 4 rfl
        have q5 := hA2 5 rfl
        have q7 := hA2 7 rfl
        try simp (disch := first | exact dschE61 | fail) only [go_sem, ↓reduceIte, p1, p2, p4, p5] at q1 q2 q4 q5 q7
        have q7 := hA2 7 rfl
        simp (disch := first | exact dschE61 | fail) only [go_sem, ↓reduceIte, r7] at q7
        have hlt2 : (((f + (T - f) : Nat) : Int) < L.T) = False := eq_false (by omega)
        have g1H2 := xH2.get g2
        have hsp := @Nat.succ_ne_zero; repeat' (first | simp (disch := first | exact dschE61 | fail) only [go_sem, ↓reduceIte, hsp, r8, r62, q7, q1, q2, q4, q5, q7, hlt2, g1H2] | refine WP_drw ?_ | refine cnd_intro (fun hsp => ?_) fun hsp => ?_)
        refine ⟨by (repeat first | exact Agree.refl | assumption | refine Agree.put rfl ?_ | refine Agree.put0 ?_ | refine Agree.sub rfl (by assumption) ?_), by omega, xH2, v2, rfl, ?_⟩
        rw [frN, ← List.append_assoc]
        exact oV2
    · rintro fr H hA ⟨r7, xH, v, r6, oV⟩
      have p1 := hA 1 rfl
      have p2 := hA 2 rfl
      have p4 := hA 4 rfl
      have p5 := hA 5 rfl
      try simp (disch := first | exact dschE61 | fail) only [go_sem, ↓reduceIte] at p1 p2 p4 p5
      have hlt : ((T : Int) < L.T) = False := eq_false (by omega)
      have g1H := xH.get g2
      have hsp := @Nat.succ_ne_zero; repeat' (first | simp (disch := first | exact dschE61 | fail) only [go_sem, ↓reduceIte, hsp, r7, r6, p1, p2, p4, p5, hlt, g1H] | refine WP_drw ?_ | refine cnd_intro (fun hsp => ?_) fun hsp => ?_)
      exact ⟨x1.trans (y1.trans xH), oV.low (by omega)⟩
end Go.AM
