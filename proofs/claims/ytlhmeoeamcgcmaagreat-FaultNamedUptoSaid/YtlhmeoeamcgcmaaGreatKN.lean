/-
  (The heap behind a spool that was turned: E34; own rows: E44.)
-/
import Derived.Test.YtlhmeoeamcgcmaaGreatG5
import Derived.Test.YtlhmeoeamcgcmaaGreatE44
import Derived.Test.YtlhmeoeamcgcmaaGreatK8
set_option linter.unusedSimpArgs false
set_option linter.unusedVariables false

/-
  Contracts: numbers in some order.
-/
namespace Go.AM
open Go.Proofs.Tryz
theorem dschK9 {p : Prop} (h : p := by first | exact Nat.ne_of_beq_eq_false rfl | assumption | (apply asOne; (first | exact One.int | exact One.bool | assumption | exact Ints.one (by assumption) | exact Rows.one (by assumption) | exact Own.one (by assumption) | exact One.lit ⟨rfl, rfl, rfl⟩)) | (apply asSp; (repeat first | assumption | apply SpAt.set | (refine SpAt.new ?_ (by (first | rfl | (simp only [List.length_append, List.length_cons, List.length_nil, List.length_set]; done) | (simp only [List.length_append, List.length_cons, List.length_nil, List.length_set]; omega)))) | apply SpAt.app | apply Bytes.app); done) | (apply asBytes; (repeat first | assumption | apply Bytes.app); done) | (apply asInts; (repeat first | assumption | exact ints_nil | apply Ints.app); done) | (apply asRows; (repeat first | assumption | exact Rows.nil | apply Rows.app); done) | (apply asScal; (first | apply allS1 | apply allS2 | apply allS3 | apply allS4) <;> (first | exact One.int | exact One.bool | assumption | exact Ints.one (by assumption) | exact Rows.one (by assumption) | exact Own.one (by assumption) | exact One.lit ⟨rfl, rfl, rfl⟩)) | exact litT rfl | exact litF rfl | omega | (simp only [List.length_append, List.length_cons, List.length_nil, List.length_set, List.length_reverse]; first | done | omega) | fail) : p := h
attribute [-go_sem] put_ne put_same
attribute [local go_sem ↓] put_if
theorem set_perm {a : List Int} {j : Nat} {x : Int} (hj : j < a.length) : (a.set j x ++ [a.getD j 0]).Perm (a ++ [x]) := by
  have e1 : a = a.take j ++ a.getD j 0 :: a.drop (j + 1) := by
    conv => lhs; rw [← List.take_append_drop j a]
    rw [List.drop_eq_getElem_cons hj, List.getD_eq_getElem?_getD, List.getElem?_eq_getElem hj]; rfl
  have hl : (a.take j).length = j := by rw [List.length_take]; omega
  have e2 : a.set j x = a.take j ++ x :: a.drop (j + 1) := by
    generalize a.getD j 0 = y at e1
    conv => lhs; rw [e1]
    rw [List.set_append_right _ _ (by omega), hl, Nat.sub_self]
    rfl
  rw [e2]
  conv => rhs; rw [e1]
  generalize a.take j = p
  generalize a.drop (j + 1) = q
  generalize a.getD j 0 = y
  simp only [List.append_assoc, List.cons_append]
  refine List.Perm.append_left p ?_
  refine (List.perm_append_comm (l₁ := x :: q) (l₂ := [y])).trans ?_
  exact (List.Perm.cons y (List.perm_append_comm (l₁ := [x]) (l₂ := q)))
theorem rep_zero : ∀ n, repCells [AVal.int .i64 0] n = ints (List.replicate n 0)
  | 0 => rfl
  | n + 1 => by rw [repCells, rep_zero n]; rfl
theorem ord_step {a r : List Int} {j k n : Nat} (hk : a.length = k) (hj : j ≤ k) (hp : a.Perm (upto k)) : ∃ a', a'.length = k + 1 ∧ a'.Perm (upto (k + 1)) ∧ ((a ++ List.replicate (n + 1) 0).set k ((a ++ List.replicate (n + 1) 0).getD j 0)).set j (k : Int) = a' ++ List.replicate n 0 := by
  rw [List.replicate_succ, upto_succ]
  by_cases e : j = k
  · subst e
    refine ⟨a ++ [(j : Int)], by simp [hk], hp.append_right _, ?_⟩
    rw [List.set_set, List.set_append_right _ _ (by omega), show j - a.length = 0 by omega]
    simp
  · have hja : j < a.length := by omega
    refine ⟨a.set j k ++ [a.getD j 0], by simp [hk], (set_perm hja).trans (hp.append_right _), ?_⟩
    rw [List.set_append_right _ _ (by omega), show k - a.length = 0 by omega, List.set_cons_zero, List.set_append_left _ _ hja, List.append_assoc]
    rw [List.getD_eq_getElem?_getD, List.getElem?_append_left hja, ← List.getD_eq_getElem?_getD]
    rfl
set_option maxHeartbeats 1000000 in
theorem run_order {base id k0 n : Nat} {h : Heap} {v : AVal} {silk : List Int} (hb : base ≤ h.length) (hS : SpAt h id v silk k0) (hk : k0 + n ≤ 900000) (hn : n ≤ 1000) :
    Ret prog raw base (.fn 63 [] []) [.ptr (some ⟨id, 0, 0⟩), .int .i64 (n : Int)] h (fun w H => SpE h id v silk (k0 + n) H ∧ ∃ l, OwnE encI 3 h.length H w l ∧ l.Perm (upto n)) := by
  have hid := lt_of_get hS.1
  refine ret_raw func63 rfl (by kernel_rfl) ?_
  have hm : max 0 (n : Int) = (n : Int) := by omega
  cases n with
  | zero =>
    have hlt : ((0 : Int) < 0) = False := eq_false (by omega)
    have mk : makeSliceA prog h 36 (.int .i64 0) (.int .i64 0) = some (.emp, h) := by simp [makeSliceA, Fc.el36]
    have le : lenOpA prog h 36 .emp = some (.int .i64 0) := by simp [lenOpA, Fc.el36, lenA]
    have hsp := @Nat.succ_ne_zero; repeat' (first | simp (disch := first | exact dschK9 | fail) only [go_sem, ↓reduceIte, hsp, Int.natCast_zero, show max (0 : Int) 0 = 0 from rfl, mk, le] | refine WP_drw ?_ | refine cnd_intro (fun hsp => ?_) fun hsp => ?_)
    rw [WP_loop1]
    have hsp := @Nat.succ_ne_zero; repeat' (first | simp (disch := first | exact dschK9 | fail) only [go_sem, ↓reduceIte, hsp, hlt] | refine WP_drw ?_ | refine cnd_intro (fun hsp => ?_) fun hsp => ?_)
    exact ⟨SpE.refl hS, [], .inr ⟨rfl, rfl⟩, .refl _⟩
  | succ n =>
    have mk : makeSliceA prog h 36 (.int .i64 ((n + 1 : Nat) : Int)) (.int .i64 ((n + 1 : Nat) : Int)) = some (.slice (some ⟨h.length, 0, 0⟩) (n + 1) (n + 1), h ++ [srB (List.replicate (n + 1) 0) 3 0]) := by
      simp only [makeSliceA, Fc.el36]
      rw [if_pos ⟨by omega, by omega, by omega⟩, if_neg (by omega), Int.toNat_natCast, rep_zero]
    have le : ∀ {H : Heap}, lenOpA prog H 36 (.slice (some ⟨h.length, 0, 0⟩) (n + 1) (n + 1)) = some (.int .i64 ((n + 1 : Nat) : Int)) := fun {H} => by simp [lenOpA, Fc.el36, lenA]
    have hsp := @Nat.succ_ne_zero; repeat' (first | simp (disch := first | exact dschK9 | fail) only [go_sem, ↓reduceIte, hsp, hm, mk, le] | refine WP_drw ?_ | refine cnd_intro (fun hsp => ?_) fun hsp => ?_)
    refine WP_count [(6, 7), (13, 30)] 0 (n + 1) (Nat.zero_le _) (fun _ i fr h' => fr 13 = .int .i64 (i : Int) ∧ ∃ a : List Int, a.length = i ∧ a.Perm (upto i) ∧ h' = h.set id (spB v silk (k0 + i)) ++ [srB (a ++ List.replicate (n + 1 - i) 0) 3 0]) ?_ ?_ ?_
    · refine ⟨by (simp (disch := first | exact dschK9 | fail) only [go_sem, ↓reduceIte, Int.natCast_zero]; first | done | rfl), [], rfl, .refl _, ?_⟩
      have e := set_id hS.1
      show _ = h.set id (spB v silk k0) ++ _
      rw [e]; rfl
    · rintro i fr H hi0 hi hA ⟨p13, a, hl, hp, eH⟩
      have p0 := hA 0 rfl
      have p4 := hA 4 rfl
      have p5 := hA 5 rfl
      have p12 := hA 12 rfl
      try simp (disch := first | exact dschK9 | fail) only [go_sem, ↓reduceIte] at p0 p4 p5 p12
      
      have hlt : ((i : Int) < ((n + 1 : Nat) : Int)) = True := eq_true (by omega)
      have hSp : SpAt H id v silk (k0 + i) := by rw [eH]; exact hS.set.app
      have up1 := up_bd (silk := silk) (k := k0 + i) (n := (i : Int)) (by omega)
      obtain ⟨j, ej⟩ := Int.eq_ofNat_of_zero_le up1.1
      obtain ⟨q, eq⟩ : ∃ q, n + 1 - i = q + 1 := ⟨n - i, by omega⟩
      obtain ⟨m, em⟩ : ∃ m, m = a ++ List.replicate (q + 1) (0 : Int) := ⟨_, rfl⟩
      have hml : m.length = n + 1 := by rw [em]; simp; omega
      rw [eq, ← em] at eH
      obtain ⟨G, eG⟩ : ∃ G, G = H.set id (spB v silk (k0 + i + 1)) := ⟨_, rfl⟩
      have eG2 : G = h.set id (spB v silk (k0 + i + 1)) ++ [srB m 3 0] := by
        rw [eG, eH, List.set_append_left _ _ (by simpa using hid), List.set_set]
      have gG : G[h.length]? = some ⟨.cells (ints m) 3 true false, 0⟩ := by rw [eG2]; exact get_eq (by simp)
      have ru := fun base => run_upto (base := base) (n := (i : Int)) hSp (by omega) (by omega)
      rw [← eG, ej] at ru
      have adr : ∀ x : Nat, x < n + 1 → indexAddrA prog 36 (.slice (some ⟨h.length, 0, 0⟩) (n + 1) (n + 1)) (.int .i64 (x : Int)) = some (.ptr (some ⟨h.length, 0, x⟩)) := fun x hx => by
        rw [adr_sl Fc.el36 Fc.ar36 (by omega) (by omega), Int.toNat_natCast, Nat.mul_one, Nat.zero_add]
      have a1 := adr j (by omega)
      have a2 := adr i (by omega)
      have d1 : loadP prog G 3 (.ptr (some ⟨h.length, 0, j⟩)) = some (.int .i64 (m.getD j 0)) := by
        rw [load_eq, Fc.ty3, gG]; exact ldB_ints (by omega)
      have st1 : ∀ {K : ABlk → Heap}, stQ base h.length (some ⟨.cells (ints m) 3 true false, 0⟩) 0 i [.int .i64 (m.getD j 0)] K = some (K ⟨.cells (ints (m.set i (m.getD j 0))) 3 true false, 0⟩) := fun {K} => stQ_ints (by omega)
      have st2 : ∀ {K : ABlk → Heap}, stQ base h.length (some ⟨.cells (ints (m.set i (m.getD j 0))) 3 true false, 0⟩) 0 j [.int .i64 (i : Int)] K = some (K ⟨.cells (ints ((m.set i (m.getD j 0)).set j (i : Int))) 3 true false, 0⟩) := fun {K} => stQ_ints (by simp; omega)
      obtain ⟨G3, eG3⟩ : ∃ G3, G3 = G.set h.length ⟨.cells (ints (m.set i (m.getD j 0))) 3 true false, 0⟩ := ⟨_, rfl⟩
      have g3 : G3[h.length]? = some ⟨.cells (ints (m.set i (m.getD j 0))) 3 true false, 0⟩ := by rw [eG3, List.getElem?_set_self (lt_of_get gG)]
      obtain ⟨a', h1, h2, h3⟩ := ord_step (r := []) (n := q) hl (show j ≤ i by omega) hp
      rw [← em] at h3
      have hsp := @Nat.succ_ne_zero; repeat' (first | simp (disch := first | exact dschK9 | fail) only [go_sem, ↓reduceIte, hsp, p0, p4, p5, p12, p13, hlt, ru, a1, a2, d1, gG, st1, ← eG3, g3, st2] | refine WP_drw ?_ | refine cnd_intro (fun hsp => ?_) fun hsp => ?_)
      refine ⟨by (repeat first | exact Agree.refl | assumption | refine Agree.put rfl ?_ | refine Agree.put0 ?_ | refine Agree.sub rfl (by assumption) ?_), by omega, a', h1, h2, ?_⟩
      rw [h3, eG3, eG2, List.set_set, List.set_append_right _ _ (by simp), List.length_set, Nat.sub_self, show n + 1 - (i + 1) = q by omega]
      rfl
    · rintro fr H hA ⟨p13, a, hl, hp, eH⟩
      have p0 := hA 0 rfl
      have p4 := hA 4 rfl
      have p5 := hA 5 rfl
      have p12 := hA 12 rfl
      try simp (disch := first | exact dschK9 | fail) only [go_sem, ↓reduceIte] at p0 p4 p5 p12
      
      have hlt : (((n + 1 : Nat) : Int) < ((n + 1 : Nat) : Int)) = False := eq_false (by omega)
      have hsp := @Nat.succ_ne_zero; repeat' (first | simp (disch := first | exact dschK9 | fail) only [go_sem, ↓reduceIte, hsp, p0, p4, p5, p12, p13, hlt] | refine WP_drw ?_ | refine cnd_intro (fun hsp => ?_) fun hsp => ?_)
      rw [Nat.sub_self, List.replicate_zero, List.append_nil] at eH
      refine ⟨by rw [eH]; exact Ext.app .refl, a, .inl (.inr ⟨h.length, 0, by rw [hl], by rw [eH, show srB a 3 0 = rowE encI 3 a 0 by unfold rowE; rw [flat_encI]]; exact get_eq (by simp), Nat.le_refl _, by omega⟩), hp⟩
end Go.AM
/-
  Elements of one's own rows that are stored anew.
-/
namespace Go.AM
theorem splice_mid : ∀ (vs pre c d : List AVal), c.length = vs.length → splice (pre ++ c ++ d) pre.length vs = pre ++ vs ++ d
  | [], pre, c, d, h => by rw [List.eq_nil_of_length_eq_zero h]; rfl
  | v :: vs, pre, [], d, h => by simp at h
  | v :: vs, pre, x :: c, d, h => by
    have := splice_mid vs (pre ++ [v]) c d (by simpa using h)
    rw [splice]
    rw [show (pre ++ x :: c ++ d).set pre.length v = pre ++ [v] ++ c ++ d by simp]
    rw [show pre.length + 1 = (pre ++ [v]).length by simp, this]
    simp
theorem stQ_rowE {α : Type} {E : Enc α} {e : TypeId} {l : List α} {i base id ver : Nat} {x : α} {K : ABlk → Heap} (hi : i < l.length) (hs : (E.cells x).all AVal.scalar = true) (hb : base ≤ id) :
    stQ base id (some (rowE E e l ver)) ver (i * E.z) (E.cells x) K = some (K (rowE E e (l.set i x) ver)) := by
  have hle : i * E.z + E.z ≤ l.length * E.z := by rw [← Nat.succ_mul]; exact Nat.mul_le_mul_right _ hi
  have e1 : flat E l = (flat E l).take (i * E.z) ++ ((flat E l).drop (i * E.z)).take E.z ++ (flat E l).drop ((i + 1) * E.z) := by
    rw [List.append_assoc, Nat.succ_mul, ← List.drop_drop, List.take_append_drop, List.take_append_drop]
  have hl : ((flat E l).take (i * E.z)).length = i * E.z := by rw [List.length_take, flat_len]; omega
  have key : splice (flat E l) (i * E.z) (E.cells x) = flat E (l.set i x) := by
    rw [flat_set E hi]
    have := splice_mid (E.cells x) ((flat E l).take (i * E.z)) (((flat E l).drop (i * E.z)).take E.z) ((flat E l).drop ((i + 1) * E.z)) (by rw [E.len, List.length_take, List.length_drop, flat_len]; omega)
    rwa [hl, ← e1] at this
  unfold rowE
  rw [stQ_own hb (by rw [E.len, flat_len]; exact hle) hs, key]
/-- One row changes, slices of other kinds stay. -/
theorem Own.setRow {α β : Type} {E : Enc α} {E2 : Enc β} {e e2 : TypeId} {b a ver : Nat} {h : Heap} {v : AVal} {l : List α} {m : List β} {k : ABlk} (x : Own E2 e2 b h v m) (hg : h[a]? = some (rowE E e l ver)) (hne : e2 ≠ e) : Own E2 e2 b (h.set a k) v m := by
  rcases x with q | ⟨id, u, e1, g, e3, e4⟩
  · exact .inl q
  · have hia : id ≠ a := by
      rintro rfl
      rw [g] at hg
      simp only [rowE, Option.some.injEq, ABlk.mk.injEq, ABody.cells.injEq] at hg
      exact hne hg.1.2.1
    exact .inr ⟨id, u, e1, by rw [List.getElem?_set_ne (fun q => hia q.symm)]; exact g, e3, e4⟩
theorem OwnE.setRow {α β : Type} {E : Enc α} {E2 : Enc β} {e e2 : TypeId} {b a ver : Nat} {h : Heap} {v : AVal} {l : List α} {m : List β} {k : ABlk} (x : OwnE E2 e2 b h v m) (hg : h[a]? = some (rowE E e l ver)) (hne : e2 ≠ e) : OwnE E2 e2 b (h.set a k) v m :=
  x.imp (fun q => q.setRow hg hne) id
/-- One cell of an element is stored. -/
theorem stQ_cellE {α : Type} {E : Enc α} {e : TypeId} {l : List α} {i o base id ver : Nat} {x y : α} {a : AVal} {K : ABlk → Heap} (hx : l[i]? = some x) (ho : o < E.z) (hc : (E.cells x).set o a = E.cells y) (ha : a.scalar = true) (hb : base ≤ id) :
    stQ base id (some (rowE E e l ver)) ver (i * E.z + o) [a] K = some (K (rowE E e (l.set i y) ver)) := by
  have hi := (List.getElem?_eq_some_iff.1 hx).1
  have hle : i * E.z + E.z ≤ l.length * E.z := by rw [← Nat.succ_mul]; exact Nat.mul_le_mul_right _ hi
  have e1 : flat E l = (flat E l).take (i * E.z) ++ E.cells x ++ (flat E l).drop ((i + 1) * E.z) := by
    rw [← flat_get E hx, List.append_assoc, Nat.succ_mul, ← List.drop_drop, List.take_append_drop, List.take_append_drop]
  have hl : ((flat E l).take (i * E.z)).length = i * E.z := by rw [List.length_take, flat_len]; omega
  have key : (flat E l).set (i * E.z + o) a = flat E (l.set i y) := by
    rw [flat_set E hi, ← hc]
    conv => lhs; rw [e1]
    rw [List.append_assoc, List.set_append_right _ _ (by omega), hl, Nat.add_sub_cancel_left, List.set_append_left _ _ (by rw [E.len]; exact ho), List.append_assoc]
  unfold rowE
  rw [stQ_own hb (by rw [flat_len, List.length_cons, List.length_nil]; omega) (by simp [ha])]
  show some (K ⟨.cells ((flat E l).set (i * E.z + o) a) e true false, ver⟩) = _
  rw [key]
end Go.AM
