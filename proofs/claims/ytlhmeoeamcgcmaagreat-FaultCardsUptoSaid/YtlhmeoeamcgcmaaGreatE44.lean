/-
  Contracts: looms that are copied and compared; whether a loom is more than what is looked at.
-/
import Derived.Test.YtlhmeoeamcgcmaaGreatE35
set_option linter.unusedSimpArgs false
set_option linter.unusedVariables false
namespace Go.AM
open Go.Proofs.Tryz
theorem dschE44 {p : Prop} (h : p := by first | exact Nat.ne_of_beq_eq_false rfl | assumption | (apply asOne; (first | exact One.int | exact One.bool | assumption | exact Ints.one (by assumption) | exact Rows.one (by assumption) | exact Own.one (by assumption) | exact One.lit ⟨rfl, rfl, rfl⟩)) | (apply asInts; (repeat first | assumption | exact ints_nil | apply Ints.app); done) | (apply asRows; (repeat first | assumption | exact Rows.nil | apply Rows.app); done) | (apply asScal; (first | apply allS1 | apply allS2 | apply allS3 | apply allS4) <;> (first | exact One.int | exact One.bool | assumption | exact Ints.one (by assumption) | exact Rows.one (by assumption) | exact Own.one (by assumption) | exact One.lit ⟨rfl, rfl, rfl⟩)) | exact litT rfl | exact litF rfl | omega | (simp only [List.length_append, List.length_cons, List.length_nil, List.length_set, List.length_reverse]; first | done | omega) | fail) : p := h
attribute [-go_sem] put_ne put_same
attribute [local go_sem ↓] put_if
/-! ### Copies -/
theorem splice_at : ∀ (vs c pre : List AVal), c.length = vs.length → splice (pre ++ c) pre.length vs = pre ++ vs
  | [], c, pre, h => by rw [List.eq_nil_of_length_eq_zero h]; rfl
  | v :: vs, [], pre, h => by simp at h
  | v :: vs, x :: c, pre, h => by
    rw [splice, List.set_append_right _ _ (Nat.le_refl _), Nat.sub_self, List.set_cons_zero]
    have := splice_at vs c (pre ++ [v]) (by simpa using h)
    simpa using this
theorem splice_all {vs c : List AVal} (h : c.length = vs.length) : splice c 0 vs = vs := by simpa using splice_at vs c [] h
/-- One's own slice, or an empty one. -/
def OwnE {α : Type} (E : Enc α) (e : TypeId) (b : Nat) (H : Heap) (v : AVal) (l : List α) : Prop := Own E e b H v l ∨ (v = .emp ∧ l = [])
section
variable {α : Type} {E : Enc α} {e e2 t : TypeId} {b base : Nat} {H H' A : Heap} {v x : AVal} {l : List α} {zs : List AVal}
theorem OwnE.setBox {k : ABlk} {a : Nat} {c : List AVal} {t : TypeId} {ro : Bool} {u : Nat} (y : OwnE E e b H v l) (hg : H[a]? = some ⟨.cells c t false ro, u⟩) : OwnE E e b (H.set a k) v l := y.imp (fun z => z.setBox hg) id
theorem OwnE.low {b' : Nat} (y : OwnE E e b H v l) (hb : b' ≤ b) : OwnE E e b' H v l := y.imp (fun z => z.low hb) id
theorem OwnE.one (y : OwnE E e b H v l) : One v := by
  rcases y with y | ⟨rfl, _⟩
  · exact y.one
  · exact ⟨rfl, rfl, rfl⟩
/-- A slice that was made with room is filled. -/
theorem app_fill {n : Nat} (hR : Rows E A x l) (ht : elS prog t = some (e, E.z, zs)) (hz : zs.length = E.z) (hs : ∀ y, (E.cells y).all AVal.scalar = true) (hn : n = l.length) (hb : base ≤ A.length) :
    appendA prog base (A ++ [⟨.cells (repCells zs n) e true false, 0⟩]) t (.slice (some ⟨A.length, 0, 0⟩) 0 n) x = some (.slice (some ⟨A.length, 0, 0⟩) n n, A ++ [rowE E e l 0]) := by
  subst hn
  have hR' := hR.app (T := [⟨.cells (repCells zs l.length) e true false, 0⟩])
  have hc : (repCells zs l.length).length = (flat E l).length := by rw [repCells_length, flat_len, hz]
  simp only [appendA, ht, hR'.lenA, hR'.firstN, flat_scalar hs, if_true, Nat.zero_add, Nat.le_refl, storeN, ARef.add, Nat.zero_mul, Nat.add_zero]
  rw [List.getElem?_append_right (Nat.le_refl _), Nat.sub_self, List.getElem?_cons_zero]
  simp only
  rw [if_pos ⟨trivial, by rw [hc]; omega, trivial, .inl hb⟩, List.set_append_right _ _ (Nat.le_refl _), Nat.sub_self, splice_all hc]
  rfl
theorem app_none (hR : Rows E A x []) (ht : elS prog t = some (e, E.z, zs)) : appendA prog base A t .emp x = some (.emp, A) := by
  have h1 := hR.lenA
  have h2 := hR.firstN
  simp only [flat_nil, List.length_nil] at h1 h2
  simp only [appendA, ht, h1, h2, List.all_nil, if_true]
end
theorem mk_room {t e : TypeId} {z : Nat} {zs : List AVal} {h : Heap} {n : Nat} (ht : elS prog t = some (e, z, zs)) (h0 : 0 < n) (hn : n < 4294967296) : makeSliceA prog h t (.int .i64 0) (.int .i64 (n : Int)) = some (.slice (some ⟨h.length, 0, 0⟩) 0 n, h ++ [⟨.cells (repCells zs n) e true false, 0⟩]) := by
  simp only [makeSliceA, ht]
  rw [if_pos ⟨by omega, by omega, by omega⟩, if_neg (by omega)]
  simp
theorem mk_none {t e : TypeId} {z : Nat} {zs : List AVal} {h : Heap} (ht : elS prog t = some (e, z, zs)) : makeSliceA prog h t (.int .i64 0) (.int .i64 0) = some (.emp, h) := by
  simp [makeSliceA, ht]
theorem run_dupI {base : Nat} {h : Heap} {v : AVal} {l : List Int} (hb : base ≤ h.length) (hI : Ints h v l) (hl : l.length ≤ 1000) :
    Ret prog raw base (.fn 67 [] []) [v] h (fun w H => Ext h H ∧ OwnE encI 3 h.length H w l) := by
  have ho := hI.one
  refine ret_raw func67 rfl (by kernel_rfl) ?_
  by_cases hl0 : l = []
  · subst hl0
    have ha := fun base => app_none (base := base) hI.rows Fc.el36
    have hsp := @Nat.succ_ne_zero; repeat' (first | simp (disch := first | exact dschE44 | fail) only [go_sem, ↓reduceIte, hsp, mk_none Fc.el36, ha, List.length_nil, Int.natCast_zero] | refine WP_drw ?_ | refine cnd_intro (fun hsp => ?_) fun hsp => ?_)
    exact ⟨.refl, .inr ⟨rfl, rfl⟩⟩
  · have hl1 : 0 < l.length := List.length_pos_iff.2 hl0
    have hm := mk_room (h := h) (n := l.length) Fc.el36 hl1 (by omega)
    have ha := app_fill (base := base) hI.rows Fc.el36 rfl encI_sc rfl hb
    have hsp := @Nat.succ_ne_zero; repeat' (first | simp (disch := first | exact dschE44 | fail) only [go_sem, ↓reduceIte, hsp, hm, ha] | refine WP_drw ?_ | refine cnd_intro (fun hsp => ?_) fun hsp => ?_)
    exact ⟨.app .refl, .inl (.inr ⟨h.length, 0, rfl, get_eq rfl, Nat.le_refl _, hl1⟩)⟩
/-! ### Parts whose ribbons are one's own -/
def OwnQ (b : Nat) (H : Heap) (pv : AVal) (ps : List Prt) : Prop := ∃ vs : List PrtV, Own encP 81 b H pv vs ∧ vs.length = ps.length ∧ ∀ (i : Nat) x p, vs[i]? = some x → ps[i]? = some p → OwnE encI 3 b H x.v p.rib ∧ x.each = p.each ∧ x.ph = p.ph ∧ x.wv = p.wv
section
variable {b : Nat} {H H' : Heap} {pv : AVal} {ps : List Prt}
end
/-! ### Comparison -/
end Go.AM
/-
  Contracts: a loom's copy; whether a loom is more than what is looked at.
-/
namespace Go.AM
open Go.Proofs.Tryz
attribute [-go_sem] put_ne put_same
attribute [local go_sem ↓] put_if
def rbs (ps : List Prt) : Bool := ps.any fun p => decide (9 < p.rib.length)
def grtM (L : Lom) : Bool := decide (9 < L.ps.length) || decide (14 < L.ss.length) || rbs L.ps
end Go.AM
