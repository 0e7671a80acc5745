/-
  Own slices of several kinds beside each other; looms that are right.
-/
import Derived.Test.YtlhmeoeamcgcmaaGreatG4
set_option linter.unusedSimpArgs false
set_option linter.unusedVariables false
namespace Go.AM
open Go.Proofs.Tryz
/-- Elements are appended: no block that is of another kind changes. -/
theorem Own.appendX {α : Type} {E : Enc α} {P : Program} {base b : Nat} {h : Heap} {v x : AVal} {l m : List α} {t e : TypeId} {zs : List AVal} (hO : Own E e b h v l) (ht : elS P t = some (e, E.z, zs)) (hs : ∀ y, (E.cells y).all AVal.scalar = true) (hb : base ≤ b) (hbh : b ≤ h.length) (hm : 0 < m.length) (hsz : l.length + m.length < 2147483648)
    (hx1 : lenA E.z x = some m.length) (hx2 : firstN h E.z m.length x = some (flat E m)) :
    ∃ v' h', appendA P base h t v x = some (v', h') ∧ Own E e b h' v' (l ++ m) ∧ h.length ≤ h'.length ∧ (∀ G, G.length ≤ b → Ext G h → Ext G h') ∧ One v' ∧ ∀ (i : Nat) (y : ABlk), h[i]? = some y → (∀ l' ver, y ≠ rowE E e l' ver) → h'[i]? = some y := by
  rcases hO with ⟨rfl, rfl⟩ | ⟨id, ver, rfl, h1, h2, h3⟩
  · refine ⟨.slice (some ⟨h.length, 0, 0⟩) m.length m.length, h ++ [rowE E e m 0], ?_, .inr ⟨h.length, 0, rfl, get_eq rfl, hbh, by simpa using hm⟩, by simp, fun G _ g => .app g, ⟨rfl, rfl, rfl⟩, fun i y g _ => get_app g⟩
    simp only [appendA, ht, hx1, hx2, flat_scalar hs, if_true]
    rw [if_neg (by omega), if_pos (show m.length < 2 ^ 31 by simp at hsz; omega)]
    rfl
  · refine ⟨.slice (some ⟨id, ver + 1, 0⟩) (l ++ m).length (l ++ m).length, h.set id (rowE E e (l ++ m) (ver + 1)), ?_, .inr ⟨id, ver + 1, rfl, by rw [List.getElem?_set_self (lt_of_get h1)], h2, by simp; omega⟩, by simp, fun G hG g => g.set (by omega), ⟨rfl, rfl, rfl⟩, fun i y g hy => ?_⟩
    · simp only [appendA, ht, hx1, hx2, flat_scalar hs, if_true]
      rw [if_neg (by omega), h1]
      simp only [rowE, flat_len]
      rw [if_pos ⟨trivial, trivial, trivial, trivial, show l.length + m.length < 2 ^ 31 from hsz, h3, .inl (by omega)⟩]
      rw [List.take_of_length_le (by rw [flat_len]; exact Nat.le_refl _), ← flat_app, List.length_append]
    · have hne : id ≠ i := by
        rintro rfl
        rw [h1] at g
        exact hy l ver (Option.some.inj g).symm
      rw [List.getElem?_set_ne hne]
      exact g
theorem Own.appendRX {α : Type} {E : Enc α} {P : Program} {base b : Nat} {h : Heap} {v x : AVal} {l m : List α} {t e : TypeId} {zs : List AVal} (hO : Own E e b h v l) (hR : Rows E h x m) (ht : elS P t = some (e, E.z, zs)) (hs : ∀ y, (E.cells y).all AVal.scalar = true) (hb : base ≤ b) (hbh : b ≤ h.length) (hm : 0 < m.length) (hsz : l.length + m.length < 2147483648) :
    ∃ v' h', appendA P base h t v x = some (v', h') ∧ Own E e b h' v' (l ++ m) ∧ h.length ≤ h'.length ∧ (∀ G, G.length ≤ b → Ext G h → Ext G h') ∧ One v' ∧ ∀ (i : Nat) (y : ABlk), h[i]? = some y → (∀ l' ver, y ≠ rowE E e l' ver) → h'[i]? = some y :=
  hO.appendX ht hs hb hbh hm hsz hR.lenA hR.firstN
theorem Own.append1X {α : Type} {E : Enc α} {P : Program} {base b : Nat} {h : Heap} {v : AVal} {l : List α} {t e : TypeId} {zs : List AVal} {y : α} {a : AVal} (hO : Own E e b h v l) (hz : E.z = 1) (hy : E.cells y = [a]) (ht : elS P t = some (e, 1, zs)) (hs : ∀ y, (E.cells y).all AVal.scalar = true) (hb : base ≤ b) (hbh : b ≤ h.length) (hsz : l.length + 1 < 2147483648) :
    ∃ v' h', appendA P base h t v (.vals [a]) = some (v', h') ∧ Own E e b h' v' (l ++ [y]) ∧ h.length ≤ h'.length ∧ (∀ G, G.length ≤ b → Ext G h → Ext G h') ∧ One v' ∧ ∀ (i : Nat) (y : ABlk), h[i]? = some y → (∀ l' ver, y ≠ rowE E e l' ver) → h'[i]? = some y := by
  refine hO.appendX (m := [y]) (by rw [hz]; exact ht) hs hb hbh (by simp) (by simpa using hsz) ?_ ?_
  · rw [hz]; rfl
  · rw [hz]; simp [firstN, flat, hy]
section
variable {α β : Type} {E : Enc α} {E2 : Enc β} {e e2 b b2 : Nat} {h h' : Heap}
/-- No block that is of another kind changes. -/
def KeepO (E : Enc α) (e : TypeId) (h h' : Heap) : Prop := ∀ (i : Nat) (y : ABlk), h[i]? = some y → (∀ l' ver, y ≠ rowE E e l' ver) → h'[i]? = some y
theorem KeepO.box {c : List AVal} {t : TypeId} {ro : Bool} {u i : Nat} (k : KeepO E e h h') (hg : h[i]? = some ⟨.cells c t false ro, u⟩) : h'[i]? = some ⟨.cells c t false ro, u⟩ := k i _ hg fun l' ver q => by simp [rowE] at q
theorem KeepO.own {v : AVal} {l : List β} (k : KeepO E e h h') (x : Own E2 e2 b2 h v l) (hne : e2 ≠ e) : Own E2 e2 b2 h' v l := by
  rcases x with q | ⟨id, ver, e1, g, e3, e4⟩
  · exact .inl q
  · exact .inr ⟨id, ver, e1, k id _ g fun l' ver' q => by simp [rowE] at q; exact hne q.1.2, e3, e4⟩
end
/-- Own parts. -/
def OwnP (b : Nat) (H : Heap) (pv : AVal) (ps : List Prt) : Prop := ∃ vs : List PrtV, Own encP 81 b H pv vs ∧ vs.length = ps.length ∧ ∀ (i : Nat) x p, vs[i]? = some x → ps[i]? = some p → Own encI 3 b H x.v p.rib ∧ x.each = p.each ∧ x.ph = p.ph ∧ x.wv = p.wv
section
variable {b : Nat} {H H' : Heap} {pv : AVal} {ps : List Prt}
theorem OwnP.nil : OwnP b H (.slice none 0 0) [] := ⟨[], .nil, rfl, fun i x p h => by simp at h⟩
theorem OwnP.mapH (x : OwnP b H pv ps) (f1 : ∀ v l, Own encP 81 b H v l → Own encP 81 b H' v l) (f2 : ∀ v l, Own encI 3 b H v l → Own encI 3 b H' v l) : OwnP b H' pv ps := by
  obtain ⟨vs, h1, h2, h3⟩ := x
  exact ⟨vs, f1 _ _ h1, h2, fun i x p a c => ⟨f2 _ _ (h3 i x p a c).1, (h3 i x p a c).2⟩⟩
theorem OwnP.ext (x : OwnP b H pv ps) (e : Ext H H') : OwnP b H' pv ps := x.mapH (fun _ _ y => y.ext e) fun _ _ y => y.ext e
theorem OwnP.setBox {k : ABlk} {a : Nat} {c : List AVal} {t : TypeId} {ro : Bool} {u : Nat} (x : OwnP b H pv ps) (hg : H[a]? = some ⟨.cells c t false ro, u⟩) : OwnP b (H.set a k) pv ps := x.mapH (fun _ _ y => y.setBox hg) fun _ _ y => y.setBox hg
theorem OwnP.one (x : OwnP b H pv ps) : One pv := by obtain ⟨vs, h1, _⟩ := x; exact h1.one
theorem OwnP.parts (x : OwnP b H pv ps) (hl : ps.length < 2 ^ 60) (hs : ∀ p ∈ ps, Small p.rib) : Parts H pv ps := by
  obtain ⟨vs, h1, h2, h3⟩ := x
  exact ⟨vs, h1.rows (by omega), h2, fun i x p a c => ⟨own_ints (h3 i x p a c).1 (hs p (List.mem_of_getElem? c)), (h3 i x p a c).2⟩⟩
/-- One part more. -/
theorem OwnP.snoc {h : Heap} {base : Nat} {w : AVal} {p : Prt} (x : OwnP b h pv ps) (hw : Own encI 3 b h w p.rib) (hb : base ≤ b) (hbh : b ≤ h.length) (hl : ps.length ≤ 1000) (hg : h[h.length - 1]? = some (rowE encP 81 [⟨w, p.each, p.ph, p.wv⟩] 0)) :
    ∃ v' h', appendA prog base h 22 pv (.slice (some ⟨h.length - 1, 0, 0⟩) 1 1) = some (v', h') ∧ OwnP b h' v' (ps ++ [p]) ∧ h.length ≤ h'.length ∧ (∀ G, G.length ≤ b → Ext G h → Ext G h') ∧ One v' ∧ KeepO encP 81 h h' := by
  obtain ⟨vs, h1, h2, h3⟩ := x
  obtain ⟨v', h', a1, a2, a3, a4, a5, a6⟩ := h1.appendRX (P := prog) (base := base) (t := 22) (Rows.own hg rfl (by simp)) Fc.el22 encP_sc hb hbh (by simp) (by simp; omega)
  refine ⟨v', h', a1, ⟨_, a2, by simp [h2], fun i y q g1 g2 => ?_⟩, a3, a4, a5, a6⟩
  have kp : KeepO encP 81 h h' := a6
  by_cases hi : i < vs.length
  · rw [List.getElem?_append_left hi] at g1
    rw [List.getElem?_append_left (by omega)] at g2
    exact ⟨kp.own (h3 i y q g1 g2).1 (by decide), (h3 i y q g1 g2).2⟩
  · rw [List.getElem?_append_right (by omega)] at g1
    rw [List.getElem?_append_right (by omega)] at g2
    have e0 : i - vs.length = 0 := by
      have := (List.getElem?_eq_some_iff.1 g1).1
      simp at this; omega
    rw [e0] at g1
    rw [show i - ps.length = 0 by omega] at g2
    cases g1; cases g2
    exact ⟨kp.own hw (by decide), rfl, rfl, rfl⟩
end
/-- A loom is right. -/
theorem chkM_of {L : Lom} (h1 : 1 ≤ L.R ∧ L.R ≤ 6) (h2 : 1 ≤ L.T ∧ L.T ≤ 12) (h3 : 1 ≤ L.ps.length ∧ L.ps.length ≤ 6) (h4 : L.ss.length ≤ 10)
    (h5 : ∀ p ∈ L.ps, 0 < p.rib.length ∧ (1 ≤ p.each ∧ p.each ≤ 4) ∧ (0 ≤ p.ph ∧ p.ph ≤ p.each - 1) ∧ (∀ r ∈ p.rib, 0 ≤ r ∧ r ≤ L.R - 1) ∧ riseB p.rib = true)
    (h6 : ∀ s ∈ L.ss, (0 ≤ s.rib ∧ s.rib ≤ L.R - 1) ∧ (0 ≤ s.lo ∧ s.lo ≤ L.T - 1) ∧ (0 ≤ s.hi ∧ s.hi ≤ L.T - 1) ∧ s.lo ≤ s.hi) : chkM L = 0 := by
  unfold chkM
  rw [if_neg, if_neg, if_neg, if_neg]
  · simp only [not_or, Classical.not_not, List.all_eq_true, decide_eq_true_eq]
    exact ⟨fun p hp => (h5 p hp).2.2.2.2, fun s hs => (h6 s hs).2.2.2⟩
  · simp only [not_or, Classical.not_not, List.all_eq_true, decide_eq_true_eq]
    exact ⟨fun p hp r hr => (h5 p hp).2.2.2.1 r hr, fun s hs => ⟨(h6 s hs).1, (h6 s hs).2.1, (h6 s hs).2.2.1⟩⟩
  · simp only [Classical.not_not, List.all_eq_true, decide_eq_true_eq]
    exact fun p hp => ⟨(h5 p hp).2.1, (h5 p hp).2.2.1⟩
  · simp only [not_or, Classical.not_not, List.all_eq_true, decide_eq_true_eq]
    exact ⟨h1, h2, by omega, by omega, fun p hp => (h5 p hp).1⟩
def prB (w : AVal) (each ph : Int) (wv : Bool) : ABlk := ⟨.cells [w, .int .i64 each, .int .i64 ph, .bool wv] 81 false false, 0⟩
theorem rise_pair {l : List Int} (h : riseB l = true) : l.Pairwise (· < ·) := by
  have h := of_decide_eq_true h
  rw [List.pairwise_iff_getElem]
  intro i j hi hj hij
  obtain ⟨d, rfl⟩ : ∃ d, j = i + 1 + d := ⟨j - (i + 1), by omega⟩
  clear hij
  have st : ∀ k, (hk : k + 1 < l.length) → l[k] < l[k + 1] := fun k hk => by
    have := h (k + 1) hk (by omega)
    rwa [Nat.add_sub_cancel, getD_at (show k < l.length by omega), getD_at hk] at this
  induction d with
  | zero => exact st i hj
  | succ d ih => exact Int.lt_trans (ih (by omega) st) (st (i + 1 + d) hj)
end Go.AM
