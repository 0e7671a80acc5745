/-
  Contracts: what moves make of an order, or the errors.
-/
import Derived.Test.YteanoaejoddnbaaU15
import Derived.Test.YteanoaejoddnbaaU11
import Derived.Test.YteanoaejoddnbaaU14
import Derived.Test.YteanoaejoddnbaaU13
import Derived.Test.YteanoaejoddnbaaU12
set_option linter.unusedSimpArgs false
set_option linter.unusedVariables false
namespace Go.AM
open Go.Proofs.Try
theorem dschL7 {p : Prop} (h : p := by first | exact Nat.ne_of_beq_eq_false rfl | assumption | (apply asOne; (first | exact One.int | exact One.bool | assumption | exact Ints.one (by assumption) | exact Rows.one (by assumption) | exact Own.one (by assumption) | exact One.lit ⟨rfl, rfl, rfl⟩)) | (apply asInts; (repeat first | assumption | exact ints_nil | apply Ints.app); done) | (apply asRows; (repeat first | assumption | exact Rows.nil | apply Rows.app); done) | (apply asScal; (first | apply allS1 | apply allS2 | apply allS3 | apply allS4) <;> (first | exact One.int | exact One.bool | assumption | exact Ints.one (by assumption) | exact Rows.one (by assumption) | exact Own.one (by assumption) | exact One.lit ⟨rfl, rfl, rfl⟩)) | exact litT rfl | exact litF rfl | omega | (simp only [List.length_append, List.length_cons, List.length_nil, List.length_set, List.length_reverse]; first | done | omega) | fail) : p := h
attribute [-go_sem] put_ne put_same
attribute [local go_sem ↓] put_if
def makE (o : List Int) (ms : List (Int × Int)) : List Int × Int := if aloL o = 0 then makF o.length ms o else ([], aloL o)
theorem perm_small' {l m : List Int} (h : l.Perm m) (hs : Small m) : Small l := ⟨by rw [h.length_eq]; exact hs.1, fun x hx => hs.2 x (h.mem_iff.1 hx)⟩
set_option maxHeartbeats 2000000 in
theorem run_Make {base : Nat} {h : Heap} {v mv : AVal} {o : List Int} {ms : List (Int × Int)} (hb : base ≤ h.length) (hI : Ints h v o) (hM : Rows encM h mv ms) (hml : ms.length ≤ 100000) :
    Ret prog raw base (.fn 26 [] []) [v, mv] h (fun w H => Ext h H ∧ ∃ x, w = .tuple [x, .int .i64 (makE o ms).2] ∧ OwnE encI 3 h.length H x (makE o ms).1) := by
  have ha := fun base => run_alone (base := base) hI
  have hv1 := hI.one
  have hm1 := hM.one
  by_cases c : aloL o = 0
  · obtain ⟨c1, c2, c3⟩ := aloL_iff.1 c
    rw [c] at ha
    have hsm := small_ints hI (by omega)
    obtain ⟨n, en⟩ : ∃ n, n = o.length := ⟨_, rfl⟩
    have r : makE o ms = makF n ms o := by unfold makE; rw [if_pos c, en]
    rw [r]
    obtain ⟨v1, H1, e1, x1, o1⟩ := run_cloneE (base := base) hI hsm
    have hl1 := x1.len
    have ov1 := o1.one
    have hlm := (hM.ext x1).len (P := prog) Fc.el33
    refine ret_raw func26 rfl (by kernel_rfl) ?_
    have hsp := @Nat.succ_ne_zero; repeat' (first | simp (disch := first | exact dschL7 | fail) only [go_sem, ↓reduceIte, hsp, ha, eq_self, e1, hlm] | refine WP_drw ?_ | refine cnd_intro (fun hsp => ?_) fun hsp => ?_)
    refine WP_count [(4, 9), (19, 42)] 0 ms.length (Nat.zero_le _) (fun _ i fr K => fr 19 = .int .i64 (i : Int) ∧ Ext h K ∧ ∃ o' w, fr 7 = w ∧ OwnE encI 3 h.length K w o' ∧ o'.Perm o ∧ makF n ms o = makF n (ms.drop i) o') ?_ ?_ ?_
    · exact ⟨by (simp (disch := first | exact dschL7 | fail) only [go_sem, ↓reduceIte, Int.natCast_zero]; first | done | rfl), x1, o, v1, by simp (disch := first | exact dschL7 | fail) only [go_sem, ↓reduceIte], o1, .refl _, rfl⟩
    · rintro i fr K hi0 hi hA ⟨r19, xK, o', w, r7, hO, hp, hF⟩
      have p17 := hA 17 rfl
      have p18 := hA 18 rfl
      try simp (disch := first | exact dschL7 | fail) only [go_sem, ↓reduceIte] at p17 p18
      have hlt : ((i : Int) < (ms.length : Int)) = True := eq_true (by omega)
      obtain ⟨⟨a, b⟩, em⟩ : ∃ m, ms[i] = m := ⟨_, rfl⟩
      have hx : ms[i]? = some (a, b) := by rw [List.getElem?_eq_getElem hi, em]
      have hMK := hM.ext xK
      have ad := hMK.addr (P := prog) (i := (i : Int)) Fc.el33 Fc.ar33 (by omega) (by omega)
      rw [Int.toNat_natCast] at ad
      have ld := hMK.load (P := prog) Fc.ty36 hx
      simp only [encM] at ad ld
      have hw1 := hO.one
      have hKl := xK.len
      have hol : o'.length = n := by rw [hp.length_eq, en]
      obtain ⟨G, eG⟩ : ∃ G, G = K ++ [mvB a b] := ⟨_, rfl⟩
      have xG : Ext K G := by rw [eG]; exact .app .refl
      have gG : G[K.length]? = some (mvB a b) := by rw [eG]; exact get_eq rfl
      have hGl := xG.len
      have iG := (ownE_ints hO (perm_small' hp hsm)).ext xG
      have lG := lenI iG
      have hst : makF n (ms.drop i) o' = if (0 ≤ a ∧ a < (n : Int)) ∧ (0 ≤ b ∧ b < (n : Int)) then makF n (ms.drop (i + 1)) (mvL o' a.toNat b.toNat) else ([], 1) := by
        rw [List.drop_eq_getElem_cons hi, em, makF]
      unfold mvB at eG gG
      by_cases q1 : 0 ≤ a ∧ a < (n : Int)
      · have t1 : decide (0 ≤ a ∧ a ≤ (o'.length : Int) - 1) = true := decide_eq_true (by omega)
        by_cases q2 : 0 ≤ b ∧ b < (n : Int)
        · have t2 : decide (0 ≤ b ∧ b ≤ (o'.length : Int) - 1) = true := decide_eq_true (by omega)
          rw [if_pos ⟨q1, q2⟩] at hst
          obtain ⟨a', rfl⟩ := Int.eq_ofNat_of_zero_le q1.1
          obtain ⟨b', rfl⟩ := Int.eq_ofNat_of_zero_le q2.1
          rw [Int.toNat_natCast, Int.toNat_natCast] at hst
          obtain ⟨w2, H2, e2, x2, o2⟩ := run_made (base := base) (f := a') (t := b') (by omega) iG (by omega) (by omega) (by omega)
          have ow2 := o2.one
          have hsp := @Nat.succ_ne_zero; repeat' (first | simp (disch := first | exact dschL7 | fail) only [go_sem, ↓reduceIte, hsp, r19, r7, p17, p18, hlt, ad, ld, ← eG, gG, lG, t1, t2, e2] | refine WP_drw ?_ | refine cnd_intro (fun hsp => ?_) fun hsp => ?_)
          refine ⟨by (repeat first | exact Agree.refl | assumption | refine Agree.put rfl ?_ | refine Agree.put0 ?_ | refine Agree.sub rfl (by assumption) ?_), by omega, xK.trans (xG.trans x2), _, w2, rfl, OwnE.low (b' := h.length) (.inl o2) (by omega), (mvL_perm (by omega) (by omega)).trans hp, by rw [hF, hst]⟩
        · have t2 : decide (0 ≤ b ∧ b ≤ (o'.length : Int) - 1) = false := decide_eq_false (by omega)
          rw [if_neg (fun q => q2 q.2)] at hst
          have hsp := @Nat.succ_ne_zero; repeat' (first | simp (disch := first | exact dschL7 | fail) only [go_sem, ↓reduceIte, hsp, r19, r7, p17, p18, hlt, ad, ld, ← eG, gG, lG, t1, t2] | refine WP_drw ?_ | refine cnd_intro (fun hsp => ?_) fun hsp => ?_)
          exact ⟨xK.trans xG, _, by rw [hF, hst], by rw [hF, hst]; exact .inl Own.nil⟩
      · have t1 : decide (0 ≤ a ∧ a ≤ (o'.length : Int) - 1) = false := decide_eq_false (by omega)
        rw [if_neg (fun q => q1 q.1)] at hst
        have hsp := @Nat.succ_ne_zero; repeat' (first | simp (disch := first | exact dschL7 | fail) only [go_sem, ↓reduceIte, hsp, r19, r7, p17, p18, hlt, ad, ld, ← eG, gG, lG, t1] | refine WP_drw ?_ | refine cnd_intro (fun hsp => ?_) fun hsp => ?_)
        exact ⟨xK.trans xG, _, by rw [hF, hst], by rw [hF, hst]; exact .inl Own.nil⟩
    · rintro fr K hA ⟨r19, xK, o', w, r7, hO, hp, hF⟩
      have p17 := hA 17 rfl
      have p18 := hA 18 rfl
      try simp (disch := first | exact dschL7 | fail) only [go_sem, ↓reduceIte] at p17 p18
      have hlt : ((ms.length : Int) < (ms.length : Int)) = False := eq_false (by omega)
      have hw1 := hO.one
      rw [List.drop_length, makF] at hF
      have hsp := @Nat.succ_ne_zero; repeat' (first | simp (disch := first | exact dschL7 | fail) only [go_sem, ↓reduceIte, hsp, r19, r7, p17, p18, hlt] | refine WP_drw ?_ | refine cnd_intro (fun hsp => ?_) fun hsp => ?_)
      exact ⟨xK, _, by rw [hF], by rw [hF]; exact hO⟩
  · have t1 : (aloL o = 0) = False := eq_false c
    have r : makE o ms = ([], aloL o) := by unfold makE; rw [if_neg c]
    rw [r]
    refine ret_raw func26 rfl (by kernel_rfl) ?_
    have hsp := @Nat.succ_ne_zero; repeat' (first | simp (disch := first | exact dschL7 | fail) only [go_sem, ↓reduceIte, hsp, ha, t1] | refine WP_drw ?_ | refine cnd_intro (fun hsp => ?_) fun hsp => ?_)
    exact ⟨.refl, _, rfl, .inl Own.nil⟩
end Go.AM
/-
  Contracts: an order whose cards are moved along a ring (turned), the cards that weave the first throws (Weave).
-/
namespace Go.AM
open Go.Proofs.Try
attribute [-go_sem] put_ne put_same
attribute [local go_sem ↓] put_if
end Go.AM
/-
  Plain: an order whose cards are moved along any ring is an order; the least number of some kind.
-/
namespace Go.AM
end Go.AM
/-
  Contracts: the cards that weave the first throws (Weave), an order along a ring (Turned).
-/
namespace Go.AM
open Go.Proofs.Try
attribute [-go_sem] put_ne put_same
attribute [local go_sem ↓] put_if
def wvL (L : Lac) (o : List Int) (n : Nat) : List Int := lst (fun t => L.C.getD (o.getD (t % o.length) 0).toNat 0) n
def wvE (L : Lac) (o : List Int) (n : Int) : List Int × Int := if lcdE L o = 0 then (if 0 ≤ n ∧ n ≤ 999 then (wvL L o n.toNat, 0) else ([], 3)) else ([], lcdE L o)
def trdE (L : Lac) (o ring : List Int) : List Int × Int :=
  if lcdE L o ≠ 0 then ([], lcdE L o) else if ring.length < 2 then ([], 2) else if ¬ (ring.all fun x => decide (0 ≤ x ∧ x ≤ (L.C.length : Int) - 1)) = true then ([], 1) else if twB ring = true then ([], 5) else
  if (xplD L o o.length && xplD L (trnL o ring) o.length) = true then (trnL o ring, 0) else ([], 8)
end Go.AM
/-
  Contracts: a ring of the first order that explains the rows (Ring).
-/
namespace Go.AM
open Go.Proofs.Try
attribute [-go_sem] put_ne put_same
attribute [local go_sem ↓] put_if
/-- A ring along which the second order differs from the first one. -/
def IsRing (L : Lac) (l : List Int) : Prop := ∃ o1 o2 a r, (fnd L)[0]? = some o1 ∧ (fnd L)[1]? = some o2 ∧ a < L.C.length ∧ o1.getD a 0 ≠ o2.getD a 0 ∧ 0 < r ∧ itr o1 o2 a r = a ∧ (∀ i, 0 < i → i < r → itr o1 o2 a i ≠ a) ∧ l = rngL o1 o2 a r
def rngE (L : Lac) : Int := if (fndE L).2 = 0 then (if (fnd L).length = 1 then 6 else 0) else (fndE L).2
end Go.AM
/-
  Copies of slices of structs.
-/
namespace Go.AM
open Go.Proofs.Try
section
variable {α : Type} {E : Enc α} {P : Program} {base : Nat} {h : Heap} {v : AVal} {l : List α} {t e : TypeId} {zs : List AVal}
end
end Go.AM
/-
  Contracts: copies of rows and chains, comparison of chains, a chain with one row more (See).
-/
namespace Go.AM
open Go.Proofs.Try
attribute [-go_sem] put_ne put_same
attribute [local go_sem ↓] put_if
end Go.AM
/-
  Contracts: a chain with one row more (See); whether an order explains the rows, as the statements ask it.
-/
namespace Go.AM
open Go.Proofs.Try
attribute [-go_sem] put_ne put_same
attribute [local go_sem ↓] put_if
def moreR (L : Lac) (r : Rw3) : Lac := ⟨L.T, L.C, L.R ++ [r]⟩
def lac0 : Lac := ⟨0, [], []⟩
def seeE (L : Lac) (r : Rw3) : Lac × Int := if chkL L = 0 then (if L.R.length = 12 then (lac0, 9) else if chkL (moreR L r) = 0 then (moreR L r, 0) else (lac0, chkL (moreR L r))) else (lac0, chkL L)
/-- A chain of one's own. -/
def OwnC (b : Nat) (H : Heap) (v : AVal) (L : Lac) : Prop := ∃ cv rv, v = .agg [.int .i64 L.T, cv, rv] ∧ OwnE encI 3 b H cv L.C ∧ OwnE encR 70 b H rv L.R
end Go.AM
/-
  Contracts: where the first list lies of which something holds; the pile that a card goes on.
-/
namespace Go.AM
open Go.Proofs.Try
theorem dschL27 {p : Prop} (h : p := by first | exact Nat.ne_of_beq_eq_false rfl | assumption | (apply asOne; (first | exact One.int | exact One.bool | assumption | exact Ints.one (by assumption) | exact Rows.one (by assumption) | exact Own.one (by assumption) | exact One.lit ⟨rfl, rfl, rfl⟩)) | (apply asInts; (repeat first | assumption | exact ints_nil | apply Ints.app); done) | (apply asRows; (repeat first | assumption | exact Rows.nil | apply Rows.app); done) | (apply asScal; (first | apply allS1 | apply allS2 | apply allS3 | apply allS4) <;> (first | exact One.int | exact One.bool | assumption | exact Ints.one (by assumption) | exact Rows.one (by assumption) | exact Own.one (by assumption) | exact One.lit ⟨rfl, rfl, rfl⟩)) | exact litT rfl | exact litF rfl | omega | (simp only [List.length_append, List.length_cons, List.length_nil, List.length_set, List.length_reverse]; first | done | omega) | fail) : p := h
attribute [-go_sem] put_ne put_same
attribute [local go_sem ↓] put_if
theorem idx_Z {base b : Nat} {h : Heap} {v g : AVal} {ts : List (List Int)} (p : List Int → Bool) (hb : base ≤ h.length) (h1 : One g) (hA : AllI b h v ts) (hl : ts.length < 2 ^ 60)
    (hg : ∀ x t, t ∈ ts → OwnE encI 3 0 h x t → callL prog raw base g [x] h = some (.bool (p t), h)) :
    callL prog raw base (.fn 134 [] []) [v, g] h = some (.int .i64 (idx p ts), h) := by
  obtain ⟨vs, hO, hvl, hel⟩ := hA
  have hR := hO.rows (by omega)
  obtain ⟨w, H, e, k, z, rfl, hz⟩ := idxS_Z (base := base) (A := 0) (pr := fun _ => True) (J := fun n H => H = h ∧ ∀ x ∈ ts.take n, p x = false) (S := fun n H => H = h ∧ ∃ hn : n < ts.length, (∀ x ∈ ts.take n, p x = false) ∧ p ts[n] = true) hb h1 (fun n H q => q.1 ▸ hR)
    (fun n x H hx hH hJ => by
      obtain ⟨rfl, hJ⟩ := hJ
      have hn : n < ts.length := by have := (List.getElem?_eq_some_iff.1 hx).1; omega
      have ho := hel n x _ hx (List.getElem?_eq_getElem hn)
      rw [norm_one ho.one]
      exact ⟨_, _, hg x _ (List.getElem_mem _) ho, KeepP.refl, fun q => ⟨rfl, take_next p hn hJ q⟩, fun q => ⟨rfl, hn, hJ, q⟩⟩)
    ⟨rfl, fun x hx => by simp at hx⟩
  rw [e]
  rcases hz with ⟨rfl, rfl, q⟩ | ⟨n, rfl, hn, rfl, hn2, q1, q2⟩
  · rw [hvl] at q
    rw [idx_miss p q]
  · rw [idx_hit p hn2 q1 q2]
theorem run_pil1 {base a b : Nat} {h : Heap} {y ov : AVal} {o pile : List Int} {k : Int} (ga : h[a]? = some ⟨.cells [ov] 25 false false, 0⟩) (gb : h[b]? = some (nB k)) (hO : Ints h ov o) (hY : Ints h y pile) (h0 : pile ≠ []) (hin : ∀ x ∈ pile, 0 ≤ x ∧ x < (o.length : Int)) :
    callL prog raw base (.fn 135 [] [.ptr (some ⟨a, 0, 0⟩), .ptr (some ⟨b, 0, 0⟩)]) [y] h = some (.bool (decide (topV o pile > k)), h) := by
  have la := lt_of_get ga
  have lb := lt_of_get gb
  have oy := hY.one
  have oo := hO.one
  have hyl := hY.1.1
  have hpos : 0 < pile.length := by cases z : pile with | nil => exact absurd z h0 | cons a b => simp
  have hl := lenI hY
  have t3 : ((pile.length : Int) - 1) = ((pile.length - 1 : Nat) : Int) := by omega
  have a1 := adrI (i := ((pile.length - 1 : Nat) : Int)) (by omega) hY (by omega)
  rw [Int.toNat_natCast] at a1
  have l1 := loadI hY (i := pile.length - 1) (by omega)
  obtain ⟨p, ep⟩ : ∃ p, p = pile.getD (pile.length - 1) 0 := ⟨_, rfl⟩
  rw [← ep] at l1
  have hp := hin p (by rw [ep]; exact getD_mem (by omega))
  have a2 := adrI (i := p) (by omega) hO (by omega)
  have l2 := loadI hO (i := p.toNat) (by omega)
  have elast : pile.getLastD 0 = p := by
    rw [ep, List.getLastD_eq_getLast?, List.getLast?_eq_getElem?, List.getD_eq_getElem?_getD]
  have htop : topV o pile = o.getD p.toNat 0 := by
    unfold topV
    rw [elast]
  unfold nB at gb
  rw [htop]
  refine callL_run func135 rfl rfl ?_
  have hsp := @Nat.succ_ne_zero; repeat' (first | simp (disch := first | exact dschL27 | fail) only [go_sem, ↓reduceIte, hsp, ga, gb, hl, t3, a1, l1, a2, l2] | refine WP_drw ?_ | refine cnd_intro (fun hsp => ?_) fun hsp => ?_)
  exact fB rfl
end Go.AM
/-
  Contracts: as few moves as can be (Mend).
-/
namespace Go.AM
open Go.Proofs.Try
theorem dschL25 {p : Prop} (h : p := by first | exact Nat.ne_of_beq_eq_false rfl | assumption | (apply asOne; (first | exact One.int | exact One.bool | assumption | exact Ints.one (by assumption) | exact Rows.one (by assumption) | exact Own.one (by assumption) | exact One.lit ⟨rfl, rfl, rfl⟩)) | (apply asInts; (repeat first | assumption | exact ints_nil | apply Ints.app); done) | (apply asRows; (repeat first | assumption | exact Rows.nil | apply Rows.app); done) | (apply asScal; (first | apply allS1 | apply allS2 | apply allS3 | apply allS4) <;> (first | exact One.int | exact One.bool | assumption | exact Ints.one (by assumption) | exact Rows.one (by assumption) | exact Own.one (by assumption) | exact One.lit ⟨rfl, rfl, rfl⟩)) | exact litT rfl | exact litF rfl | omega | (simp only [List.length_append, List.length_cons, List.length_nil, List.length_set, List.length_reverse]; first | done | omega) | fail) : p := h
attribute [-go_sem] put_ne put_same
attribute [local go_sem ↓] put_if
theorem asun_ne {α β : Type} {E : Enc α} {E2 : Enc β} {e e2 b b2 : Nat} {H : Heap} {v w : AVal} {l : List α} {m : List β} (x : Own E e b H v l) (y : Own E2 e2 b2 H w m) (hne : e ≠ e2) : Asun v w := by
  intro r n c s k d q1 q2 q3
  rcases x with ⟨x1, _⟩ | ⟨i1, v1, x1, g1, _⟩
  · rw [x1] at q1; cases q1
  · rcases y with ⟨y1, _⟩ | ⟨i2, v2, y1, g2, _⟩
    · rw [y1] at q2; cases q2
    · rw [x1] at q1
      rw [y1] at q2
      cases q1
      cases q2
      have q3 : i1 = i2 := q3
      subst q3
      rw [g1] at g2
      simp [rowE] at g2
      exact hne g2.1.2
theorem asun_lt {α β : Type} {E : Enc α} {E2 : Enc β} {e e2 b b2 : Nat} {H H2 : Heap} {v w : AVal} {l : List α} {m : List β} (x : Own E e b H v l) (y : Own E2 e2 b2 H2 w m) (h : H.length ≤ b2) : Asun v w := by
  intro r n c s k d q1 q2 q3
  rcases x with ⟨x1, _⟩ | ⟨i1, v1, x1, g1, _⟩
  · rw [x1] at q1; cases q1
  · rcases y with ⟨y1, _⟩ | ⟨i2, v2, y1, g2, hb, _⟩
    · rw [y1] at q2; cases q2
    · rw [x1] at q1
      rw [y1] at q2
      cases q1
      cases q2
      have q3 : i1 = i2 := q3
      have := lt_of_get g1
      omega
theorem bsM1 {lit : Bool} {H : Heap} {a b : Int} : bsA prog lit H 33 1 [(0, .agg [.int .i64 a, .int .i64 b])] = some (.slice (some ⟨H.length, 0, 0⟩) 1 1, H ++ [rowE encM 36 [(a, b)] 0]) := by
  simp [bsA, rowOf, Fc.el33, fillA, repCells, AVal.isN, AVal.cells, splice, rowE, flat, encM]
/-- A row without its last cell. -/
theorem part_ints {id ver : Nat} {H : Heap} {l : List Int} {z : Int} (hg : H[id]? = some (iB (l ++ [z]) ver)) (hs : Small l) : Ints H (.slice (some ⟨id, ver, 0⟩) l.length (l.length + 1)) l := by
  refine ⟨⟨by have := hs.1; omega, hs.2⟩, .inr (.inr ⟨⟨id, ver, 0⟩, l.length + 1, ints (l ++ [z]), 3, true, false, rfl, hg, ?_, ?_, by omega⟩)⟩
  · rw [List.drop_zero, ← ints_app, List.take_left' (by simp [ints])]
  · simp [ints]
theorem getD_app1 {l m : List Int} {j : Nat} (h : j < l.length) : (l ++ m).getD j 0 = l.getD j 0 := by
  rw [List.getD_eq_getElem?_getD, List.getElem?_append_left h, ← List.getD_eq_getElem?_getD]
def mndE (o : List Int) : List (Int × Int) × Int := if aloL o = 0 then (mndL o, 0) else ([], aloL o)
theorem mndN_succ {s : MndS} {k : Nat} : mndN s (k + 1) = mndS (mndN s k) (k : Int) := rfl
set_option maxRecDepth 100000 in
set_option maxHeartbeats 8000000 in
theorem run_Mend {base : Nat} {h : Heap} {v : AVal} {o : List Int} (hb : base ≤ h.length) (hI : Ints h v o) :
    Ret prog raw base (.fn 70 [] []) [v] h (fun w H => Ext h H ∧ ∃ x, w = .tuple [x, .int .i64 (mndE o).2] ∧ Own encM 36 h.length H x (mndE o).1) := by
  have ha := fun base => run_alone (base := base) hI
  have hv1 := hI.one
  by_cases c : aloL o = 0
  · obtain ⟨c1, c2, c3⟩ := aloL_iff.1 c
    rw [c] at ha
    have r : mndE o = (mndL o, 0) := by unfold mndE; rw [if_pos c]
    rw [r]
    obtain ⟨n, en⟩ : ∃ n, o.length = n := ⟨_, rfl⟩
    rw [en] at c3
    obtain ⟨w1, H1, e1, x1, o1⟩ := run_rise hb hI (by omega) (by omega)
    have l1 := x1.len
    have ow1 := o1.one
    obtain ⟨rs, ers⟩ : ∃ rs, rs = riseL o := ⟨_, rfl⟩
    rw [← ers] at o1
    have hrp : ∀ p ∈ rs, 0 ≤ p ∧ p < (n : Int) := fun p hp => by
      have := (riseL_is o).1.2 p (by rw [← ers]; exact hp)
      rw [en] at this; exact this
    have hrn : rs.length ≤ n := by
      have h1 := (riseP_iff.1 (riseL_is o).1).1.length_le
      rw [← ers, upto_len, en] at h1; exact h1
    have i1 := own_ints o1 ⟨by omega, fun x hx => by have := hrp x hx; omega⟩
    have hl1 := lenI i1
    refine ret_raw func70 rfl (by kernel_rfl) ?_
    have hsp := @Nat.succ_ne_zero; repeat' (first | simp (disch := first | exact dschL25 | fail) only [go_sem, ↓reduceIte, hsp, ha, eq_self, e1, hl1] | refine WP_drw ?_ | refine cnd_intro (fun hsp => ?_) fun hsp => ?_)
    obtain ⟨b, eb⟩ : ∃ b, b = H1.length := ⟨_, rfl⟩
    obtain ⟨kp, ekp⟩ : ∃ kp, kp = rs.map fun p => o.getD p.toNat 0 := ⟨_, rfl⟩
    have hov : ∀ p : Nat, p < n → 0 ≤ o.getD p 0 ∧ o.getD p 0 < (n : Int) := fun p hp => c3.2.1 _ (getD_mem (by omega))
    refine WP_count [(5, 7), (24, 35)] 0 rs.length (Nat.zero_le _) (fun _ i fr K => fr 24 = .int .i64 (i : Int) ∧ Ext H1 K ∧ ∃ w, fr 5 = w ∧ Own encI 3 b K w ((rs.take i).map fun p => o.getD p.toNat 0)) ?_ ?_ ?_
    · exact ⟨by (simp (disch := first | exact dschL25 | fail) only [go_sem, ↓reduceIte, Int.natCast_zero]; first | done | rfl), .refl, .slice none 0 0, by simp (disch := first | exact dschL25 | fail) only [go_sem, ↓reduceIte], Own.nil⟩
    · rintro i fr K hi0 hi hA ⟨r24, xK, w, r5, hO⟩
      have q0 := hA 0 rfl
      have q2 := hA 2 rfl
      have q3 := hA 3 rfl
      have q22 := hA 22 rfl
      have q23 := hA 23 rfl
      try simp (disch := first | exact dschL25 | fail) only [go_sem, ↓reduceIte] at q0 q2 q3 q22 q23
      have hlt : ((i : Int) < (rs.length : Int)) = True := eq_true (by omega)
      have ow := hO.one
      have lK := xK.len
      have iK := i1.ext xK
      have ai := adrI (i := (i : Int)) (by omega) iK (by omega)
      rw [Int.toNat_natCast] at ai
      have li := loadI iK hi
      obtain ⟨p, ep⟩ := Int.eq_ofNat_of_zero_le (hrp _ (getD_mem hi)).1
      have hpn := (hrp _ (getD_mem hi)).2
      rw [ep] at li hpn
      have hoK := hI.ext (x1.trans xK)
      have ap := adrI (i := (p : Int)) (by omega) hoK (by omega)
      rw [Int.toNat_natCast] at ap
      have lp := loadI hoK (i := p) (by omega)
      obtain ⟨w', K2, ea, oW, lW, eW, oneW, kW⟩ := OwnE.snocI (base := base) (x := o.getD p 0) (.inl hO) (by omega) (by omega) (by simp; omega)
      have htk : (rs.take (i + 1)).map (fun p => o.getD p.toNat 0) = (rs.take i).map (fun p => o.getD p.toNat 0) ++ [o.getD p 0] := by
        rw [take_succ' hi, List.map_append, List.map_cons, List.map_nil, ep, Int.toNat_natCast]
      have hsp := @Nat.succ_ne_zero; repeat' (first | simp (disch := first | exact dschL25 | fail) only [go_sem, ↓reduceIte, hsp, r24, r5, q0, q2, q3, q22, q23, hlt, ai, li, ap, lp, ea] | refine WP_drw ?_ | refine cnd_intro (fun hsp => ?_) fun hsp => ?_)
      exact ⟨by (repeat first | exact Agree.refl | assumption | refine Agree.put rfl ?_ | refine Agree.put0 ?_ | refine Agree.sub rfl (by assumption) ?_), by omega, eW _ (by omega) xK, w', rfl, by rw [htk]; exact oW⟩
    · rintro fr K hA ⟨r24, xK, w, r5, hO⟩
      have q0 := hA 0 rfl
      have q2 := hA 2 rfl
      have q3 := hA 3 rfl
      have q22 := hA 22 rfl
      have q23 := hA 23 rfl
      try simp (disch := first | exact dschL25 | fail) only [go_sem, ↓reduceIte] at q0 q2 q3 q22 q23
      have hlt : ((rs.length : Int) < (rs.length : Int)) = False := eq_false (by omega)
      rw [List.take_length, ← ekp] at hO
      have ow := hO.one
      have hoK := hI.ext (x1.trans xK)
      have hloK := lenI hoK
      have lK := xK.len
      obtain ⟨s0, es0⟩ : ∃ s0, s0 = (⟨o, kp, []⟩ : MndS) := ⟨_, rfl⟩
      have hml : mndL o = (mndN s0 n).out := by unfold mndL; rw [en, es0, ekp, ers]
      have hok : ∀ {k}, k ≤ n → MndI n o kp k (mndN s0 k) := fun {k} hk => by
        have := mndN_ok (n := n) (o0 := o) c3 hk
        rw [es0, ekp, ers]; exact this
      have hkl : kp.length ≤ n := by rw [ekp, List.length_map]; exact hrn
      rw [hml]
      have q0 := hA 0 rfl
      simp (disch := first | exact dschL25 | fail) only [go_sem, ↓reduceIte] at q0
      have hkpb : ∀ x ∈ kp, 0 ≤ x ∧ x < (n : Int) := fun x hx => by
        rw [ekp] at hx
        obtain ⟨p, hp, rfl⟩ := List.mem_map.1 hx
        have := hrp p hp
        exact hov p.toNat (by omega)
      have hsp := @Nat.succ_ne_zero; repeat' (first | simp (disch := first | exact dschL25 | fail) only [go_sem, ↓reduceIte, hsp, r24, r5, q0, q0, q2, q3, q22, q23, hlt, hloK] | refine WP_drw ?_ | refine cnd_intro (fun hsp => ?_) fun hsp => ?_)
      refine WP_count [(0, 0), (5, 15), (38, 90)] 0 o.length (Nat.zero_le _) (fun _ k fr K => fr 38 = .int .i64 (k : Int) ∧ Ext H1 K ∧ ∃ v' w u, fr 0 = v' ∧ fr 5 = w ∧ fr 8 = u ∧ (Ints h v' (mndN s0 k).o ∨ (Own encI 3 b K v' (mndN s0 k).o ∧ Asun w v')) ∧ Own encI 3 b K w (mndN s0 k).kept ∧ (mndN s0 k).kept.length ≤ n + k ∧ Own encM 36 b K u (mndN s0 k).out) ?_ ?_ ?_
      · exact ⟨by (simp (disch := first | exact dschL25 | fail) only [go_sem, ↓reduceIte, Int.natCast_zero]; first | done | rfl), xK, v, w, .slice none 0 0, by simp (disch := first | exact dschL25 | fail) only [go_sem, ↓reduceIte, q0], by simp (disch := first | exact dschL25 | fail) only [go_sem, ↓reduceIte, r5], by simp (disch := first | exact dschL25 | fail) only [go_sem, ↓reduceIte], .inl (by rw [es0]; exact hI), by rw [es0]; exact hO, by rw [es0]; exact hkl, by rw [es0]; exact Own.nil⟩
      · rintro k fr2 K2 hk0 hk hA2 ⟨r38, xK2, v', w2, u, r0, r5', r8, hV, hW, hWl, hU⟩
        have d2 := hA2 2 rfl
        have d3 := hA2 3 rfl
        have d37 := hA2 37 rfl
        try simp (disch := first | exact dschL25 | fail) only [go_sem, ↓reduceIte, q2, q3] at d2 d3 d37
        have hlt2 : ((k : Int) < (o.length : Int)) = True := eq_true (by omega)
        obtain ⟨s, es⟩ : ∃ s, s = mndN s0 k := ⟨_, rfl⟩
        have hsk := hok (k := k) (by omega)
        rw [← es] at hV hW hWl hU hsk
        have hnext : mndN s0 (k + 1) = mndS s (k : Int) := by rw [mndN_succ, ← es]
        have hord := hsk.ord
        have hsl := hord.1
        have hsm : Small s.o := ⟨by omega, fun x hx => by have := hord.2.1 x hx; omega⟩
        have hkb : ∀ x ∈ s.kept, 0 ≤ x ∧ x < (n : Int) := fun x hx => by
          rcases (hsk.kept x).1 hx with z | z
          · exact hkpb x z
          · omega
        have hout : s.out.length ≤ n := Nat.le_trans hsk.few (Nat.le_trans List.countP_le_length (by rw [upto_len]; omega))
        have xh2 := x1.trans xK2
        have iV : Ints K2 v' s.o := hV.elim (fun z => z.ext xh2) (fun z => own_ints z.1 hsm)
        have hsmW : Small s.kept := ⟨by omega, fun x hx => by have := hkb x hx; omega⟩
        have iW := own_ints hW hsmW
        have ov' := iV.one
        have ow2 := hW.one
        have ou := hU.one
        have lK2 := xK2.len
        have hct := fun base => run_contains (base := base) (x := (k : Int)) iW
        by_cases m : (k : Int) ∈ s.kept
        · rw [decide_eq_true m] at hct
          have hss : mndN s0 (k + 1) = s := by rw [hnext]; exact if_pos m
          have hsp := @Nat.succ_ne_zero; repeat' (first | simp (disch := first | exact dschL25 | fail) only [go_sem, ↓reduceIte, hsp, r38, r0, r5', r8, d2, d3, d37, q0, q2, q3, q22, q23, hlt2, hct] | refine WP_drw ?_ | refine cnd_intro (fun hsp => ?_) fun hsp => ?_)
          exact ⟨by (repeat first | exact Agree.refl | assumption | refine Agree.put rfl ?_ | refine Agree.put0 ?_ | refine Agree.sub rfl (by assumption) ?_), by omega, xK2, v', w2, u, rfl, rfl, rfl, by rw [hss]; exact hV, by rw [hss]; exact hW, by rw [hss]; omega, by rw [hss]; exact hU⟩
        · rw [decide_eq_false m] at hct
          obtain ⟨f, ef⟩ : ∃ f, f = s.o.idxOf (k : Int) := ⟨_, rfl⟩
          have hkm : (k : Int) ∈ s.o := ord_all hord ⟨by omega, by omega⟩
          have hf : f < n := by rw [ef, ← hsl]; exact List.idxOf_lt_length_of_mem hkm
          have hix := fun base => run_index (base := base) (x := (k : Int)) iV
          rw [show ixI s.o (k : Int) = (f : Int) by unfold ixI; rw [if_pos hkm, ef]] at hix
          obtain ⟨v1, K3, e3, x3, o3⟩ := run_cloneE (base := base) iV hsm
          obtain ⟨id3, ver3, rfl, g3, hid3⟩ := o3.pos (by omega)
          rw [rowE_iB] at g3
          have lK3 := x3.len
          have lid3 := lt_of_get g3
          obtain ⟨w4, K4, e4, rfl, eK4⟩ := run_delete (base := base) (i := f) g3 (by omega) (by omega) (by omega)
          obtain ⟨e, ee⟩ : ∃ e, e = s.o.eraseIdx f := ⟨_, rfl⟩
          rw [← ee] at eK4
          have hel : e.length = n - 1 := by rw [ee, List.length_eraseIdx, if_pos (by omega)]; omega
          have heb : ∀ x ∈ e, 0 ≤ x ∧ x < (n : Int) := fun x hx => hord.2.1 x (by rw [ee] at hx; exact List.mem_of_mem_eraseIdx hx)
          have hes : Small e := ⟨by omega, fun x hx => by have := heb x hx; omega⟩
          have g4 : K4[id3]? = some (iB (e ++ [0]) ver3) := by rw [eK4, List.getElem?_set_self lid3]
          have iR := part_ints g4 hes
          rw [hel, show n - 1 + 1 = s.o.length by omega] at iR
          rw [show s.o.length - 1 = n - 1 by omega] at e4
          have lR := lenI iR
          rw [hel] at lR
          have x24 : Ext K2 K4 := by rw [eK4]; exact x3.set (by omega)
          have lK4 := x24.len
          have iW4 := iW.ext x24
          have ff : ((f : Int) + 1) = (f : Int) + 1 := rfl
          have hsp := @Nat.succ_ne_zero; repeat' (first | simp (disch := first | exact dschL25 | fail) only [go_sem, ↓reduceIte, hsp, r38, r0, r5', r8, d2, d3, d37, q0, q2, q3, q22, q23, hlt2, hct, hix, e3, e4, lR] | refine WP_drw ?_ | refine cnd_intro (fun hsp => ?_) fun hsp => ?_)
          obtain ⟨T, eT⟩ : ∃ T : Nat → Nat, T = mndT e s.kept (k : Int) := ⟨_, rfl⟩
          refine WP_count [(11, 14), (55, 70)] 0 e.length (Nat.zero_le _) (fun _ j fr K => fr 55 = .int .i64 (j : Int) ∧ K = K4 ∧ fr 11 = .int .i64 (T j : Int)) ?_ ?_ ?_
          · exact ⟨by (simp (disch := first | exact dschL25 | fail) only [go_sem, ↓reduceIte, Int.natCast_zero]; first | done | rfl), rfl, by rw [eT]; simp (disch := first | exact dschL25 | fail) only [go_sem, ↓reduceIte]; rfl⟩
          · rintro j fr3 K' hj0 hj hA3 ⟨r55, eK, r11⟩
            subst eK
            have c0 := hA3 0 rfl
            have c2 := hA3 2 rfl
            have c3 := hA3 3 rfl
            have c5 := hA3 5 rfl
            have c8 := hA3 8 rfl
            have c9 := hA3 9 rfl
            have c10 := hA3 10 rfl
            have c37 := hA3 37 rfl
            have c38 := hA3 38 rfl
            have c53 := hA3 53 rfl
            have c54 := hA3 54 rfl
            try simp (disch := first | exact dschL25 | fail) only [go_sem, ↓reduceIte, d2, d3, d37] at c0 c2 c3 c5 c8 c9 c10 c37 c38 c53 c54
            have c5 := hA3 5 rfl
            simp (disch := first | exact dschL25 | fail) only [go_sem, ↓reduceIte, r5'] at c5
            have hlt3 : ((j : Int) < ((n - 1 : Nat) : Int)) = True := eq_true (by omega)
            obtain ⟨x, ex⟩ : ∃ x, x = e.getD j 0 := ⟨_, rfl⟩
            have aj : indexAddrA prog 25 (.slice (some ⟨id3, ver3, 0⟩) (n - 1) s.o.length) (.int .i64 (j : Int)) = some (.ptr (some ⟨id3, ver3, j⟩)) := by
              rw [adr_sl Fc.el25 Fc.ar25 (by omega) (by omega), Int.toNat_natCast, Nat.mul_one, Nat.zero_add]
            have lj : loadP prog K' 3 (.ptr (some ⟨id3, ver3, j⟩)) = some (.int .i64 x) := by
              rw [load_eq, Fc.ty3, g4, ldB_ints (by rw [List.length_append]; omega), getD_app1 hj, ex]
            have hT : T (j + 1) = if x < (k : Int) ∧ x ∈ s.kept then j + 1 else T j := by rw [eT, mndT, ← ex]
            have hcx := fun base => run_contains (base := base) (x := x) iW4
            by_cases q1 : x < (k : Int)
            · have t1 : (x < (k : Int)) = True := eq_true q1
              by_cases q2 : x ∈ s.kept
              · rw [decide_eq_true q2] at hcx
                rw [if_pos ⟨q1, q2⟩] at hT
                have hsp := @Nat.succ_ne_zero; repeat' (first | simp (disch := first | exact dschL25 | fail) only [go_sem, ↓reduceIte, hsp, r55, r11, c5, c0, c2, c3, c5, c8, c9, c10, c37, c38, c53, c54, d2, d3, d37, q0, q2, q3, q22, q23, hlt3, aj, lj, t1, hcx] | refine WP_drw ?_ | refine cnd_intro (fun hsp => ?_) fun hsp => ?_)
                exact ⟨by (repeat first | exact Agree.refl | assumption | refine Agree.put rfl ?_ | refine Agree.put0 ?_ | refine Agree.sub rfl (by assumption) ?_), by omega, by rw [hT]; omega⟩
              · rw [decide_eq_false q2] at hcx
                rw [if_neg (fun z => q2 z.2)] at hT
                have hsp := @Nat.succ_ne_zero; repeat' (first | simp (disch := first | exact dschL25 | fail) only [go_sem, ↓reduceIte, hsp, r55, r11, c5, c0, c2, c3, c5, c8, c9, c10, c37, c38, c53, c54, d2, d3, d37, q0, q2, q3, q22, q23, hlt3, aj, lj, t1, hcx] | refine WP_drw ?_ | refine cnd_intro (fun hsp => ?_) fun hsp => ?_)
                exact ⟨by (repeat first | exact Agree.refl | assumption | refine Agree.put rfl ?_ | refine Agree.put0 ?_ | refine Agree.sub rfl (by assumption) ?_), by omega, by rw [hT]⟩
            · have t1 : (x < (k : Int)) = False := eq_false q1
              rw [if_neg (fun z => q1 z.1)] at hT
              have hsp := @Nat.succ_ne_zero; repeat' (first | simp (disch := first | exact dschL25 | fail) only [go_sem, ↓reduceIte, hsp, r55, r11, c5, c0, c2, c3, c5, c8, c9, c10, c37, c38, c53, c54, d2, d3, d37, q0, q2, q3, q22, q23, hlt3, aj, lj, t1] | refine WP_drw ?_ | refine cnd_intro (fun hsp => ?_) fun hsp => ?_)
              exact ⟨by (repeat first | exact Agree.refl | assumption | refine Agree.put rfl ?_ | refine Agree.put0 ?_ | refine Agree.sub rfl (by assumption) ?_), by omega, by rw [hT]⟩
          · rintro fr3 K' hA3 ⟨r55, eK, r11⟩
            subst eK
            have c0 := hA3 0 rfl
            have c2 := hA3 2 rfl
            have c3 := hA3 3 rfl
            have c5 := hA3 5 rfl
            have c8 := hA3 8 rfl
            have c9 := hA3 9 rfl
            have c10 := hA3 10 rfl
            have c37 := hA3 37 rfl
            have c38 := hA3 38 rfl
            have c53 := hA3 53 rfl
            have c54 := hA3 54 rfl
            try simp (disch := first | exact dschL25 | fail) only [go_sem, ↓reduceIte, d2, d3, d37] at c0 c2 c3 c5 c8 c9 c10 c37 c38 c53 c54
            have c5 := hA3 5 rfl
            simp (disch := first | exact dschL25 | fail) only [go_sem, ↓reduceIte, r5'] at c5
            have c0' := hA3 0 rfl
            simp (disch := first | exact dschL25 | fail) only [go_sem, ↓reduceIte, r0] at c0'
            have c8 := hA3 8 rfl
            simp (disch := first | exact dschL25 | fail) only [go_sem, ↓reduceIte, r8] at c8
            have c38 := hA3 38 rfl
            simp (disch := first | exact dschL25 | fail) only [go_sem, ↓reduceIte, r38] at c38
            have hlt3 : ((e.length : Int) < ((n - 1 : Nat) : Int)) = False := eq_false (by omega)
            obtain ⟨t, et⟩ : ∃ t, t = T e.length := ⟨_, rfl⟩
            rw [← et] at r11
            have htn : t < n := by have := mndT_le (rest := e) (kept := s.kept) (k := (k : Int)) e.length; rw [et, eT]; omega
            have hstep : mndS s (k : Int) = ⟨mvL s.o f t, s.kept ++ [(k : Int)], if f = t then s.out else s.out ++ [((f : Int), (t : Int))]⟩ := by
              unfold mndS
              rw [if_neg m]
              simp only [← ef, ← ee]
              rw [← eT, ← et]
            obtain ⟨K5, eK5⟩ : ∃ K5, K5 = K' ++ [mvB (f : Int) (t : Int)] := ⟨_, rfl⟩
            have x5 : Ext K' K5 := by rw [eK5]; exact .app .refl
            have g5 : K5[K'.length]? = some (mvB (f : Int) (t : Int)) := by rw [eK5]; exact get_eq rfl
            have l5 := x5.len
            unfold mvB at eK5 g5
            have tail : ∀ (K : Heap) (u' : AVal) (out' : List (Int × Int)), b ≤ K.length → Ext H1 K → Own encI 3 b K w2 s.kept → Ints K v' s.o → Own encM 36 b K u' out' →
                ∃ v2 K6 w' K7, callL prog raw base (.fn 94 [] []) [v', .agg [.int .i64 (f : Int), .int .i64 (t : Int)]] K = some (v2, K6) ∧ One v2 ∧ One w' ∧ appendA prog base K6 25 w2 (.vals [.int .i64 (k : Int)]) = some (w', K7) ∧ Ext H1 K7 ∧ Own encI 3 b K7 v2 (mvL s.o f t) ∧ Asun w' v2 ∧ Own encI 3 b K7 w' (s.kept ++ [(k : Int)]) ∧ Own encM 36 b K7 u' out' := by
              intro K u' out' hbK xK hw hv hu
              obtain ⟨v2, K6, e6, x6, o6⟩ := run_made (base := base) (f := f) (t := t) (by omega) hv (by omega) (by omega) (by omega)
              have l6 := x6.len
              have hw6 := hw.ext x6
              have ea := app_sn1 (P := prog) (base := base) (y := (k : Int)) (a := .int .i64 (k : Int)) (t := 25) hw6 rfl rfl Fc.el25 encI_sc (by omega) (by omega)
              have hA := asun_lt hw o6 (Nat.le_refl _)
              have hAu := asun_ne hw6 (hu.ext x6) (by decide)
              refine ⟨v2, K6, snV K6 w2 1, snH encI 3 K6 w2 s.kept [(k : Int)], e6, o6.one, snV_one, ea, hw6.sn_ext (by omega) (xK.trans x6), (o6.sn_oth hA).low hbK, o6.sn_asun hA, hw6.sn (m := [(k : Int)]) (by omega) (by simp), (hu.ext x6).sn_oth hAu⟩
            have xK5 := x24.trans x5
            by_cases q1 : f = t
            · have t1 : ((t : Int) = (f : Int)) = True := eq_true (by omega)
              rw [if_pos q1] at hstep
              obtain ⟨v2, K6, w', K7, f1, f2, f3, f4, f5, f6, f7, f8, f9⟩ := tail K5 u s.out (by omega) (xK2.trans xK5) (hW.ext xK5) (iV.ext xK5) (hU.ext xK5)
              have hsp := @Nat.succ_ne_zero; repeat' (first | simp (disch := first | exact dschL25 | fail) only [go_sem, ↓reduceIte, hsp, r55, r11, c5, c0', c8, c38, c0, c2, c3, c5, c8, c9, c10, c37, c38, c53, c54, d2, d3, d37, q0, q2, q3, q22, q23, hlt3, ← eK5, g5, eq_self, t1, f1, f4] | refine WP_drw ?_ | refine cnd_intro (fun hsp => ?_) fun hsp => ?_)
              rw [hnext, hstep]
              exact ⟨by (repeat first | exact Agree.refl | assumption | refine Agree.put rfl ?_ | refine Agree.put0 ?_ | refine Agree.sub rfl (by assumption) ?_), by omega, f5, v2, w', u, rfl, rfl, rfl, .inr ⟨f6, f7⟩, f8, by simp; omega, f9⟩
            · have t1 : ((t : Int) = (f : Int)) = False := eq_false (by omega)
              rw [if_neg q1] at hstep
              obtain ⟨K5b, eK5b⟩ : ∃ K5b, K5b = K5 ++ [rowE encM 36 [((f : Int), (t : Int))] 0] := ⟨_, rfl⟩
              have x5b : Ext K5 K5b := by rw [eK5b]; exact .app .refl
              have g5b := x5b.get g5
              have l5b := x5b.len
              have hU5 := hU.ext (xK5.trans x5b)
              obtain ⟨u', K6u, ea, oU, lU, eU, oneU, kU⟩ := hU5.appendRX (P := prog) (base := base) (x := .slice (some ⟨K5.length, 0, 0⟩) 1 1) (m := [((f : Int), (t : Int))]) (t := 33) (Rows.own (by rw [eK5b]; exact get_eq rfl) rfl (by simp)) Fc.el33 encM_sc (by omega) (by omega) (by simp) (by simp; omega)
              have kU : KeepO encM 36 K5b K6u := kU
              have xK6u : Ext H1 K6u := eU _ (by omega) (xK2.trans (xK5.trans x5b))
              have iV6 : Ints K6u v' s.o := hV.elim (fun z => z.ext (x1.trans xK6u)) (fun z => own_ints (kU.own (z.1.ext (xK5.trans x5b)) (by decide)) hsm)
              have hW6 := kU.own (hW.ext (xK5.trans x5b)) (show 3 ≠ 36 by decide)
              have g6u := kU.box g5b
              obtain ⟨v2, K6, w', K7, f1, f2, f3, f4, f5, f6, f7, f8, f9⟩ := tail K6u u' (s.out ++ [((f : Int), (t : Int))]) (by omega) xK6u hW6 iV6 oU
              have hsp := @Nat.succ_ne_zero; repeat' (first | simp (disch := first | exact dschL25 | fail) only [go_sem, ↓reduceIte, hsp, r55, r11, c5, c0', c8, c38, c0, c2, c3, c5, c8, c9, c10, c37, c38, c53, c54, d2, d3, d37, q0, q2, q3, q22, q23, hlt3, ← eK5, g5, eq_self, t1, bsM1, ← eK5b, ea, g6u, f1, f4] | refine WP_drw ?_ | refine cnd_intro (fun hsp => ?_) fun hsp => ?_)
              rw [hnext, hstep]
              exact ⟨by (repeat first | exact Agree.refl | assumption | refine Agree.put rfl ?_ | refine Agree.put0 ?_ | refine Agree.sub rfl (by assumption) ?_), by omega, f5, v2, w', u', rfl, rfl, rfl, .inr ⟨f6, f7⟩, f8, by simp; omega, f9⟩
      · rintro fr2 K2 hA2 ⟨r38, xK2, v', w2, u, r0, r5', r8, hV, hW, hWl, hU⟩
        have d2 := hA2 2 rfl
        have d3 := hA2 3 rfl
        have d37 := hA2 37 rfl
        try simp (disch := first | exact dschL25 | fail) only [go_sem, ↓reduceIte, q2, q3] at d2 d3 d37
        have hlt2 : ((o.length : Int) < (o.length : Int)) = False := eq_false (by omega)
        have ou := hU.one
        rw [en] at hU
        have hsp := @Nat.succ_ne_zero; repeat' (first | simp (disch := first | exact dschL25 | fail) only [go_sem, ↓reduceIte, hsp, r38, r8, d2, d3, d37, q0, q2, q3, q22, q23, hlt2] | refine WP_drw ?_ | refine cnd_intro (fun hsp => ?_) fun hsp => ?_)
        exact ⟨x1.trans xK2, _, rfl, hU.low (by omega)⟩
  · have t1 : (aloL o = 0) = False := eq_false c
    have r : mndE o = ([], aloL o) := by unfold mndE; rw [if_neg c]
    rw [r]
    refine ret_raw func70 rfl (by kernel_rfl) ?_
    have hsp := @Nat.succ_ne_zero; repeat' (first | simp (disch := first | exact dschL25 | fail) only [go_sem, ↓reduceIte, hsp, ha, t1] | refine WP_drw ?_ | refine cnd_intro (fun hsp => ?_) fun hsp => ?_)
    exact ⟨.refl, _, rfl, Own.nil⟩
end Go.AM
/-
  Contracts: as few piles as can be (Piles).
-/
namespace Go.AM
open Go.Proofs.Try
attribute [-go_sem] put_ne put_same
attribute [local go_sem ↓] put_if
/-- Piles in memory, each in a block of its own. -/
structure PilAt (b : Nat) (H : Heap) (u : AVal) (vs : List AVal) (ps : List (List Int)) : Prop where
  own : Own encZ 25 b H u vs
  len : vs.length = ps.length
  el : ∀ (i : Nat) x t, vs[i]? = some x → ps[i]? = some t → Own encI 3 b H x t
  apart : ∀ (i j : Nat) x y, i ≠ j → vs[i]? = some x → vs[j]? = some y → Asun x y
theorem PilAt.all {b : Nat} {H : Heap} {u : AVal} {vs : List AVal} {ps : List (List Int)} (x : PilAt b H u vs ps) : AllI b H u ps := ⟨vs, x.own, x.len, fun i y t h1 h2 => .inl ((x.el i y t h1 h2).low (Nat.zero_le _))⟩
theorem PilAt.ext {b : Nat} {H H' : Heap} {u : AVal} {vs : List AVal} {ps : List (List Int)} (x : PilAt b H u vs ps) (e : Ext H H') : PilAt b H' u vs ps := ⟨x.own.ext e, x.len, fun i y t h1 h2 => (x.el i y t h1 h2).ext e, x.apart⟩
/-- A card on a pile. -/
theorem PilAt.put {base b i : Nat} {H : Heap} {u w : AVal} {vs : List AVal} {ps : List (List Int)} {t : List Int} {p : Int} (x : PilAt b H u vs ps) (hb : base ≤ b) (hbh : b ≤ H.length) (hw : vs[i]? = some w) (ht : ps[i]? = some t) (hl : t.length ≤ 1000) :
    ∃ w' H2 id ver, One w' ∧ appendA prog base H 25 w (.vals [.int .i64 p]) = some (w', H2) ∧ u = .slice (some ⟨id, ver, 0⟩) vs.length vs.length ∧ H2[id]? = some (rowE encZ 25 vs ver) ∧ b ≤ id ∧ H.length ≤ H2.length ∧ (∀ G, G.length ≤ b → Ext G H → Ext G H2) ∧
      PilAt b (H2.set id (rowE encZ 25 (vs.set i w') ver)) u (vs.set i w') (ps.set i (t ++ [p])) := by
  have hi := (List.getElem?_eq_some_iff.1 hw).1
  have hO := x.el i w t hw ht
  have ea := app_sn1 (P := prog) (base := base) (y := p) (a := .int .i64 p) (t := 25) hO rfl rfl Fc.el25 encI_sc hb (by omega)
  obtain ⟨H2, eH2⟩ : ∃ H2, H2 = snH encI 3 H w t [p] := ⟨_, rfl⟩
  obtain ⟨w', ew'⟩ : ∃ w', w' = snV H w 1 := ⟨_, rfl⟩
  rw [← eH2, ← ew'] at ea
  have l2 : H.length ≤ H2.length := by rw [eH2]; exact snH_len
  have hu2 : Own encZ 25 b H2 u vs := by rw [eH2]; exact x.own.sn_oth (asun_ne hO x.own (by decide))
  have hw2 : Own encI 3 b H2 w' (t ++ [p]) := by rw [eH2, ew']; exact hO.sn (m := [p]) hbh (by simp)
  have ow' : One w' := by rw [ew']; exact snV_one
  obtain ⟨id, ver, eu, gu, hid⟩ := (Or.inl hu2 : OwnE encZ 25 b H2 u vs) |> fun z => OwnE.pos z (by omega)
  have lid := lt_of_get gu
  refine ⟨w', H2, id, ver, ow', ea, eu, gu, hid, l2, fun G hG e => by rw [eH2]; exact hO.sn_ext hG e, ?_, by rw [List.length_set, List.length_set]; exact x.len, fun j y s h1 h2 => ?_, fun j j' y y' hne h1 h2 => ?_⟩
  · exact .inr ⟨id, ver, by rw [List.length_set]; exact eu, List.getElem?_set_self lid, hid, by rw [List.length_set]; omega⟩
  · have key : Own encI 3 b H2 y s := by
      rw [List.getElem?_set] at h1 h2
      by_cases e : i = j
      · rw [if_pos e, if_pos (by omega)] at h1
        rw [if_pos e, if_pos (by have := x.len; omega)] at h2
        cases h1; cases h2; exact hw2
      · rw [if_neg e] at h1 h2
        rw [eH2]
        exact (x.el j y s h1 h2).sn_oth (x.apart i j w y e hw h1)
    exact key.setRow gu (by decide)
  · rw [List.getElem?_set] at h1 h2
    by_cases e : i = j
    · rw [if_pos e, if_pos (by omega)] at h1
      rw [if_neg (fun z => hne (e.symm.trans z))] at h2
      cases h1
      have hj := (List.getElem?_eq_some_iff.1 h2).1
      have oy := x.el j' y' _ h2 (List.getElem?_eq_getElem (by have := x.len; omega))
      rw [ew']
      exact oy.sn_asun (x.apart i j' w y' (fun z => hne (e.symm.trans z)) hw h2)
    · rw [if_neg e] at h1
      by_cases e2 : i = j'
      · rw [if_pos e2, if_pos (by omega)] at h2
        cases h2
        have oy := x.el j y _ h1 (List.getElem?_eq_getElem (by have := (List.getElem?_eq_some_iff.1 h1).1; have := x.len; omega))
        rw [ew']
        exact (oy.sn_asun (x.apart i j w y e hw h1)).symm
      · rw [if_neg e2] at h2
        exact x.apart j j' y y' hne h1 h2
end Go.AM
/-
  Contracts: Piles.
-/
namespace Go.AM
open Go.Proofs.Try
attribute [-go_sem] put_ne put_same
attribute [local go_sem ↓] put_if
def pilE (o : List Int) : List (List Int) × Int := if aloL o = 0 then (pilN o o.length, 0) else ([], aloL o)
theorem PilAt.snoc {base b : Nat} {H : Heap} {u : AVal} {vs : List AVal} {ps : List (List Int)} (x : PilAt b H u vs ps) (hb : base ≤ b) (hbh : b ≤ H.length) (hl : ps.length ≤ 1000) :
    ∃ z A u' H', (∀ {lit : Bool}, lit = true → bsA prog lit H 54 1 [(0, .slice none 0 0)] = some (z, A)) ∧ appendA prog base A 54 u z = some (u', H') ∧ One u' ∧ H.length ≤ H'.length ∧ (∀ G, G.length ≤ b → Ext G H → Ext G H') ∧ KeepO encZ 25 H H' ∧ PilAt b H' u' (vs ++ [.slice none 0 0]) (ps ++ [[]]) := by
  obtain ⟨z, A, h1, xA, u', H', h2, h3, h4, h5, h6, h7⟩ := snocZI (base := base) x.own (⟨rfl, rfl, rfl⟩ : One (.slice none 0 0)) hb hbh (by have := x.len; omega)
  have hlen := x.len
  refine ⟨z, A, u', H', h1, h2, h6, h4, h5, h7, h3, by simp [hlen], fun i y t g1 g2 => ?_, fun i j y y' hne g1 g2 => ?_⟩
  · by_cases hi : i < vs.length
    · rw [List.getElem?_append_left hi] at g1
      rw [List.getElem?_append_left (by omega)] at g2
      exact h7.own (x.el i y t g1 g2) (by decide)
    · rw [List.getElem?_append_right (by omega)] at g1
      rw [List.getElem?_append_right (by omega)] at g2
      have e0 : i - vs.length = 0 := by
        have := (List.getElem?_eq_some_iff.1 g1).1
        simp at this; omega
      rw [e0] at g1
      rw [show i - ps.length = 0 by omega] at g2
      cases g1; cases g2
      exact Own.nil
  · by_cases hi : i < vs.length
    · rw [List.getElem?_append_left hi] at g1
      by_cases hj : j < vs.length
      · rw [List.getElem?_append_left hj] at g2
        exact x.apart i j y y' hne g1 g2
      · rw [List.getElem?_append_right (by omega)] at g2
        have e0 : j - vs.length = 0 := by
          have := (List.getElem?_eq_some_iff.1 g2).1
          simp at this; omega
        rw [e0] at g2
        cases g2
        exact Asun.nil
    · rw [List.getElem?_append_right (by omega)] at g1
      have e0 : i - vs.length = 0 := by
        have := (List.getElem?_eq_some_iff.1 g1).1
        simp at this; omega
      rw [e0] at g1
      cases g1
      exact Asun.nil'
/-- The steps of a card on a pile, as the code takes them. -/
theorem put_facts {base b i : Nat} {H : Heap} {u w : AVal} {vs : List AVal} {ps : List (List Int)} {t : List Int} {p : Int} (x : PilAt b H u vs ps) (hb : base ≤ b) (hbh : b ≤ H.length) (hw : vs[i]? = some w) (ht : ps[i]? = some t) (hl : t.length ≤ 1000) (hps : ps.length ≤ 1000) :
    ∃ w' H2 H3 id ver, One w' ∧ u = .slice (some ⟨id, ver, 0⟩) vs.length vs.length ∧ loadP prog H 25 (.ptr (some ⟨id, ver, i⟩)) = some w ∧ appendA prog base H 25 w (.vals [.int .i64 p]) = some (w', H2) ∧ H2[id]? = some (rowE encZ 25 vs ver) ∧
      (∀ {F : ABlk → Heap}, stQ base id (some (rowE encZ 25 vs ver)) ver i [w'] F = some (F (rowE encZ 25 (vs.set i w') ver))) ∧ H2.set id (rowE encZ 25 (vs.set i w') ver) = H3 ∧ H.length ≤ H3.length ∧ (∀ G, G.length ≤ b → Ext G H → Ext G H3) ∧ PilAt b H3 u (vs.set i w') (ps.set i (t ++ [p])) := by
  have hi := (List.getElem?_eq_some_iff.1 hw).1
  have hlen := x.len
  obtain ⟨w', H2, id, ver, h1, h2, h3, h4, h5, h6, h7, h8⟩ := x.put (base := base) (p := p) hb hbh hw ht hl
  have ow := (x.el i w t hw ht).one
  refine ⟨w', H2, _, id, ver, h1, h3, ?_, h2, h4, fun {F} => ?_, rfl, by rw [List.length_set]; exact h6, fun G hG e => (h7 G hG e).set (by omega), h8⟩
  · have hR := x.own.rows (show vs.length < 2 ^ 60 by omega)
    have := hR.cell (P := prog) Fc.ty25 hw (o := 0) (a := w) (by simp only [encZ, norm_one ow]; rfl)
    rw [h3] at this
    simpa [elAdr, ARef.add, encZ] using this
  · have := stQ_rowE (base := base) (ver := ver) (e := 25) (id := id) (x := w') (K := F) hi (encZ_sc w') (by omega)
    have e1 : encZ.cells w' = [w'] := by simp only [encZ, norm_one h1]
    rw [e1, show i * encZ.z = i from Nat.mul_one i] at this
    exact this
end Go.AM
/-
  Contracts: Piles, walked.
-/
namespace Go.AM
open Go.Proofs.Try
theorem dschL30 {p : Prop} (h : p := by first | exact Nat.ne_of_beq_eq_false rfl | assumption | (apply asOne; (first | exact One.int | exact One.bool | assumption | exact Ints.one (by assumption) | exact Rows.one (by assumption) | exact Own.one (by assumption) | exact One.lit ⟨rfl, rfl, rfl⟩)) | (apply asInts; (repeat first | assumption | exact ints_nil | apply Ints.app); done) | (apply asRows; (repeat first | assumption | exact Rows.nil | apply Rows.app); done) | (apply asScal; (first | apply allS1 | apply allS2 | apply allS3 | apply allS4) <;> (first | exact One.int | exact One.bool | assumption | exact Ints.one (by assumption) | exact Rows.one (by assumption) | exact Own.one (by assumption) | exact One.lit ⟨rfl, rfl, rfl⟩)) | exact litT rfl | exact litF rfl | omega | (simp only [List.length_append, List.length_cons, List.length_nil, List.length_set, List.length_reverse]; first | done | omega) | fail) : p := h
attribute [-go_sem] put_ne put_same
attribute [local go_sem ↓] put_if
theorem few_flat : ∀ {ps : List (List Int)}, (∀ x ∈ ps, x ≠ []) → ps.length ≤ ps.flatten.length
  | [], _ => by simp
  | a :: l, hne => by
    have h1 := few_flat (ps := l) fun x hx => hne x (by simp [hx])
    have h2 := hne a (by simp)
    have h3 : 0 < a.length := by cases z : a with | nil => exact absurd z h2 | cons b c => simp
    simp only [List.flatten_cons, List.length_append, List.length_cons]
    omega
theorem idx_lt {α : Type} {p : α → Bool} {l : List α} (h : ¬ idx p l < 0) : ∃ i : Nat, idx p l = (i : Int) ∧ i < l.length := by
  obtain ⟨i, h1, ⟨h2, _⟩, _⟩ := idx_at (p := p) (l := l) (by omega)
  exact ⟨i, h1, h2⟩
set_option maxRecDepth 100000 in
set_option maxHeartbeats 4000000 in
theorem run_Piles {base : Nat} {h : Heap} {v : AVal} {o : List Int} (hb : base ≤ h.length) (hI : Ints h v o) :
    Ret prog raw base (.fn 68 [] []) [v] h (fun w H => Ext h H ∧ ∃ x vs, w = .tuple [x, .int .i64 (pilE o).2] ∧ PilAt h.length H x vs (pilE o).1) := by
  have ov := hI.one
  obtain ⟨G, eG⟩ : ∃ G, G = h ++ [(⟨.cells [v] 25 false false, 0⟩ : ABlk)] := ⟨_, rfl⟩
  have xG : Ext h G := by rw [eG]; exact .app .refl
  have gv : G[h.length]? = some ⟨.cells [v] 25 false false, 0⟩ := by rw [eG]; exact get_eq rfl
  have lG : G.length = h.length + 1 := by rw [eG]; simp
  have ha := fun base => run_alone (base := base) (hI.ext xG)
  by_cases c : aloL o = 0
  · obtain ⟨c1, c2, c3⟩ := aloL_iff.1 c
    rw [c] at ha
    have r : pilE o = (pilN o o.length, 0) := by unfold pilE; rw [if_pos c]
    rw [r]
    have hlo := lenI (hI.ext xG)
    have hdist : ∀ i j, i < j → j < o.length → o.getD i 0 ≠ o.getD j 0 := fun i j hij hj e => by
      have := ord_inj c3 (by omega) hj e; omega
    refine ret_raw func68 rfl (by kernel_rfl) ?_
    have hsp := @Nat.succ_ne_zero; repeat' (first | simp (disch := first | exact dschL30 | fail) only [go_sem, ↓reduceIte, hsp, ← eG, gv, ha, eq_self, hlo] | refine WP_drw ?_ | refine cnd_intro (fun hsp => ?_) fun hsp => ?_)
    refine WP_count [(5, 8), (16, 41)] 0 o.length (Nat.zero_le _) (fun _ p fr K => fr 16 = .int .i64 (p : Int) ∧ Ext G K ∧ ∃ u vs, fr 5 = u ∧ PilAt G.length K u vs (pilN o p)) ?_ ?_ ?_
    · exact ⟨by (simp (disch := first | exact dschL30 | fail) only [go_sem, ↓reduceIte, Int.natCast_zero]; first | done | rfl), .refl, .slice none 0 0, [], by simp (disch := first | exact dschL30 | fail) only [go_sem, ↓reduceIte], Own.nil, rfl, fun i x t q => by simp at q, fun i j x y _ q => by simp at q⟩
    · rintro p fr K hp0 hp hA ⟨r16, xK, u, vs, r5, hP⟩
      have q1 := hA 1 rfl
      have q2 := hA 2 rfl
      have q3 := hA 3 rfl
      have q14 := hA 14 rfl
      have q15 := hA 15 rfl
      try simp (disch := first | exact dschL30 | fail) only [go_sem, ↓reduceIte] at q1 q2 q3 q14 q15
      have hlt : ((p : Int) < (o.length : Int)) = True := eq_true (by omega)
      have hIK := hI.ext (xG.trans xK)
      have ap := adrI (i := (p : Int)) (by omega) hIK (by omega)
      rw [Int.toNat_natCast] at ap
      have lp := loadI hIK hp
      obtain ⟨k, ek⟩ : ∃ k, k = o.getD p 0 := ⟨_, rfl⟩
      rw [← ek] at lp
      have ou := hP.own.one
      have lK := xK.len
      obtain ⟨ps, eps⟩ : ∃ ps, ps = pilN o p := ⟨_, rfl⟩
      rw [← eps] at hP
      have hok := pilN_ok (o := o) hdist (n := p) (by omega)
      rw [← eps] at hok
      have hmem : ∀ x ∈ ps, ∀ y ∈ x, 0 ≤ y ∧ y < (p : Int) := fun x hx y hy => upto_mem.1 (hok.all.mem_iff.1 (List.mem_flatten.2 ⟨x, hx, hy⟩))
      have hxl : ∀ x ∈ ps, x.length ≤ p := fun x hx => by
        have h1 : x.Sublist ps.flatten := List.sublist_flatten_of_mem hx
        have h2 := h1.length_le
        rw [hok.all.length_eq, upto_len] at h2; exact h2
      have hpl : ps.length ≤ p := by
        have h1 := few_flat hok.ne
        rw [hok.all.length_eq, upto_len] at h1; exact h1
      obtain ⟨K1, eK1⟩ : ∃ K1, K1 = K ++ [nB k] := ⟨_, rfl⟩
      have x1 : Ext K K1 := by rw [eK1]; exact .app .refl
      have gk : K1[K.length]? = some (nB k) := by rw [eK1]; exact get_eq rfl
      have l1 : K1.length = K.length + 1 := by rw [eK1]; simp
      have gv1 := (xK.trans x1).get gv
      have hP1 := hP.ext x1
      have hix := idx_Z (base := base) (h := K1) (v := u) (g := .fn 135 [] [.ptr (some ⟨h.length, 0, 0⟩), .ptr (some ⟨K.length, 0, 0⟩)]) (ts := ps) (fun pile => decide (topV o pile > k)) (by omega) ⟨rfl, rfl, rfl⟩ hP1.all (by omega)
        (fun x t ht hx => run_pil1 gv1 gk (hI.ext ((xG.trans xK).trans x1)) (ownE_ints hx ⟨by have := hxl t ht; omega, fun y hy => by have := hmem t ht y hy; omega⟩) (hok.ne t ht) (fun y hy => by have := hmem t ht y hy; omega))
      obtain ⟨z, ez⟩ : ∃ z, z = idx (fun pile => decide (topV o pile > k)) ps := ⟨_, rfl⟩
      rw [← ez] at hix
      have hstep : pilN o (p + 1) = if z < 0 then ps ++ [[(p : Int)]] else ps.set z.toNat (ps.getD z.toNat [] ++ [(p : Int)]) := by
        rw [pilN, ← eps, pilS, pilI, ← ek, ← ez]
      unfold nB at eK1
      by_cases hz : z < 0
      · have t1 : (z < 0) = True := eq_true hz
        rw [if_pos hz] at hstep
        have hlu := hP1.all.len (by omega)
        obtain ⟨zz, A, u2, K2, b1, b2, b3, b4, b5, b6, hP2⟩ := hP1.snoc (base := base) (by omega) (by omega) (by omega)
        obtain ⟨w', K3, K4, id, ver, f1, f2, f3, f4, f5, f6, f7, f8, f9, f10⟩ := put_facts (base := base) (i := ps.length) (w := .slice none 0 0) (t := []) (p := (p : Int)) hP2 (by omega) (by omega) (by rw [List.getElem?_append_right (by have := hP1.len; omega), show ps.length - vs.length = 0 by have := hP1.len; omega]; rfl) (by simp) (by simp) (by simp; omega)
        have hps : (ps ++ [[]]).set ps.length ([] ++ [(p : Int)]) = ps ++ [[(p : Int)]] := by simp
        rw [hps, ← hstep] at f10
        have hvl : vs.length = ps.length := hP1.len
        subst f2
        have ai : indexAddrA prog 54 (.slice (some ⟨id, ver, 0⟩) (vs ++ [AVal.slice none 0 0]).length (vs ++ [AVal.slice none 0 0]).length) (.int .i64 (ps.length : Int)) = some (.ptr (some ⟨id, ver, ps.length⟩)) := by
          rw [adr_sl Fc.el54 Fc.ar54 (by omega) (by simp; omega), Int.toNat_natCast, Nat.mul_one, Nat.zero_add]
        have hsp := @Nat.succ_ne_zero; repeat' (first | simp (disch := first | exact dschL30 | fail) only [go_sem, ↓reduceIte, hsp, r16, r5, q1, q2, q3, q14, q15, hlt, ap, lp, ← eK1, hix, t1, hlu, b1, b2, ai, f3, f4, f5, f6, f7] | refine WP_drw ?_ | refine cnd_intro (fun hsp => ?_) fun hsp => ?_)
        exact ⟨by (repeat first | exact Agree.refl | assumption | refine Agree.put rfl ?_ | refine Agree.put0 ?_ | refine Agree.sub rfl (by assumption) ?_), by omega, f9 _ (Nat.le_refl _) (b5 _ (Nat.le_refl _) (xK.trans x1)), _, _, rfl, by simpa using f10⟩
      · have t1 : (z < 0) = False := eq_false hz
        rw [if_neg hz] at hstep
        obtain ⟨i, ei, hi⟩ := idx_lt (by rw [← ez]; exact hz)
        rw [← ez] at ei
        rw [ei] at hix t1 hstep
        rw [Int.toNat_natCast] at hstep
        have hvl : vs.length = ps.length := hP1.len
        have hti : ps[i]? = some (ps.getD i []) := getD_some hi
        obtain ⟨w', K3, K4, id, ver, f1, f2, f3, f4, f5, f6, f7, f8, f9, f10⟩ := put_facts (base := base) (i := i) (w := vs[i]) (t := ps.getD i []) (p := (p : Int)) hP1 (by omega) (by omega) (List.getElem?_eq_getElem (by omega)) hti (by have := hxl _ (List.mem_of_getElem? hti); omega) (by omega)
        rw [← hstep] at f10
        subst f2
        have ai : indexAddrA prog 54 (.slice (some ⟨id, ver, 0⟩) vs.length vs.length) (.int .i64 (i : Int)) = some (.ptr (some ⟨id, ver, i⟩)) := by
          rw [adr_sl Fc.el54 Fc.ar54 (by omega) (by omega), Int.toNat_natCast, Nat.mul_one, Nat.zero_add]
        have hsp := @Nat.succ_ne_zero; repeat' (first | simp (disch := first | exact dschL30 | fail) only [go_sem, ↓reduceIte, hsp, r16, r5, q1, q2, q3, q14, q15, hlt, ap, lp, ← eK1, hix, t1, ai, f3, f4, f5, f6, f7] | refine WP_drw ?_ | refine cnd_intro (fun hsp => ?_) fun hsp => ?_)
        exact ⟨by (repeat first | exact Agree.refl | assumption | refine Agree.put rfl ?_ | refine Agree.put0 ?_ | refine Agree.sub rfl (by assumption) ?_), by omega, f9 _ (Nat.le_refl _) (xK.trans x1), _, _, rfl, f10⟩
    · rintro fr K hA ⟨r16, xK, u, vs, r5, hP⟩
      have q1 := hA 1 rfl
      have q2 := hA 2 rfl
      have q3 := hA 3 rfl
      have q14 := hA 14 rfl
      have q15 := hA 15 rfl
      try simp (disch := first | exact dschL30 | fail) only [go_sem, ↓reduceIte] at q1 q2 q3 q14 q15
      have hlt : ((o.length : Int) < (o.length : Int)) = False := eq_false (by omega)
      have ou := hP.own.one
      have hsp := @Nat.succ_ne_zero; repeat' (first | simp (disch := first | exact dschL30 | fail) only [go_sem, ↓reduceIte, hsp, r16, r5, q1, q2, q3, q14, q15, hlt] | refine WP_drw ?_ | refine cnd_intro (fun hsp => ?_) fun hsp => ?_)
      exact ⟨xG.trans xK, _, vs, rfl, hP.own.low (by omega), hP.len, fun i x t h1 h2 => (hP.el i x t h1 h2).low (by omega), hP.apart⟩
  · have t1 : (aloL o = 0) = False := eq_false c
    have r : pilE o = ([], aloL o) := by unfold pilE; rw [if_neg c]
    rw [r]
    refine ret_raw func68 rfl (by kernel_rfl) ?_
    have hsp := @Nat.succ_ne_zero; repeat' (first | simp (disch := first | exact dschL30 | fail) only [go_sem, ↓reduceIte, hsp, ← eG, gv, ha, t1] | refine WP_drw ?_ | refine cnd_intro (fun hsp => ?_) fun hsp => ?_)
    exact ⟨xG, _, [], rfl, Own.nil, rfl, fun i x t q => by simp at q, fun i j x y _ q => by simp at q⟩
end Go.AM
/-
  Contracts: the number of piles, or the errors (Shows).
-/
namespace Go.AM
open Go.Proofs.Try
attribute [-go_sem] put_ne put_same
attribute [local go_sem ↓] put_if
def badAt (o pile : List Int) (i : Nat) : Bool :=
  !decide (0 ≤ pile.getD i 0 ∧ pile.getD i 0 ≤ (o.length : Int) - 1) || (decide (0 < i) && (decide (pile.getD i 0 ≤ pile.getD (i - 1) 0) || decide (o.getD (pile.getD i 0).toNat 0 ≥ o.getD (pile.getD (i - 1) 0).toNat 0)))
def pilB (o pile : List Int) : Bool := decide (pile ≠ []) && (List.range pile.length).all fun i => !badAt o pile i
theorem badAt_in {o pile : List Int} {i : Nat} (h : badAt o pile i = false) : 0 ≤ pile.getD i 0 ∧ pile.getD i 0 < (o.length : Int) := by
  unfold badAt at h
  rw [Bool.or_eq_false_iff] at h
  have := h.1
  simp only [Bool.not_eq_false', decide_eq_true_eq] at this
  omega
theorem pilB_bad {o pile : List Int} {i : Nat} (hi : i < pile.length) (h : badAt o pile i = true) : pilB o pile = false := by
  unfold pilB
  rw [show (List.range pile.length).all (fun i => !badAt o pile i) = false from all_no (x := i) (n := i) (List.getElem?_range hi) (by rw [h]; rfl), Bool.and_false]
theorem pilB_ok {o pile : List Int} (h0 : pile ≠ []) (h : ∀ i, i < pile.length → badAt o pile i = false) : pilB o pile = true := by
  unfold pilB
  rw [decide_eq_true h0, Bool.true_and, List.all_eq_true]
  intro i hi
  rw [h i (List.mem_range.1 hi)]; rfl
def shwE (o : List Int) (ps : List (List Int)) : Int × Int :=
  if aloL o ≠ 0 then (0, aloL o) else if ps.all (pilB o) = false then (0, 8) else if ps.flatten.length ≠ o.length ∨ twB ps.flatten = true then (0, 8) else ((ps.length : Int), 0)
end Go.AM
/-
  Plain: piles that are made are right; moves that are made.
-/
namespace Go.AM
theorem pair_at {α : Type} {R : α → α → Prop} {l : List α} (h : l.Pairwise R) {i j : Nat} (hij : i < j) (hj : j < l.length) : R (l[i]'(by omega)) l[j] := List.pairwise_iff_getElem.1 h i j (by omega) hj hij
theorem pils_ok {o : List Int} {ps : List (List Int)} (h : Pils o o.length ps) : ps.all (pilB o) = true := by
  rw [List.all_eq_true]
  intro x hx
  have hmem : ∀ y ∈ x, 0 ≤ y ∧ y < (o.length : Int) := fun y hy => upto_mem.1 (h.all.mem_iff.1 (List.mem_flatten.2 ⟨x, hx, hy⟩))
  refine pilB_ok (h.ne x hx) fun i hi => ?_
  have h1 := hmem _ (getD_mem hi)
  unfold badAt
  rw [decide_eq_true (by omega : 0 ≤ x.getD i 0 ∧ x.getD i 0 ≤ (o.length : Int) - 1)]
  by_cases hp : 0 < i
  · have h2 := pair_at (h.dn x hx) (i := i - 1) (j := i) (by omega) hi
    unfold PilR at h2
    rw [← getD_at (d := 0) hi, ← getD_at (d := 0) (show i - 1 < x.length by omega)] at h2
    rw [decide_eq_true hp, decide_eq_false (by omega), decide_eq_false (by omega)]
    rfl
  · rw [decide_eq_false hp]; rfl
theorem upto_nd (n : Nat) : (upto n).Nodup := (upto_sorted n).imp fun h => by omega
theorem shwE_pils {o : List Int} {ps : List (List Int)} (hc : aloL o = 0) (h : Pils o o.length ps) : shwE o ps = ((ps.length : Int), 0) := by
  unfold shwE
  rw [if_neg (by simp [hc]), if_neg (by rw [pils_ok h]; simp), if_neg]
  intro q
  rcases q with q | q
  · exact q (by rw [h.all.length_eq, upto_len])
  · have := of_decide_eq_true (show decide (¬ ps.flatten.Nodup) = true from q)
    exact this (h.all.nodup_iff.2 (upto_nd _))
theorem ord_dist {n : Nat} {o : List Int} (h : Ord n o) : ∀ i j, i < j → j < o.length → o.getD i 0 ≠ o.getD j 0 := fun i j hij hj e => by
  have := ord_inj h (by have := h.1; omega) (by have := h.1; omega) e
  omega
/-- Rise, Piles, Shows, Mend and Make of an order. -/
theorem ord_all5 {n : Nat} {o : List Int} (hn : 1 ≤ n ∧ n ≤ 7) (h : Ord n o) :
    aloL o = 0 ∧ risE o = (riseL o, 0) ∧ pilE o = (pilN o o.length, 0) ∧ shwE o (pilN o o.length) = (((riseL o).length : Int), 0) ∧ (pilN o o.length).length = (riseL o).length ∧ mndE o = (mndL o, 0) ∧ makE o (mndL o) = (upto n, 0) ∧ (mndL o).length + (riseL o).length = n := by
  have ha : aloL o = 0 := aloL_iff.2 ⟨by have := h.1; omega, by have := h.1; omega, by rw [h.1]; exact h⟩
  have hp := pilN_ok (ord_dist h) (Nat.le_refl _)
  have hl := piles_rise hp (riseL_is o)
  obtain ⟨m1, m2, m3⟩ := mndL_ok h
  refine ⟨ha, by unfold risE; rw [if_pos ha], by unfold pilE; rw [if_pos ha], by rw [shwE_pils ha hp, hl], hl, by unfold mndE; rw [if_pos ha], by unfold makE; rw [if_pos ha, h.1, m1], m3⟩
end Go.AM
/-
  Contracts: whether an order explains the rows, as the statements ask it; a chain in which the cards at some positions were looked at.
-/
namespace Go.AM
open Go.Proofs.Try
attribute [-go_sem] put_ne put_same
attribute [local go_sem ↓] put_if
/-- Rows of what is seen at some positions. -/
def looks (L : Lac) (real ps : List Int) : List Rw3 := ps.map fun p => (p, 2 ^ L.T.toNat - 1, L.C.getD (real.getD p.toNat 0).toNat 0)
def shwL (L : Lac) (real ps : List Int) : Lac := ⟨L.T, L.C, L.R ++ looks L real ps⟩
end Go.AM
/-
  Or of numbers.
-/
namespace Go.AM
open Go.Proofs.Try
end Go.AM
/-
  Contracts: a row of what is really seen (Seen).
-/
namespace Go.AM
open Go.Proofs.Try
attribute [-go_sem] put_ne put_same
attribute [local go_sem ↓] put_if
/-- What is really seen. -/
structure SeenOk (T : Int) (C o : List Int) (r : Rw3) : Prop where
  t : 0 ≤ r.1 ∧ r.1 ≤ 60
  m : 0 ≤ r.2.1 ∧ r.2.1 ≤ 2 ^ T.toNat - 1
  s : 0 ≤ r.2.2
  is : (C.getD (o.getD (r.1.toNat % C.length) 0).toNat 0).toNat &&& r.2.1.toNat = r.2.2.toNat
end Go.AM
/-
  Plain: fewer moves do not make an order right.
-/
namespace Go.AM
end Go.AM
