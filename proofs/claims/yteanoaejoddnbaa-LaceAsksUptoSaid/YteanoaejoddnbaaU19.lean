/-
  The reference: rows and cards, cards and positions, orders and rows.
-/
import Derived.Test.YteanoaejoddnbaaU18
import Derived.Test.YteanoaejoddnbaaB9
set_option linter.unusedSimpArgs false
set_option linter.unusedVariables false
namespace Go.AM
open Go.Proofs.Try
theorem dschL58 {p : Prop} (h : p := by first | exact Nat.ne_of_beq_eq_false rfl | assumption | (apply asOne; (first | exact One.int | exact One.bool | assumption | exact Ints.one (by assumption) | exact Rows.one (by assumption) | exact Own.one (by assumption) | exact One.lit ⟨rfl, rfl, rfl⟩)) | (apply asInts; (repeat first | assumption | exact ints_nil | apply Ints.app); done) | (apply asRows; (repeat first | assumption | exact Rows.nil | apply Rows.app); done) | (apply asScal; (first | apply allS1 | apply allS2 | apply allS3 | apply allS4) <;> (first | exact One.int | exact One.bool | assumption | exact Ints.one (by assumption) | exact Rows.one (by assumption) | exact Own.one (by assumption) | exact One.lit ⟨rfl, rfl, rfl⟩)) | exact litT rfl | exact litF rfl | omega | (simp only [List.length_append, List.length_cons, List.length_nil, List.length_set, List.length_reverse]; first | done | omega) | fail) : p := h
attribute [-go_sem] put_ne put_same
attribute [local go_sem ↓] put_if
theorem range_no {p : Nat → Bool} {k n : Nat} (hk : k < n) (h : p k = false) : (List.range n).all p = false := by
  rw [Bool.eq_false_iff]
  intro q
  have := List.all_eq_true.1 q k (List.mem_range.2 hk)
  rw [h] at this; cases this
theorem beq_dec {a b : Bool} : (a == b) = decide (a = b) := by cases a <;> cases b <;> rfl
set_option maxHeartbeats 2000000 in
theorem run_agrees {base k : Nat} {h : Heap} {v : AVal} {L : Lac} {r : Rw3} (hL : LacAt h v L) (hT : 1 ≤ L.T ∧ L.T ≤ 8) (hk : k < L.C.length) (hc : 0 ≤ L.C.getD k 0 ∧ L.C.getD k 0 < 1000) (hm : 0 ≤ r.2.1 ∧ r.2.1 < 1000) (hs : 0 ≤ r.2.2 ∧ r.2.2 < 1000) :
    callL prog raw base (.fn 101 [] []) [v, .agg [.int .i64 r.1, .int .i64 r.2.1, .int .i64 r.2.2], .int .i64 (k : Int)] h = some (.bool (agrB L r k), h) := by
  obtain ⟨cv, rv, rfl, hC, hR⟩ := hL
  have o1 := hC.one
  have o2 := hR.one
  obtain ⟨G, eG⟩ : ∃ G, G = h ++ [rcB L.T cv rv] ++ [rrB r] := ⟨_, rfl⟩
  have xG : Ext h G := by rw [eG]; exact .app (.app .refl)
  have g0 : G[h.length]? = some (rcB L.T cv rv) := by rw [eG]; exact get_app (get_eq rfl)
  have g1 : G[h.length + 1]? = some (rrB r) := by rw [eG]; exact get_eq (by simp)
  have iC := hC.ext xG
  have ak := adrI (i := (k : Int)) (by omega) iC (by omega)
  rw [Int.toNat_natCast] at ak
  have lk := loadI iC hk
  obtain ⟨c, ec⟩ := Int.eq_ofNat_of_zero_le hc.1
  obtain ⟨mk, em⟩ := Int.eq_ofNat_of_zero_le hm.1
  obtain ⟨sw, es⟩ := Int.eq_ofNat_of_zero_le hs.1
  rw [ec] at lk hc
  rw [em] at hm
  rw [es] at hs
  obtain ⟨T, eT⟩ := Int.eq_ofNat_of_zero_le (show 0 ≤ L.T by omega)
  have hag : agrB L r k = (List.range T).all fun t => !mk.testBit t || (c.testBit t == sw.testBit t) := by
    unfold agrB
    rw [eT, em, es, ec]
    simp only [Int.toNat_natCast]
  rw [hag]
  unfold rcB rrB at eG
  unfold rcB at g0
  unfold rrB at g1
  rw [em, es] at g1 eG
  rw [em, es]
  refine callL_run func101 rfl rfl ?_
  have hsp := @Nat.succ_ne_zero; repeat' (first | simp (disch := first | exact dschL58 | fail) only [go_sem, ↓reduceIte, hsp, ← eG] | refine WP_drw ?_ | refine cnd_intro (fun hsp => ?_) fun hsp => ?_)
  refine WP_count [(6, 31)] 0 T (Nat.zero_le _) (fun _ i fr H => fr 7 = .int .i64 (i : Int) ∧ H = G ∧ (List.range i).all (fun t => !mk.testBit t || (c.testBit t == sw.testBit t)) = true) ?_ ?_ ?_
  · exact ⟨by (simp (disch := first | exact dschL58 | fail) only [go_sem, ↓reduceIte, Int.natCast_zero]; first | done | rfl), rfl, by simp⟩
  · rintro i fr H hi0 hi hA ⟨r7, rfl, ha⟩
    have q2 := hA 2 rfl
    have q3 := hA 3 rfl
    have q4 := hA 4 rfl
    try simp (disch := first | exact dschL58 | fail) only [go_sem, ↓reduceIte] at q2 q3 q4
    have hlt : ((i : Int) < L.T) = True := eq_true (by omega)
    have l1 := fun base => run_lifts (base := base) (h := H) (x := mk) (k := i) (by omega) (by omega)
    have l2 := fun base => run_lifts (base := base) (h := H) (x := c) (k := i) (by omega) (by omega)
    have l3 := fun base => run_lifts (base := base) (h := H) (x := sw) (k := i) (by omega) (by omega)
    cases b1 : mk.testBit i with
    | false =>
      rw [b1] at l1
      have hsp := @Nat.succ_ne_zero; repeat' (first | simp (disch := first | exact dschL58 | fail) only [go_sem, ↓reduceIte, hsp, r7, q2, q3, q4, g0, g1, hlt, l1] | refine WP_drw ?_ | refine cnd_intro (fun hsp => ?_) fun hsp => ?_)
      exact ⟨by (repeat first | exact Agree.refl | assumption | refine Agree.put rfl ?_ | refine Agree.put0 ?_ | refine Agree.sub rfl (by assumption) ?_), by omega, by rw [List.all_append, ha]; simp [b1]⟩
    | true =>
      rw [b1] at l1
      by_cases b2 : c.testBit i = sw.testBit i
      · rw [b2] at l2
        have hsp := @Nat.succ_ne_zero; repeat' (first | simp (disch := first | exact dschL58 | fail) only [go_sem, ↓reduceIte, hsp, r7, q2, q3, q4, g0, g1, hlt, l1, ak, lk, l2, l3, neB, ne_eq, eq_self, not_true, decide_false] | refine WP_drw ?_ | refine cnd_intro (fun hsp => ?_) fun hsp => ?_)
        exact ⟨by (repeat first | exact Agree.refl | assumption | refine Agree.put rfl ?_ | refine Agree.put0 ?_ | refine Agree.sub rfl (by assumption) ?_), by omega, by rw [List.all_append, ha]; simp [b1, b2]⟩
      · have t1 : (c.testBit i = sw.testBit i) = False := eq_false b2
        have hsp := @Nat.succ_ne_zero; repeat' (first | simp (disch := first | exact dschL58 | fail) only [go_sem, ↓reduceIte, hsp, r7, q2, q3, q4, g0, g1, hlt, l1, ak, lk, l2, l3, neB, ne_eq, t1, not_false_eq_true, decide_true] | refine WP_drw ?_ | refine cnd_intro (fun hsp => ?_) fun hsp => ?_)
        refine fB ?_ xG
        rw [range_no (k := i) hi (by rw [b1, beq_dec, decide_eq_false b2]; rfl)]
  · rintro fr H hA ⟨r7, rfl, ha⟩
    have q2 := hA 2 rfl
    have q3 := hA 3 rfl
    have q4 := hA 4 rfl
    try simp (disch := first | exact dschL58 | fail) only [go_sem, ↓reduceIte] at q2 q3 q4
    have hlt : ((T : Int) < L.T) = False := eq_false (by omega)
    have hsp := @Nat.succ_ne_zero; repeat' (first | simp (disch := first | exact dschL58 | fail) only [go_sem, ↓reduceIte, hsp, r7, q2, q3, q4, g0, hlt] | refine WP_drw ?_ | refine cnd_intro (fun hsp => ?_) fun hsp => ?_)
    exact fB (by rw [ha]) xG
theorem row_bd {L : Lac} (hL : LacOk L) {r : Rw3} (hr : r ∈ L.R) : (0 ≤ r.1 ∧ r.1 ≤ 999) ∧ (0 ≤ r.2.1 ∧ r.2.1 < 1000) ∧ 0 ≤ r.2.2 ∧ r.2.2 < 1000 := by
  obtain ⟨a, b, c, _⟩ := hL.r r hr
  have := (pow_le8 hL.T).2
  exact ⟨a, ⟨b.1, by omega⟩, c.1, by omega⟩
theorem card_bd {L : Lac} (hL : LacOk L) {k : Nat} (hk : k < L.C.length) : 0 ≤ L.C.getD k 0 ∧ L.C.getD k 0 < 1000 := by
  have h := hL.c _ (getD_mem' (d := (0 : Int)) hk)
  have := (pow_le8 hL.T).2
  omega
set_option maxHeartbeats 2000000 in
theorem run_rexplains {base : Nat} {h : Heap} {v ov : AVal} {L : Lac} {o : List Int} (hL : LacAt h v L) (hok : LacOk L) (hO : Ints h ov o) (ho : Ord L.C.length o) :
    callL prog raw base (.fn 35 [] []) [v, ov] h = some (.bool (xplD L o o.length), h) := by
  have hL0 := hL
  obtain ⟨cv, rv, rfl, hC, hR⟩ := hL
  have o1 := hC.one
  have o2 := hR.one
  have o3 := hO.one
  have hn := hok.n
  have hm := hok.m
  have hol := ho.1
  obtain ⟨G, eG⟩ : ∃ G, G = h ++ [rcB L.T cv rv] := ⟨_, rfl⟩
  have xG : Ext h G := by rw [eG]; exact .app .refl
  have g0 : G[h.length]? = some (rcB L.T cv rv) := by rw [eG]; exact get_eq rfl
  have hxe : xplD L o o.length = xplB L o := by rw [Bool.eq_iff_iff, xplD_iff, xplB_iff hok ho]
  rw [hxe]
  unfold rcB at eG g0
  refine callL_run func35 rfl rfl ?_
  have hsp := @Nat.succ_ne_zero; repeat' (first | simp (disch := first | exact dschL58 | fail) only [go_sem, ↓reduceIte, hsp, ← eG] | refine WP_drw ?_ | refine cnd_intro (fun hsp => ?_) fun hsp => ?_)
  refine WP_count [(4, 30)] 0 L.R.length (Nat.zero_le _) (fun _ i fr H => fr 5 = .int .i64 (i : Int) ∧ Ext G H ∧ (L.R.take i).all (fun r => agrB L r (o.getD (r.1.toNat % o.length) 0).toNat) = true) ?_ ?_ ?_
  · exact ⟨by (simp (disch := first | exact dschL58 | fail) only [go_sem, ↓reduceIte, Int.natCast_zero]; first | done | rfl), .refl, by simp⟩
  · rintro i fr H hi0 hi hA ⟨r5, xH, ha⟩
    have q1 := hA 1 rfl
    have q2 := hA 2 rfl
    try simp (disch := first | exact dschL58 | fail) only [go_sem, ↓reduceIte] at q1 q2
    have hlt : ((i : Int) < (L.R.length : Int)) = True := eq_true (by omega)
    obtain ⟨r, er⟩ : ∃ r, r = L.R[i] := ⟨_, rfl⟩
    have hx : L.R[i]? = some r := by rw [er]; exact List.getElem?_eq_getElem hi
    obtain ⟨k1, k2, k3⟩ := row_bd hok (List.mem_of_getElem? hx)
    have xh := xG.trans xH
    have lH := xh.len
    have iR := hR.ext xh
    have a1 := rrow_ad iR hi
    have b2 := rrow_ld iR hx
    have gH := xH.get g0
    have hn2 := iR.len (P := prog) Fc.el47
    obtain ⟨K, eK⟩ : ∃ K, K = H ++ [rrB r] := ⟨_, rfl⟩
    have xK : Ext H K := by rw [eK]; exact .app .refl
    have gr : K[H.length]? = some (rrB r) := by rw [eK]; exact get_eq rfl
    have gK := xK.get gH
    have iO := hO.ext (xh.trans xK)
    have hlo := lenI iO
    rw [hol] at hlo
    have hrem := remN (x := r.1) (n := L.C.length) k1.1 (by omega)
    obtain ⟨j, ej⟩ : ∃ j, j = r.1.toNat % L.C.length := ⟨_, rfl⟩
    have hj : j < L.C.length := by rw [ej]; exact Nat.mod_lt _ (by omega)
    rw [← ej] at hrem
    have aj := adrI (i := (j : Int)) (by omega) iO (by omega)
    rw [Int.toNat_natCast] at aj
    have lj := loadI iO (i := j) (by omega)
    have hb := ord_at ho hj
    obtain ⟨c, ec⟩ := Int.eq_ofNat_of_zero_le hb.2.1
    rw [ec] at lj hb
    have hcn : c < L.C.length := by omega
    have hag := fun base => run_agrees (base := base) (r := r) (k := c) (hL0.ext (xh.trans xK)) hok.T hcn (card_bd hok hcn) k2 k3
    have hval : agrB L r (o.getD (r.1.toNat % o.length) 0).toNat = agrB L r c := by rw [hol, ← ej, ec, Int.toNat_natCast]
    unfold rrB at eK gr
    cases d : agrB L r c with
    | true =>
      rw [d] at hag
      have hsp := @Nat.succ_ne_zero; repeat' (first | simp (disch := first | exact dschL58 | fail) only [go_sem, ↓reduceIte, hsp, r5, q1, q2, gH, hn2, hlt, a1, b2, ← eK, gK, gr, hlo, hrem, aj, lj, hag] | refine WP_drw ?_ | refine cnd_intro (fun hsp => ?_) fun hsp => ?_)
      exact ⟨by (repeat first | exact Agree.refl | assumption | refine Agree.put rfl ?_ | refine Agree.put0 ?_ | refine Agree.sub rfl (by assumption) ?_), by omega, xH.trans xK, all_take hx ha (by rw [hval, d])⟩
    | false =>
      rw [d] at hag
      have hsp := @Nat.succ_ne_zero; repeat' (first | simp (disch := first | exact dschL58 | fail) only [go_sem, ↓reduceIte, hsp, r5, q1, q2, gH, hn2, hlt, a1, b2, ← eK, gK, gr, hlo, hrem, aj, lj, hag] | refine WP_drw ?_ | refine cnd_intro (fun hsp => ?_) fun hsp => ?_)
      refine fB ?_ (xh.trans xK)
      unfold xplB
      rw [all_no hx (by rw [hval, d])]
  · rintro fr H hA ⟨r5, xH, ha⟩
    have q1 := hA 1 rfl
    have q2 := hA 2 rfl
    try simp (disch := first | exact dschL58 | fail) only [go_sem, ↓reduceIte] at q1 q2
    have hlt : ((L.R.length : Int) < (L.R.length : Int)) = False := eq_false (by omega)
    rw [List.take_length] at ha
    have gH := xH.get g0
    have hn2 := (hR.ext (xG.trans xH)).len (P := prog) Fc.el47
    have hsp := @Nat.succ_ne_zero; repeat' (first | simp (disch := first | exact dschL58 | fail) only [go_sem, ↓reduceIte, hsp, r5, q1, q2, gH, hn2, hlt] | refine WP_drw ?_ | refine cnd_intro (fun hsp => ?_) fun hsp => ?_)
    exact fB (by unfold xplB; rw [ha]) (xG.trans xH)
end Go.AM
/-
  The reference: all orders, those that explain the rows.
-/
namespace Go.AM
open Go.Proofs.Try
theorem dschL59 {p : Prop} (h : p := by first | exact Nat.ne_of_beq_eq_false rfl | assumption | (apply asOne; (first | exact One.int | exact One.bool | assumption | exact Ints.one (by assumption) | exact Rows.one (by assumption) | exact Own.one (by assumption) | exact One.lit ⟨rfl, rfl, rfl⟩)) | (apply asInts; (repeat first | assumption | exact ints_nil | apply Ints.app); done) | (apply asRows; (repeat first | assumption | exact Rows.nil | apply Rows.app); done) | (apply asScal; (first | apply allS1 | apply allS2 | apply allS3 | apply allS4) <;> (first | exact One.int | exact One.bool | assumption | exact Ints.one (by assumption) | exact Rows.one (by assumption) | exact Own.one (by assumption) | exact One.lit ⟨rfl, rfl, rfl⟩)) | exact litT rfl | exact litF rfl | omega | (simp only [List.length_append, List.length_cons, List.length_nil, List.length_set, List.length_reverse]; first | done | omega) | fail) : p := h
attribute [-go_sem] put_ne put_same
attribute [local go_sem ↓] put_if
section
variable {b : Nat} {H H' : Heap} {v : AVal} {ts : List (List Int)}
/-- Lists in a list that lies behind b, they behind e. -/
def AllX (b e : Nat) (H : Heap) (v : AVal) (ts : List (List Int)) : Prop := ∃ vs : List AVal, Own encZ 25 b H v vs ∧ vs.length = ts.length ∧ ∀ (i : Nat) x t, vs[i]? = some x → ts[i]? = some t → OwnE encI 3 e H x t
theorem AllX.nil {e : Nat} : AllX b e H (.slice none 0 0) [] := ⟨[], Own.nil, rfl, fun i x t q => by simp at q⟩
theorem AllX.one {e : Nat} (x : AllX b e H v ts) : One v := by obtain ⟨vs, h1, _⟩ := x; exact h1.one
theorem AllX.ext {e : Nat} (x : AllX b e H v ts) (q : Ext H H') : AllX b e H' v ts := by
  obtain ⟨vs, h1, h2, h3⟩ := x
  exact ⟨vs, h1.ext q, h2, fun i x t a c => (h3 i x t a c).ext q⟩
theorem AllX.all {e c : Nat} (x : AllX b e H v ts) (h1 : c ≤ b) (h2 : c ≤ e) : AllB c H v ts := by
  obtain ⟨vs, k1, k2, k3⟩ := x
  exact ⟨vs, k1.low h1, k2, fun i x t a d => (k3 i x t a d).low h2⟩
theorem AllX.app2 {A : Heap} {w x : AVal} {ms : List (List Int)} {base e b2 : Nat} (y : AllX b e A w ts) (z : AllX b2 e A x ms) (hb : base ≤ b) (hbh : b ≤ A.length) (h0 : 0 < ms.length) (hl : ts.length + ms.length ≤ 100000000) :
    ∃ w' h', appendA prog base A 54 w x = some (w', h') ∧ AllX b e h' w' (ts ++ ms) ∧ A.length ≤ h'.length ∧ (∀ G, G.length ≤ b → Ext G A → Ext G h') ∧ One w' := by
  obtain ⟨vs, h1, h2, h3⟩ := y
  obtain ⟨us, k1, k2, k3⟩ := z
  obtain ⟨w', h', a1, a2, a3, a4, a5, a6⟩ := h1.appendRX (P := prog) (base := base) (t := 54) (k1.rows (by omega)) Fc.el54 encZ_sc hb hbh (by omega) (by omega)
  have a6 : KeepO encZ 25 A h' := a6
  refine ⟨w', h', a1, ⟨_, a2, by simp [h2, k2], fun i p q g1 g2 => ?_⟩, a3, a4, a5⟩
  by_cases hi : i < vs.length
  · rw [List.getElem?_append_left hi] at g1
    rw [List.getElem?_append_left (by omega)] at g2
    exact a6.ownE (h3 i p q g1 g2) (by decide)
  · rw [List.getElem?_append_right (by omega)] at g1
    rw [List.getElem?_append_right (by omega), ← h2] at g2
    exact a6.ownE (k3 _ p q g1 g2) (by decide)
theorem AllX.snoc {A : Heap} {w x : AVal} {t : List Int} {base e : Nat} (y : AllX b e A w ts) (hx : OwnE encI 3 e A x t) (hb : base ≤ b) (hbh : b ≤ A.length) (hl : ts.length ≤ 10000000) :
    ∃ z A', (∀ {lit : Bool}, lit = true → bsA prog lit A 54 1 [(0, x)] = some (z, A')) ∧ Ext A A' ∧ ∃ w' h', appendA prog base A' 54 w z = some (w', h') ∧ AllX b e h' w' (ts ++ [t]) ∧ A.length ≤ h'.length ∧ (∀ G, G.length ≤ b → Ext G A → Ext G h') ∧ One w' := by
  obtain ⟨vs, h1, h2, h3⟩ := y
  obtain ⟨z, A', a1, a2, w', h', a3, a4, a5, a6, a7, a8⟩ := snocZI (base := base) h1 hx.one hb hbh (by omega)
  refine ⟨z, A', a1, a2, w', h', a3, ⟨_, a4, by simp [h2], fun i p q g1 g2 => ?_⟩, a5, a6, a7⟩
  by_cases hi : i < vs.length
  · rw [List.getElem?_append_left hi] at g1
    rw [List.getElem?_append_left (by omega)] at g2
    exact a8.ownE (h3 i p q g1 g2) (by decide)
  · rw [List.getElem?_append_right (by omega)] at g1
    rw [List.getElem?_append_right (by omega)] at g2
    have e0 : i - vs.length = 0 := by
      have := (List.getElem?_eq_some_iff.1 g1).1
      simp at this; omega
    rw [e0] at g1
    rw [show i - ts.length = 0 by omega] at g2
    cases g1; cases g2
    exact a8.ownE hx (by decide)
theorem AllB.at {A : Heap} (x : AllB b H v ts) (hl : ts.length < 2 ^ 60) {i : Nat} {t : List Int} (ht : ts[i]? = some t) :
    ∃ a w, indexAddrA prog 54 v (.int .i64 (i : Int)) = some a ∧ (∀ K, Ext H K → loadP prog K 25 a = some w) ∧ OwnE encI 3 b H w t := by
  obtain ⟨vs, h1, h2, h3⟩ := x
  have hi : i < vs.length := by rw [h2]; exact (List.getElem?_eq_some_iff.1 ht).1
  have hv : vs[i]? = some vs[i] := List.getElem?_eq_getElem hi
  have ho := h3 i _ t hv ht
  have hR := h1.rows (show vs.length < 2 ^ 60 by omega)
  have ad := hR.addr (P := prog) (i := (i : Int)) Fc.el54 Fc.ar54 (by omega) (by omega)
  rw [Int.toNat_natCast] at ad
  exact ⟨_, _, ad, fun K e => (hR.ext e).cell (P := prog) Fc.ty25 hv (o := 0) (a := vs[i]) (by simp only [encZ, norm_one ho.one]; rfl), ho⟩
end
theorem emp_clone {base : Nat} {A : Heap} {x : AVal} {l : List Int} (hI : Ints A x l) (hl : l.length ≤ 1000) : ∃ w H, appendA prog base A 25 .emp x = some (w, H) ∧ Ext A H ∧ OwnE encI 3 A.length H w l ∧ One w := by
  by_cases h0 : l = []
  · subst h0
    exact ⟨.emp, A, app_none hI.rows Fc.el25, .refl, .inr ⟨rfl, rfl⟩, ⟨rfl, rfl, rfl⟩⟩
  · have := app_empE (base := base) hI.rows h0 encI_sc (by omega) Fc.el25
    exact ⟨_, _, this, .app .refl, .inl (.inr ⟨A.length, 0, rfl, get_eq rfl, Nat.le_refl _, List.length_pos_iff.2 h0⟩), ⟨rfl, rfl, rfl⟩⟩
theorem left_one {n : Nat} {l : List Int} (h : l.length < n) : ∃ k : Nat, k < n ∧ (k : Int) ∉ l := by
  refine Classical.byContradiction fun q => ?_
  have := pigeon (R := fun (a b : Int) => a = b) (l := upto n) (t := l) ((upto_sorted n).imp fun h => by omega) (fun a ha => ?_) fun a _ c _ b _ h1 h2 => h1.trans h2.symm
  · rw [upto_len] at this; omega
  · have ha := upto_mem.1 ha
    refine ⟨a, Classical.byContradiction fun hn => q ⟨a.toNat, by omega, ?_⟩, rfl⟩
    rw [Int.toNat_of_nonneg ha.1]; exact hn
def allF (n d : Nat) (l : List Int) (k : Int) : List (List Int) := if ((fun (_ _ : Nat) => true) l.length k.toNat && decide (k ∉ l)) = true then ordsF (fun _ _ => true) n d (l ++ [k]) else []
theorem ordsF_all {n d : Nat} {l : List Int} : ordsF (fun _ _ => true) n (d + 1) l = (upto n).flatMap (allF n d l) := rfl
theorem allF_in {n d : Nat} {l : List Int} {k : Int} (h : k ∉ l) : allF n d l k = ordsF (fun _ _ => true) n d (l ++ [k]) := by unfold allF; simp [h]
theorem allF_no {n d : Nat} {l : List Int} {k : Int} (h : k ∈ l) : allF n d l k = [] := by unfold allF; simp [h]
theorem ords_some {n : Nat} : ∀ {d : Nat} {l : List Int}, l.length + d = n → ordsF (fun _ _ => true) n d l ≠ []
  | 0, l, _ => by simp [ordsF]
  | d + 1, l, h => by
    obtain ⟨k, hk, hn⟩ := left_one (n := n) (l := l) (by omega)
    have := ords_some (n := n) (d := d) (l := l ++ [(k : Int)]) (by simp; omega)
    rw [ordsF_all]
    intro q
    rw [List.flatMap_eq_nil_iff] at q
    have h2 := q (k : Int) (upto_mem.2 (by omega))
    rw [allF_in hn] at h2
    exact this h2
set_option maxRecDepth 100000 in
set_option maxHeartbeats 2000000 in
theorem run_Orders {base b n : Nat} (hb : base ≤ b) (hn : n ≤ 7) : ∀ (d : Nat) {l : List Int} {lv : AVal} {h : Heap}, l.length + d = n → l.Nodup → (∀ x ∈ l, 0 ≤ x ∧ x < (n : Int)) → b ≤ h.length → OwnE encI 3 b h lv l →
    Ret prog raw base (.fn 102 [] []) [lv, .int .i64 (n : Int)] h (fun w H => Ext h H ∧ AllX h.length b H w (ordsF (fun _ _ => true) n d l)) := by
  intro d
  induction d with
  | zero =>
    intro l lv h hl hnd hin hbh hO
    have ov := hO.one
    have iL := ownE_ints hO ⟨by omega, fun x hx => by have := hin x hx; omega⟩
    have hlo := lenI iL
    have t1 : ((l.length : Int) = (n : Int)) = True := eq_true (by omega)
    have bs : bsA prog false h 54 1 [(0, lv)] = some (.slice (some ⟨h.length, 0, 0⟩) 1 1, h ++ [rowE encZ 25 [lv] 0]) := bsZI ov rfl
    refine ret_raw func102 rfl (by kernel_rfl) ?_
    have hsp := @Nat.succ_ne_zero; repeat' (first | simp (disch := first | exact dschL59 | fail) only [go_sem, ↓reduceIte, hsp, hlo, t1, bsZI] | refine WP_drw ?_ | refine cnd_intro (fun hsp => ?_) fun hsp => ?_)
    refine ⟨.app .refl, [lv], .inr ⟨h.length, 0, rfl, get_eq rfl, Nat.le_refl _, by simp⟩, rfl, fun i x t q1 q2 => ?_⟩
    have hi : i = 0 := by
      have := (List.getElem?_eq_some_iff.1 q1).1
      simp at this; omega
    subst hi
    simp [ordsF] at q1 q2
    subst q1 q2
    exact hO.ext (.app .refl)
  | succ d ih =>
    intro l lv h hl hnd hin hbh hO
    have ov := hO.one
    have iL := ownE_ints hO ⟨by omega, fun x hx => by have := hin x hx; omega⟩
    have hlo := lenI iL
    have t1 : ((l.length : Int) = (n : Int)) = False := eq_false (by omega)
    refine ret_raw func102 rfl (by kernel_rfl) ?_
    have hsp := @Nat.succ_ne_zero; repeat' (first | simp (disch := first | exact dschL59 | fail) only [go_sem, ↓reduceIte, hsp, hlo, t1] | refine WP_drw ?_ | refine cnd_intro (fun hsp => ?_) fun hsp => ?_)
    refine WP_count [(5, 32)] 0 n (Nat.zero_le _) (fun _ k fr K => fr 6 = .int .i64 (k : Int) ∧ Ext h K ∧ ∃ u, fr 5 = u ∧ AllX h.length b K u ((upto k).flatMap (allF n d l)) ∧ ((upto k).flatMap (allF n d l)).length ≤ k * 823543) ?_ ?_ ?_
    · exact ⟨by (simp (disch := first | exact dschL59 | fail) only [go_sem, ↓reduceIte, Int.natCast_zero]; first | done | rfl), .refl, _, by simp (disch := first | exact dschL59 | fail) only [go_sem, ↓reduceIte], AllX.nil, by simp [upto, lst]⟩
    · rintro k fr K hk0 hk hA ⟨r6, xK, u, r5, hA5, hAl⟩
      have q0 := hA 0 rfl
      have q1 := hA 1 rfl
      have q4 := hA 4 rfl
      try simp (disch := first | exact dschL59 | fail) only [go_sem, ↓reduceIte] at q0 q1 q4
      have hlt : ((k : Int) < (n : Int)) = True := eq_true (by omega)
      have lK := xK.len
      have ou := hA5.one
      obtain ⟨cw, K1, e1, x1, o1, oc⟩ := emp_clone (base := base) (iL.ext xK) (by omega)
      have l1 := x1.len
      obtain ⟨w', K2, e2, oW, lW, eW2, oneW, kW⟩ := OwnE.snocI (base := base) (x := (k : Int)) o1 (by omega) l1 (by omega)
      have x2 : Ext K K2 := eW2 _ (Nat.le_refl _) x1
      have iW : Ints K2 w' (l ++ [(k : Int)]) := own_ints oW ⟨by simp; omega, fun x hx => by
        rcases List.mem_append.1 hx with q | q
        · have := hin x q; omega
        · rw [List.mem_singleton] at q; omega⟩
      have htw := fun base => run_rtwice (base := base) iW
      have hup : (upto (k + 1)).flatMap (allF n d l) = (upto k).flatMap (allF n d l) ++ allF n d l (k : Int) := by rw [upto_succ, List.flatMap_append]; simp
      by_cases c : (k : Int) ∈ l
      · have ht : twB (l ++ [(k : Int)]) = true := by
          unfold twB
          refine decide_eq_true ?_
          intro q
          exact (nodup_snoc.1 q).2 c
        rw [ht] at htw
        have hsp := @Nat.succ_ne_zero; repeat' (first | simp (disch := first | exact dschL59 | fail) only [go_sem, ↓reduceIte, hsp, r6, r5, q0, q1, q4, hlt, bs_emp Fc.el25, e1, e2, htw] | refine WP_drw ?_ | refine cnd_intro (fun hsp => ?_) fun hsp => ?_)
        refine ⟨by (repeat first | exact Agree.refl | assumption | refine Agree.put rfl ?_ | refine Agree.put0 ?_ | refine Agree.sub rfl (by assumption) ?_), by omega, xK.trans x2, u, rfl, ?_, ?_⟩
        · rw [hup, allF_no c, List.append_nil]; exact hA5.ext x2
        · rw [hup, allF_no c, List.append_nil, Nat.succ_mul]; exact Nat.le_trans hAl (Nat.le_add_right _ _)
      · have ht : twB (l ++ [(k : Int)]) = false := by
          unfold twB
          refine decide_eq_false ?_
          intro q
          exact q (nodup_snoc.2 ⟨hnd, c⟩)
        rw [ht] at htw
        have hlk : (l ++ [(k : Int)]).length + d = n := by simp; omega
        obtain ⟨x, K3, e3, x3, hX⟩ := ih (l := l ++ [(k : Int)]) (lv := w') (h := K2) hlk (nodup_snoc.2 ⟨hnd, c⟩) (fun x hx => by
          rcases List.mem_append.1 hx with q | q
          · exact hin x q
          · rw [List.mem_singleton] at q; omega) (by have := x2.len; omega) (.inl (oW.low (by omega)))
        have ox := hX.one
        have hfew := ordsF_few (fit := fun _ _ => true) (n := n) (d := d) (l := l ++ [(k : Int)])
        have hp7 : n ^ d ≤ 823543 := Nat.le_trans (Nat.pow_le_pow_left hn _) (show 7 ^ d ≤ 7 ^ 7 from Nat.pow_le_pow_right (by decide) (by omega))
        have hne := ords_some hlk
        have hpos : 0 < (ordsF (fun _ _ => true) n d (l ++ [(k : Int)])).length := List.length_pos_iff.2 hne
        have l3 := x3.len
        have l2 := x2.len
        obtain ⟨u', K4, e4, hB, l4, eE4, ou'⟩ := (hA5.ext (x2.trans x3)).app2 (base := base) hX (by omega) (by omega) hpos (by omega)
        have hsp := @Nat.succ_ne_zero; repeat' (first | simp (disch := first | exact dschL59 | fail) only [go_sem, ↓reduceIte, hsp, r6, r5, q0, q1, q4, hlt, bs_emp Fc.el25, e1, e2, htw, e3, e4] | refine WP_drw ?_ | refine cnd_intro (fun hsp => ?_) fun hsp => ?_)
        refine ⟨by (repeat first | exact Agree.refl | assumption | refine Agree.put rfl ?_ | refine Agree.put0 ?_ | refine Agree.sub rfl (by assumption) ?_), by omega, eE4 h (Nat.le_refl _) (xK.trans (x2.trans x3)), u', rfl, ?_, ?_⟩
        · rw [hup, allF_in c]; exact hB
        · rw [hup, allF_in c, List.length_append, Nat.succ_mul]; omega
    · rintro fr K hA ⟨r6, xK, u, r5, hA5, hAl⟩
      have q0 := hA 0 rfl
      have q1 := hA 1 rfl
      have q4 := hA 4 rfl
      try simp (disch := first | exact dschL59 | fail) only [go_sem, ↓reduceIte] at q0 q1 q4
      have hlt : ((n : Int) < (n : Int)) = False := eq_false (by omega)
      have ou := hA5.one
      have hsp := @Nat.succ_ne_zero; repeat' (first | simp (disch := first | exact dschL59 | fail) only [go_sem, ↓reduceIte, hsp, r6, r5, q0, q1, q4, hlt] | refine WP_drw ?_ | refine cnd_intro (fun hsp => ?_) fun hsp => ?_)
      exact ⟨xK, hA5⟩
theorem all_ord {n : Nat} {o : List Int} (h : o ∈ ordsF (fun _ _ => true) n n []) : Ord n o := by
  obtain ⟨s, h1, h2, h3, h4, _⟩ := (ordsF_mem (by simp)).1 h
  simp at h1
  subst h1
  exact ⟨h2, h3, h4⟩
set_option maxRecDepth 100000 in
set_option maxHeartbeats 2000000 in
theorem run_All {base : Nat} {h : Heap} {v : AVal} {L : Lac} (hb : base ≤ h.length) (hL : LacAt h v L) (hok : LacOk L) :
    Ret prog raw base (.fn 36 [] []) [v] h (fun w H => Ext h H ∧ AllB h.length H w (fnd L)) := by
  have hL0 := hL
  obtain ⟨cv, rv, rfl, hC, hR⟩ := hL
  have o1 := hC.one
  have o2 := hR.one
  have hn := hok.n
  obtain ⟨G, eG⟩ : ∃ G, G = h ++ [rcB L.T cv rv] := ⟨_, rfl⟩
  have xG : Ext h G := by rw [eG]; exact .app .refl
  have lG : G.length = h.length + 1 := by rw [eG]; simp
  have g0 : G[h.length]? = some (rcB L.T cv rv) := by rw [eG]; exact get_eq rfl
  have hn1 := lenI (hC.ext xG)
  obtain ⟨w1, H1, e1, x1, hA1⟩ := run_Orders (base := base) (b := h.length) (n := L.C.length) hb hn.2 L.C.length (l := []) (lv := .slice none 0 0) (h := G) (by simp) (by simp) (by simp) (by omega) (.inl Own.nil)
  have hA1 := hA1.all (c := h.length) (by omega) (Nat.le_refl _)
  have ow1 := hA1.one
  have xh1 := xG.trans x1
  have g1 := x1.get g0
  obtain ⟨os, eos⟩ : ∃ os, os = ordsF (fun _ _ => true) L.C.length L.C.length [] := ⟨_, rfl⟩
  have hfew := ordsF_few (fit := fun _ _ => true) (n := L.C.length) (d := L.C.length) (l := [])
  have hp7 : L.C.length ^ L.C.length ≤ 823543 := Nat.le_trans (Nat.pow_le_pow_left hn.2 _) (show 7 ^ L.C.length ≤ 7 ^ 7 from Nat.pow_le_pow_right (by decide) hn.2)
  rw [← eos] at hA1 hfew
  have hfin : os.filter (fun o => xplD L o o.length) = fnd L := by
    rw [eos]
    refine all_fnd (p := fun o => xplD L o o.length) fun o ho => xplD_iff
  have hword : ∀ o ∈ os, Ord L.C.length o := fun o ho => all_ord (by rw [← eos]; exact ho)
  have hll : ∀ {H}, Ext H1 H → lenOpA prog H 54 w1 = some (.int .i64 (os.length : Int)) := fun {H} e => (hA1.ext e).all.len (by omega)
  unfold rcB at eG g0 g1
  refine ret_raw func36 rfl (by kernel_rfl) ?_
  have hsp := @Nat.succ_ne_zero; repeat' (first | simp (disch := first | exact dschL59 | fail) only [go_sem, ↓reduceIte, hsp, ← eG, g0, hn1, e1] | refine WP_drw ?_ | refine cnd_intro (fun hsp => ?_) fun hsp => ?_)
  refine WP_count [(4, 28)] 0 os.length (Nat.zero_le _) (fun _ i fr K => fr 5 = .int .i64 (i : Int) ∧ Ext H1 K ∧ ∃ u, fr 4 = u ∧ AllX H1.length h.length K u ((os.take i).filter fun o => xplD L o o.length)) ?_ ?_ ?_
  · exact ⟨by (simp (disch := first | exact dschL59 | fail) only [go_sem, ↓reduceIte, Int.natCast_zero]; first | done | rfl), .refl, _, by simp (disch := first | exact dschL59 | fail) only [go_sem, ↓reduceIte], AllX.nil⟩
  · rintro i fr K hi0 hi hA ⟨r5, xK, u, r4, hU⟩
    have q1 := hA 1 rfl
    have q2 := hA 2 rfl
    have q3 := hA 3 rfl
    try simp (disch := first | exact dschL59 | fail) only [go_sem, ↓reduceIte] at q1 q2 q3
    have hlt : ((i : Int) < (os.length : Int)) = True := eq_true (by omega)
    have lK := (xh1.trans xK).len
    have lK1 := xK.len
    have lh1 := xh1.len
    have ou := hU.one
    have hlK := hll xK
    have gK := xK.get g1
    obtain ⟨o, eo⟩ : ∃ o, o = os[i] := ⟨_, rfl⟩
    have hoi : os[i]? = some o := by rw [eo]; exact List.getElem?_eq_getElem hi
    have hoo := hword o (List.mem_of_getElem? hoi)
    obtain ⟨a, w, ad, ld, ow⟩ := (hA1.ext xK).at (A := K) (by omega) hoi
    have ld0 := ld K .refl
    have oww := ow.one
    have hex := fun base => run_rexplains (base := base) (hL0.ext (xh1.trans xK)) hok (ownE_ints ow (ord_small hoo (by omega))) hoo
    have htk : (os.take (i + 1)).filter (fun o => xplD L o o.length) = (os.take i).filter (fun o => xplD L o o.length) ++ (if xplD L o o.length = true then [o] else []) := by
      rw [List.take_add_one, hoi, List.filter_append]
      simp only [Option.toList, List.filter_cons, List.filter_nil]
    cases c : xplD L o o.length with
    | true =>
      rw [c] at hex
      rw [c, if_pos rfl] at htk
      have hfl : ((os.take i).filter fun o => xplD L o o.length).length ≤ 823543 := Nat.le_trans (List.length_filter_le _ _) (by rw [List.length_take]; omega)
      obtain ⟨z, A', b1, xA, w', h', ea, aW, lW, eW, oneW⟩ := hU.snoc (base := base) ow (by omega) (by omega) (by omega)
      have hsp := @Nat.succ_ne_zero; repeat' (first | simp (disch := first | exact dschL59 | fail) only [go_sem, ↓reduceIte, hsp, r5, r4, q1, q2, q3, hlt, hlK, gK, ad, ld0, hex, b1, ea] | refine WP_drw ?_ | refine cnd_intro (fun hsp => ?_) fun hsp => ?_)
      exact ⟨by (repeat first | exact Agree.refl | assumption | refine Agree.put rfl ?_ | refine Agree.put0 ?_ | refine Agree.sub rfl (by assumption) ?_), by omega, eW _ (Nat.le_refl _) xK, w', rfl, by rw [htk]; exact aW⟩
    | false =>
      rw [c] at hex
      rw [c, if_neg (by simp), List.append_nil] at htk
      have hsp := @Nat.succ_ne_zero; repeat' (first | simp (disch := first | exact dschL59 | fail) only [go_sem, ↓reduceIte, hsp, r5, r4, q1, q2, q3, hlt, hlK, gK, ad, ld0, hex] | refine WP_drw ?_ | refine cnd_intro (fun hsp => ?_) fun hsp => ?_)
      exact ⟨by (repeat first | exact Agree.refl | assumption | refine Agree.put rfl ?_ | refine Agree.put0 ?_ | refine Agree.sub rfl (by assumption) ?_), by omega, xK, u, rfl, by rw [htk]; exact hU⟩
  · rintro fr K hA ⟨r5, xK, u, r4, hU⟩
    have q1 := hA 1 rfl
    have q2 := hA 2 rfl
    have q3 := hA 3 rfl
    try simp (disch := first | exact dschL59 | fail) only [go_sem, ↓reduceIte] at q1 q2 q3
    have hlt : ((os.length : Int) < (os.length : Int)) = False := eq_false (by omega)
    have ou := hU.one
    have hlK := hll xK
    rw [List.take_length, hfin] at hU
    have hsp := @Nat.succ_ne_zero; repeat' (first | simp (disch := first | exact dschL59 | fail) only [go_sem, ↓reduceIte, hsp, r5, r4, q1, q2, q3, hlt, hlK] | refine WP_drw ?_ | refine cnd_intro (fun hsp => ?_) fun hsp => ?_)
    exact ⟨xh1.trans xK, hU.all xh1.len (Nat.le_refl _)⟩
end Go.AM
/-
  The reference: the cards that are sure (Known); a chain as the reference has it (theirs).
-/
namespace Go.AM
open Go.Proofs.Try
theorem dschL60 {p : Prop} (h : p := by first | exact Nat.ne_of_beq_eq_false rfl | assumption | (apply asOne; (first | exact One.int | exact One.bool | assumption | exact Ints.one (by assumption) | exact Rows.one (by assumption) | exact Own.one (by assumption) | exact One.lit ⟨rfl, rfl, rfl⟩)) | (apply asInts; (repeat first | assumption | exact ints_nil | apply Ints.app); done) | (apply asRows; (repeat first | assumption | exact Rows.nil | apply Rows.app); done) | (apply asScal; (first | apply allS1 | apply allS2 | apply allS3 | apply allS4) <;> (first | exact One.int | exact One.bool | assumption | exact Ints.one (by assumption) | exact Rows.one (by assumption) | exact Own.one (by assumption) | exact One.lit ⟨rfl, rfl, rfl⟩)) | exact litT rfl | exact litF rfl | omega | (simp only [List.length_append, List.length_cons, List.length_nil, List.length_set, List.length_reverse]; first | done | omega) | fail) : p := h
attribute [-go_sem] put_ne put_same
attribute [local go_sem ↓] put_if
def kvR (os : List (List Int)) (i q : Nat) : Int := if ((os.take i).all fun x => decide (x.getD q 0 = (os.headD []).getD q 0)) = true then (os.headD []).getD q 0 else -1
def knS (n : Nat) (os : List (List Int)) (i p : Nat) : List Int := lst (fun q => if q < p then kvR os (i + 1) q else kvR os i q) n
theorem bsRR1 {lit : Bool} {H : Heap} {r : Rw3} : bsA prog lit H 47 1 [(0, .agg [.int .i64 r.1, .int .i64 r.2.1, .int .i64 r.2.2])] = some (.slice (some ⟨H.length, 0, 0⟩) 1 1, H ++ [rowE encR 79 [r] 0]) := by
  simp [bsA, rowOf, Fc.el47, fillA, repCells, AVal.isN, AVal.cells, splice, rowE, flat, encR]
theorem snocRR {b base : Nat} {A : Heap} {w : AVal} {l : List Rw3} {r : Rw3} (hO : Own encR 79 b A w l) (hb : base ≤ b) (hbh : b ≤ A.length) (hl : l.length ≤ 1000000) :
    ∃ w' H, appendA prog base (A ++ [rowE encR 79 [r] 0]) 47 w (.slice (some ⟨A.length, 0, 0⟩) 1 1) = some (w', H) ∧ Own encR 79 b H w' (l ++ [r]) ∧ A.length ≤ H.length ∧ (∀ G, G.length ≤ b → Ext G A → Ext G H) ∧ One w' ∧ KeepO encR 79 A H := by
  obtain ⟨B, eB⟩ : ∃ B, B = A ++ [rowE encR 79 [r] 0] := ⟨_, rfl⟩
  have xB : Ext A B := by rw [eB]; exact .app .refl
  have lB' : B.length = A.length + 1 := by rw [eB]; simp
  have hx : Rows encR B (.slice (some ⟨A.length, 0, 0⟩) 1 1) [r] := Rows.own (by rw [eB]; exact get_eq rfl) rfl (by simp)
  rw [← eB]
  obtain ⟨w', H, a1, a2, a3, a4, a5, a6⟩ := (hO.ext xB).appendRX (P := prog) (base := base) (t := 47) hx Fc.el47 encR_sc hb (by omega) (by simp) (by simp; omega)
  have a6 : KeepO encR 79 B H := a6
  exact ⟨w', H, a1, a2, by omega, fun G h1 h2 => a4 G h1 (h2.trans xB), a5, fun i y hi hy => a6 i y (xB.get hi) hy⟩
set_option maxHeartbeats 2000000 in
theorem run_theirs {base : Nat} {h : Heap} {v : AVal} {L : Lac} (hb : base ≤ h.length) (hL : LacAt h v L) (hl : L.R.length ≤ 1000) :
    Ret prog raw base (.fn 31 [] []) [v] h (fun w H => Ext h H ∧ LacAt H w L ∧ ∃ cv rw', w = .agg [.int .i64 L.T, cv, rw'] ∧ Ints h cv L.C ∧ Own encR 79 h.length H rw' L.R) := by
  obtain ⟨cv, rv, rfl, hC, hR⟩ := hL
  have o1 := hC.one
  have o2 := hR.one
  obtain ⟨G, eG⟩ : ∃ G, G = h ++ [lacB L.T cv rv] ++ [rcB 0 (.slice none 0 0) (.slice none 0 0)] ++ [rcB L.T cv (.slice none 0 0)] := ⟨_, rfl⟩
  obtain ⟨G1, eG1⟩ : ∃ G1, G1 = h ++ [lacB L.T cv rv] ++ [rcB 0 (.slice none 0 0) (.slice none 0 0)] := ⟨_, rfl⟩
  have xG : Ext h G := by rw [eG]; exact .app (.app (.app .refl))
  have lG : G.length = h.length + 3 := by rw [eG]; simp
  have g0 : G[h.length]? = some (lacB L.T cv rv) := by rw [eG]; exact get_app (get_app (get_eq rfl))
  have g01 : G1[h.length]? = some (lacB L.T cv rv) := by rw [eG1]; exact get_app (get_eq rfl)
  have g1 : G[h.length + 1]? = some (rcB 0 (.slice none 0 0) (.slice none 0 0)) := by rw [eG]; exact get_app (get_eq (by simp))
  have g2 : G[h.length + 1 + 1]? = some (rcB L.T cv (.slice none 0 0)) := by rw [eG]; exact get_eq (by simp)
  have eGG : G1 ++ [rcB L.T cv (.slice none 0 0)] = G := by rw [eG, eG1]
  have l1 : G1.length = h.length + 1 + 1 := by rw [eG1]; simp
  have hn := (hR.ext xG).len (P := prog) Fc.el42
  unfold lacB rcB at eG1
  unfold rcB at eGG g1 g2
  unfold lacB at g0 g01
  refine ret_raw func31 rfl (by kernel_rfl) ?_
  have hsp := @Nat.succ_ne_zero; repeat' (first | simp (disch := first | exact dschL60 | fail) only [go_sem, ↓reduceIte, hsp, ← eG1, g01, l1, eGG, g0, hn] | refine WP_drw ?_ | refine cnd_intro (fun hsp => ?_) fun hsp => ?_)
  refine WP_count [(5, 5), (14, 24)] 0 L.R.length (Nat.zero_le _) (fun _ i fr K => fr 14 = .int .i64 (i : Int) ∧ Ext h K ∧ h.length + 3 ≤ K.length ∧ K[h.length + 1]? = some (rcB 0 (.slice none 0 0) (.slice none 0 0)) ∧ ∃ w, K[h.length + 1 + 1]? = some (rcB L.T cv w) ∧ Own encR 79 (h.length + 3) K w (L.R.take i)) ?_ ?_ ?_
  · exact ⟨by (simp (disch := first | exact dschL60 | fail) only [go_sem, ↓reduceIte, Int.natCast_zero]; first | done | rfl), xG, by omega, g1, .slice none 0 0, g2, Own.nil⟩
  · rintro i fr K hi0 hi hA ⟨r14, xK, lK, gK1, w, gK2, oW⟩
    have q2 := hA 2 rfl
    have q3 := hA 3 rfl
    have q12 := hA 12 rfl
    have q13 := hA 13 rfl
    try simp (disch := first | exact dschL60 | fail) only [go_sem, ↓reduceIte] at q2 q3 q12 q13
    have hlt : ((i : Int) < (L.R.length : Int)) = True := eq_true (by omega)
    have ow := oW.one
    obtain ⟨r, er⟩ : ∃ r, r = L.R[i] := ⟨_, rfl⟩
    have hx : L.R[i]? = some r := by rw [er]; exact List.getElem?_eq_getElem hi
    have iR := hR.ext xK
    have ad := iR.addr (P := prog) (i := (i : Int)) Fc.el42 Fc.ar42 (by omega) (by omega)
    rw [Int.toNat_natCast] at ad
    have ld : loadP prog K 70 (elAdr rv encR.z i 0) = some (.agg [.int .i64 r.1, .int .i64 r.2.1, .int .i64 r.2.2]) := iR.load (P := prog) Fc.ty70 hx
    obtain ⟨K1, eK1⟩ : ∃ K1, K1 = K ++ [rwB r] := ⟨_, rfl⟩
    have x1 : Ext K K1 := by rw [eK1]; exact .app .refl
    have gr : K1[K.length]? = some (rwB r) := by rw [eK1]; exact get_eq rfl
    have gK3 := x1.get gK2
    have gK4 := x1.get gK1
    have l2 := x1.len
    obtain ⟨w', K2, ea, oW', lW, eW, oneW, kW⟩ := snocRR (base := base) (r := r) (oW.ext x1) (by omega) (by omega) (by rw [List.length_take]; omega)
    have gK5 := kW.box gK3
    have gK6 := kW.box gK4
    have htk : L.R.take (i + 1) = L.R.take i ++ [r] := by rw [List.take_add_one, hx]; rfl
    unfold rcB at gK2 gK3 gK5
    unfold rwB at eK1 gr
    have hsp := @Nat.succ_ne_zero; repeat' (first | simp (disch := first | exact dschL60 | fail) only [go_sem, ↓reduceIte, hsp, r14, q2, q3, q12, q13, hlt, ad, ld, ← eK1, gr, gK3, bsRR1, ea, gK5] | refine WP_drw ?_ | refine cnd_intro (fun hsp => ?_) fun hsp => ?_)
    exact ⟨by (repeat first | exact Agree.refl | assumption | refine Agree.put rfl ?_ | refine Agree.put0 ?_ | refine Agree.sub rfl (by assumption) ?_), by omega, (eW h (by omega) (xK.trans x1)).set (by omega), by omega, gK6, w', rfl, by rw [htk]; exact oW'.setBox gK5⟩
  · rintro fr K hA ⟨r14, xK, lK, gK1, w, gK2, oW⟩
    have q2 := hA 2 rfl
    have q3 := hA 3 rfl
    have q12 := hA 12 rfl
    have q13 := hA 13 rfl
    try simp (disch := first | exact dschL60 | fail) only [go_sem, ↓reduceIte] at q2 q3 q12 q13
    have hlt : ((L.R.length : Int) < (L.R.length : Int)) = False := eq_false (by omega)
    rw [List.take_length] at oW
    have ow := oW.one
    unfold rcB at gK1 gK2
    have hsp := @Nat.succ_ne_zero; repeat' (first | simp (disch := first | exact dschL60 | fail) only [go_sem, ↓reduceIte, hsp, r14, q2, q3, q12, q13, hlt, gK2, gK1] | refine WP_drw ?_ | refine cnd_intro (fun hsp => ?_) fun hsp => ?_)
    have xf : Ext h (K.set (h.length + 1) ⟨.cells [.int .i64 L.T, cv, w] 49 false false, 0⟩) := xK.set (by omega)
    have oF := (oW.setBox (k := ⟨.cells [.int .i64 L.T, cv, w] 49 false false, 0⟩) gK1).low (b' := h.length) (by omega)
    exact ⟨xf, ⟨cv, w, rfl, hC.ext xf, oF.rows (by omega)⟩, cv, w, rfl, hC, oF⟩
end Go.AM
/-
  LaceFinds, walked.
-/
namespace Go.AM
open Go.Proofs.Try
theorem dschL61 {p : Prop} (h : p := by first | exact Nat.ne_of_beq_eq_false rfl | assumption | (apply asOne; (first | exact One.int | exact One.bool | assumption | exact Ints.one (by assumption) | exact Rows.one (by assumption) | exact Own.one (by assumption) | exact One.lit ⟨rfl, rfl, rfl⟩)) | (apply asInts; (repeat first | assumption | exact ints_nil | apply Ints.app); done) | (apply asRows; (repeat first | assumption | exact Rows.nil | apply Rows.app); done) | (apply asScal; (first | apply allS1 | apply allS2 | apply allS3 | apply allS4) <;> (first | exact One.int | exact One.bool | assumption | exact Ints.one (by assumption) | exact Rows.one (by assumption) | exact Own.one (by assumption) | exact One.lit ⟨rfl, rfl, rfl⟩)) | exact litT rfl | exact litF rfl | omega | (simp only [List.length_append, List.length_cons, List.length_nil, List.length_set, List.length_reverse]; first | done | omega) | fail) : p := h
attribute [-go_sem] put_ne put_same
attribute [local go_sem ↓] put_if
theorem run_great {base : Nat} {h : Heap} {v : AVal} {L : Lac} (hL : LacAt h v L) : callL prog raw base (.fn 29 [] []) [v] h = some (.bool (decide (12 < L.C.length ∨ 16 < L.R.length)), h) := by
  obtain ⟨cv, rv, rfl, hC, hR⟩ := hL
  have o1 := hC.one
  have o2 := hR.one
  obtain ⟨G, eG⟩ : ∃ G, G = h ++ [lacB L.T cv rv] := ⟨_, rfl⟩
  have xG : Ext h G := by rw [eG]; exact .app .refl
  have g0 : G[h.length]? = some (lacB L.T cv rv) := by rw [eG]; exact get_eq rfl
  have hn1 := lenI (hC.ext xG)
  have hn2 := (hR.ext xG).len (P := prog) Fc.el42
  unfold lacB at eG g0
  refine callL_run func29 rfl rfl ?_
  by_cases c : 12 < L.C.length
  · have t1 : ((L.C.length : Int) > 12) = True := eq_true (by omega)
    have hsp := @Nat.succ_ne_zero; repeat' (first | simp (disch := first | exact dschL61 | fail) only [go_sem, ↓reduceIte, hsp, ← eG, g0, hn1, t1] | refine WP_drw ?_ | refine cnd_intro (fun hsp => ?_) fun hsp => ?_)
    exact fB (by rw [decide_eq_true (.inl c)]) xG
  · have t1 : ((L.C.length : Int) > 12) = False := eq_false (by omega)
    by_cases d : 16 < L.R.length
    · have t2 : ((L.R.length : Int) > 16) = True := eq_true (by omega)
      have hsp := @Nat.succ_ne_zero; repeat' (first | simp (disch := first | exact dschL61 | fail) only [go_sem, ↓reduceIte, hsp, ← eG, g0, hn1, hn2, t1, t2] | refine WP_drw ?_ | refine cnd_intro (fun hsp => ?_) fun hsp => ?_)
      exact fB (by rw [decide_eq_true (.inr d)]) xG
    · have t2 : ((L.R.length : Int) > 16) = False := eq_false (by omega)
      have hsp := @Nat.succ_ne_zero; repeat' (first | simp (disch := first | exact dschL61 | fail) only [go_sem, ↓reduceIte, hsp, ← eG, g0, hn1, hn2, t1, t2] | refine WP_drw ?_ | refine cnd_intro (fun hsp => ?_) fun hsp => ?_)
      exact fB (by rw [decide_eq_false (by omega)]) xG
theorem chkL_ne {L : Lac} : chkL L ≠ 7 ∧ chkL L ≠ 6 := by
  unfold chkL
  repeat' split
  all_goals omega
theorem found_bad {L : Lac} (h : chkL L ≠ 0) : frsE L = ([], chkL L) ∧ cntE L = (0, chkL L) ∧ kwnE L = ([], chkL L) ∧ rngE L = chkL L ∧ gapE L = chkL L ∧ askE L = (0, 0, chkL L) ∧ dcdE L = ([], chkL L) := by
  have e : fndE L = ([], chkL L) := by unfold fndE; rw [if_pos h]
  refine ⟨by unfold frsE; rw [e, if_neg h], ?_, by unfold kwnE; rw [e, if_neg h], by unfold rngE; rw [e, if_neg h], by unfold gapE; rw [if_neg h], by unfold askE; rw [e, if_neg h], by unfold dcdE; rw [e, if_neg h]⟩
  unfold cntE
  rw [e, if_neg chkL_ne.1]
  rfl
end Go.AM
/-
  The reference: gaps.
-/
namespace Go.AM
open Go.Proofs.Try
attribute [-go_sem] put_ne put_same
attribute [local go_sem ↓] put_if
end Go.AM
/-
  The reference: an order along a ring (Turned).
-/
namespace Go.AM
open Go.Proofs.Try
attribute [-go_sem] put_ne put_same
attribute [local go_sem ↓] put_if
end Go.AM
/-
  LaceRings, walked.
-/
namespace Go.AM
open Go.Proofs.Try
attribute [-go_sem] put_ne put_same
attribute [local go_sem ↓] put_if
end Go.AM
