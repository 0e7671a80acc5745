/-
  The reference: all orders, those that explain the rows.
-/
import Derived.Test.YteanoaejoddnbaaU18
import Derived.Test.YteanoaejoddnbaaB9
set_option linter.unusedSimpArgs false
set_option linter.unusedVariables false
namespace Go.AM
open Go.Proofs.Try
theorem dschL59 {p : Prop} (h : p := by first | exact Nat.ne_of_beq_eq_false rfl | assumption | (apply asOne; (first | exact One.int | exact One.bool | assumption | exact Ints.one (by assumption) | exact Rows.one (by assumption) | exact Own.one (by assumption) | exact One.lit ⟨rfl, rfl, rfl⟩)) | (apply asInts; (repeat first | assumption | exact ints_nil | apply Ints.app); done) | (apply asRows; (repeat first | assumption | exact Rows.nil | apply Rows.app); done) | (apply asScal; (first | apply allS1 | apply allS2 | apply allS3 | apply allS4) <;> (first | exact One.int | exact One.bool | assumption | exact Ints.one (by assumption) | exact Rows.one (by assumption) | exact Own.one (by assumption) | exact One.lit ⟨rfl, rfl, rfl⟩)) | exact litT rfl | exact litF rfl | omega | (simp only [List.length_append, List.length_cons, List.length_nil, List.length_set, List.length_reverse]; first | done | omega) | fail) : p := h
attribute [-go_sem] put_ne put_same
attribute [local go_sem ↓] put_if
section
variable {b : Nat} {H H' : Heap} {v : AVal} {ts : List (List Int)}
/-- Lists in a list that lies behind b, they behind e. -/
def AllX (b e : Nat) (H : Heap) (v : AVal) (ts : List (List Int)) : Prop := ∃ vs : List AVal, Own encZ 25 b H v vs ∧ vs.length = ts.length ∧ ∀ (i : Nat) x t, vs[i]? = some x → ts[i]? = some t → OwnE encI 3 e H x t
theorem AllX.nil {e : Nat} : AllX b e H (.slice none 0 0) [] := ⟨[], Own.nil, rfl, fun i x t q => by simp at q⟩
theorem AllX.one {e : Nat} (x : AllX b e H v ts) : One v := by obtain ⟨vs, h1, _⟩ := x; exact h1.one
theorem AllX.ext {e : Nat} (x : AllX b e H v ts) (q : Ext H H') : AllX b e H' v ts := by
  obtain ⟨vs, h1, h2, h3⟩ := x
  exact ⟨vs, h1.ext q, h2, fun i x t a c => (h3 i x t a c).ext q⟩
theorem AllX.all {e c : Nat} (x : AllX b e H v ts) (h1 : c ≤ b) (h2 : c ≤ e) : AllB c H v ts := by
  obtain ⟨vs, k1, k2, k3⟩ := x
  exact ⟨vs, k1.low h1, k2, fun i x t a d => (k3 i x t a d).low h2⟩
theorem AllX.app2 {A : Heap} {w x : AVal} {ms : List (List Int)} {base e b2 : Nat} (y : AllX b e A w ts) (z : AllX b2 e A x ms) (hb : base ≤ b) (hbh : b ≤ A.length) (h0 : 0 < ms.length) (hl : ts.length + ms.length ≤ 100000000) :
    ∃ w' h', appendA prog base A 54 w x = some (w', h') ∧ AllX b e h' w' (ts ++ ms) ∧ A.length ≤ h'.length ∧ (∀ G, G.length ≤ b → Ext G A → Ext G h') ∧ One w' := by
  obtain ⟨vs, h1, h2, h3⟩ := y
  obtain ⟨us, k1, k2, k3⟩ := z
  obtain ⟨w', h', a1, a2, a3, a4, a5, a6⟩ := h1.appendRX (P := prog) (base := base) (t := 54) (k1.rows (by omega)) Fc.el54 encZ_sc hb hbh (by omega) (by omega)
  have a6 : KeepO encZ 25 A h' := a6
  refine ⟨w', h', a1, ⟨_, a2, by simp [h2, k2], fun i p q g1 g2 => ?_⟩, a3, a4, a5⟩
  by_cases hi : i < vs.length
  · rw [List.getElem?_append_left hi] at g1
    rw [List.getElem?_append_left (by omega)] at g2
    exact a6.ownE (h3 i p q g1 g2) (by decide)
  · rw [List.getElem?_append_right (by omega)] at g1
    rw [List.getElem?_append_right (by omega), ← h2] at g2
    exact a6.ownE (k3 _ p q g1 g2) (by decide)
theorem AllX.snoc {A : Heap} {w x : AVal} {t : List Int} {base e : Nat} (y : AllX b e A w ts) (hx : OwnE encI 3 e A x t) (hb : base ≤ b) (hbh : b ≤ A.length) (hl : ts.length ≤ 10000000) :
    ∃ z A', (∀ {lit : Bool}, lit = true → bsA prog lit A 54 1 [(0, x)] = some (z, A')) ∧ Ext A A' ∧ ∃ w' h', appendA prog base A' 54 w z = some (w', h') ∧ AllX b e h' w' (ts ++ [t]) ∧ A.length ≤ h'.length ∧ (∀ G, G.length ≤ b → Ext G A → Ext G h') ∧ One w' := by
  obtain ⟨vs, h1, h2, h3⟩ := y
  obtain ⟨z, A', a1, a2, w', h', a3, a4, a5, a6, a7, a8⟩ := snocZI (base := base) h1 hx.one hb hbh (by omega)
  refine ⟨z, A', a1, a2, w', h', a3, ⟨_, a4, by simp [h2], fun i p q g1 g2 => ?_⟩, a5, a6, a7⟩
  by_cases hi : i < vs.length
  · rw [List.getElem?_append_left hi] at g1
    rw [List.getElem?_append_left (by omega)] at g2
    exact a8.ownE (h3 i p q g1 g2) (by decide)
  · rw [List.getElem?_append_right (by omega)] at g1
    rw [List.getElem?_append_right (by omega)] at g2
    have e0 : i - vs.length = 0 := by
      have := (List.getElem?_eq_some_iff.1 g1).1
      simp at this; omega
    rw [e0] at g1
    rw [show i - ts.length = 0 by omega] at g2
    cases g1; cases g2
    exact a8.ownE hx (by decide)
theorem AllB.at {A : Heap} (x : AllB b H v ts) (hl : ts.length < 2 ^ 60) {i : Nat} {t : List Int} (ht : ts[i]? = some t) :
    ∃ a w, indexAddrA prog 54 v (.int .i64 (i : Int)) = some a ∧ (∀ K, Ext H K → loadP prog K 25 a = some w) ∧ OwnE encI 3 b H w t := by
  obtain ⟨vs, h1, h2, h3⟩ := x
  have hi : i < vs.length := by rw [h2]; exact (List.getElem?_eq_some_iff.1 ht).1
  have hv : vs[i]? = some vs[i] := List.getElem?_eq_getElem hi
  have ho := h3 i _ t hv ht
  have hR := h1.rows (show vs.length < 2 ^ 60 by omega)
  have ad := hR.addr (P := prog) (i := (i : Int)) Fc.el54 Fc.ar54 (by omega) (by omega)
  rw [Int.toNat_natCast] at ad
  exact ⟨_, _, ad, fun K e => (hR.ext e).cell (P := prog) Fc.ty25 hv (o := 0) (a := vs[i]) (by simp only [encZ, norm_one ho.one]; rfl), ho⟩
end
theorem emp_clone {base : Nat} {A : Heap} {x : AVal} {l : List Int} (hI : Ints A x l) (hl : l.length ≤ 1000) : ∃ w H, appendA prog base A 25 .emp x = some (w, H) ∧ Ext A H ∧ OwnE encI 3 A.length H w l ∧ One w := by
  by_cases h0 : l = []
  · subst h0
    exact ⟨.emp, A, app_none hI.rows Fc.el25, .refl, .inr ⟨rfl, rfl⟩, ⟨rfl, rfl, rfl⟩⟩
  · have := app_empE (base := base) hI.rows h0 encI_sc (by omega) Fc.el25
    exact ⟨_, _, this, .app .refl, .inl (.inr ⟨A.length, 0, rfl, get_eq rfl, Nat.le_refl _, List.length_pos_iff.2 h0⟩), ⟨rfl, rfl, rfl⟩⟩
theorem left_one {n : Nat} {l : List Int} (h : l.length < n) : ∃ k : Nat, k < n ∧ (k : Int) ∉ l := by
  refine Classical.byContradiction fun q => ?_
  have := pigeon (R := fun (a b : Int) => a = b) (l := upto n) (t := l) ((upto_sorted n).imp fun h => by omega) (fun a ha => ?_) fun a _ c _ b _ h1 h2 => h1.trans h2.symm
  · rw [upto_len] at this; omega
  · have ha := upto_mem.1 ha
    refine ⟨a, Classical.byContradiction fun hn => q ⟨a.toNat, by omega, ?_⟩, rfl⟩
    rw [Int.toNat_of_nonneg ha.1]; exact hn
def allF (n d : Nat) (l : List Int) (k : Int) : List (List Int) := if ((fun (_ _ : Nat) => true) l.length k.toNat && decide (k ∉ l)) = true then ordsF (fun _ _ => true) n d (l ++ [k]) else []
theorem ordsF_all {n d : Nat} {l : List Int} : ordsF (fun _ _ => true) n (d + 1) l = (upto n).flatMap (allF n d l) := rfl
theorem allF_in {n d : Nat} {l : List Int} {k : Int} (h : k ∉ l) : allF n d l k = ordsF (fun _ _ => true) n d (l ++ [k]) := by unfold allF; simp [h]
theorem allF_no {n d : Nat} {l : List Int} {k : Int} (h : k ∈ l) : allF n d l k = [] := by unfold allF; simp [h]
theorem ords_some {n : Nat} : ∀ {d : Nat} {l : List Int}, l.length + d = n → ordsF (fun _ _ => true) n d l ≠ []
  | 0, l, _ => by simp [ordsF]
  | d + 1, l, h => by
    obtain ⟨k, hk, hn⟩ := left_one (n := n) (l := l) (by omega)
    have := ords_some (n := n) (d := d) (l := l ++ [(k : Int)]) (by simp; omega)
    rw [ordsF_all]
    intro q
    rw [List.flatMap_eq_nil_iff] at q
    have h2 := q (k : Int) (upto_mem.2 (by omega))
    rw [allF_in hn] at h2
    exact this h2
set_option maxRecDepth 100000 in
set_option maxHeartbeats 2000000 in
theorem run_Orders {base b n : Nat} (hb : base ≤ b) (hn : n ≤ 7) : ∀ (d : Nat) {l : List Int} {lv : AVal} {h : Heap}, l.length + d = n → l.Nodup → (∀ x ∈ l, 0 ≤ x ∧ x < (n : Int)) → b ≤ h.length → OwnE encI 3 b h lv l →
    Ret prog raw base (.fn 102 [] []) [lv, .int .i64 (n : Int)] h (fun w H => Ext h H ∧ AllX h.length b H w (ordsF (fun _ _ => true) n d l)) := by
  intro d
  induction d with
  | zero =>
    intro l lv h hl hnd hin hbh hO
    have ov := hO.one
    have iL := ownE_ints hO ⟨by omega, fun x hx => by have := hin x hx; omega⟩
    have hlo := lenI iL
    have t1 : ((l.length : Int) = (n : Int)) = True := eq_true (by omega)
    have bs : bsA prog false h 54 1 [(0, lv)] = some (.slice (some ⟨h.length, 0, 0⟩) 1 1, h ++ [rowE encZ 25 [lv] 0]) := bsZI ov rfl
    refine ret_raw func102 rfl (by kernel_rfl) ?_
    have hsp := @Nat.succ_ne_zero; repeat' (first | simp (disch := first | exact dschL59 | fail) only [go_sem, ↓reduceIte, hsp, hlo, t1, bsZI] | refine WP_drw ?_ | refine cnd_intro (fun hsp => ?_) fun hsp => ?_)
    refine ⟨.app .refl, [lv], .inr ⟨h.length, 0, rfl, get_eq rfl, Nat.le_refl _, by simp⟩, rfl, fun i x t q1 q2 => ?_⟩
    have hi : i = 0 := by
      have := (List.getElem?_eq_some_iff.1 q1).1
      simp at this; omega
    subst hi
    simp [ordsF] at q1 q2
    subst q1 q2
    exact hO.ext (.app .refl)
  | succ d ih =>
    intro l lv h hl hnd hin hbh hO
    have ov := hO.one
    have iL := ownE_ints hO ⟨by omega, fun x hx => by have := hin x hx; omega⟩
    have hlo := lenI iL
    have t1 : ((l.length : Int) = (n : Int)) = False := eq_false (by omega)
    refine ret_raw func102 rfl (by kernel_rfl) ?_
    have hsp := @Nat.succ_ne_zero; repeat' (first | simp (disch := first | exact dschL59 | fail) only [go_sem, ↓reduceIte, hsp, hlo, t1] | refine WP_drw ?_ | refine cnd_intro (fun hsp => ?_) fun hsp => ?_)
    refine WP_count [(5, 32)] 0 n (Nat.zero_le _) (fun _ k fr K => fr 6 = .int .i64 (k : Int) ∧ Ext h K ∧ ∃ u, fr 5 = u ∧ AllX h.length b K u ((upto k).flatMap (allF n d l)) ∧ ((upto k).flatMap (allF n d l)).length ≤ k * 823543) ?_ ?_ ?_
    · exact ⟨by (simp (disch := first | exact dschL59 | fail) only [go_sem, ↓reduceIte, Int.natCast_zero]; first | done | rfl), .refl, _, by simp (disch := first | exact dschL59 | fail) only [go_sem, ↓reduceIte], AllX.nil, by simp [upto, lst]⟩
    · rintro k fr K hk0 hk hA ⟨r6, xK, u, r5, hA5, hAl⟩
      have q0 := hA 0 rfl
      have q1 := hA 1 rfl
      have q4 := hA 4 rfl
      try simp (disch := first | exact dschL59 | fail) only [go_sem, ↓reduceIte] at q0 q1 q4
      have hlt : ((k : Int) < (n : Int)) = True := eq_true (by omega)
      have lK := xK.len
      have ou := hA5.one
      obtain ⟨cw, K1, e1, x1, o1, oc⟩ := emp_clone (base := base) (iL.ext xK) (by omega)
      have l1 := x1.len
      obtain ⟨w', K2, e2, oW, lW, eW2, oneW, kW⟩ := OwnE.snocI (base := base) (x := (k : Int)) o1 (by omega) l1 (by omega)
      have x2 : Ext K K2 := eW2 _ (Nat.le_refl _) x1
      have iW : Ints K2 w' (l ++ [(k : Int)]) := own_ints oW ⟨by simp; omega, fun x hx => by
        rcases List.mem_append.1 hx with q | q
        · have := hin x q; omega
        · rw [List.mem_singleton] at q; omega⟩
      have htw := fun base => run_rtwice (base := base) iW
      have hup : (upto (k + 1)).flatMap (allF n d l) = (upto k).flatMap (allF n d l) ++ allF n d l (k : Int) := by rw [upto_succ, List.flatMap_append]; simp
      by_cases c : (k : Int) ∈ l
      · have ht : twB (l ++ [(k : Int)]) = true := by
          unfold twB
          refine decide_eq_true ?_
          intro q
          exact (nodup_snoc.1 q).2 c
        rw [ht] at htw
        have hsp := @Nat.succ_ne_zero; repeat' (first | simp (disch := first | exact dschL59 | fail) only [go_sem, ↓reduceIte, hsp, r6, r5, q0, q1, q4, hlt, bs_emp Fc.el25, e1, e2, htw] | refine WP_drw ?_ | refine cnd_intro (fun hsp => ?_) fun hsp => ?_)
        refine ⟨by (repeat first | exact Agree.refl | assumption | refine Agree.put rfl ?_ | refine Agree.put0 ?_ | refine Agree.sub rfl (by assumption) ?_), by omega, xK.trans x2, u, rfl, ?_, ?_⟩
        · rw [hup, allF_no c, List.append_nil]; exact hA5.ext x2
        · rw [hup, allF_no c, List.append_nil, Nat.succ_mul]; exact Nat.le_trans hAl (Nat.le_add_right _ _)
      · have ht : twB (l ++ [(k : Int)]) = false := by
          unfold twB
          refine decide_eq_false ?_
          intro q
          exact q (nodup_snoc.2 ⟨hnd, c⟩)
        rw [ht] at htw
        have hlk : (l ++ [(k : Int)]).length + d = n := by simp; omega
        obtain ⟨x, K3, e3, x3, hX⟩ := ih (l := l ++ [(k : Int)]) (lv := w') (h := K2) hlk (nodup_snoc.2 ⟨hnd, c⟩) (fun x hx => by
          rcases List.mem_append.1 hx with q | q
          · exact hin x q
          · rw [List.mem_singleton] at q; omega) (by have := x2.len; omega) (.inl (oW.low (by omega)))
        have ox := hX.one
        have hfew := ordsF_few (fit := fun _ _ => true) (n := n) (d := d) (l := l ++ [(k : Int)])
        have hp7 : n ^ d ≤ 823543 := Nat.le_trans (Nat.pow_le_pow_left hn _) (show 7 ^ d ≤ 7 ^ 7 from Nat.pow_le_pow_right (by decide) (by omega))
        have hne := ords_some hlk
        have hpos : 0 < (ordsF (fun _ _ => true) n d (l ++ [(k : Int)])).length := List.length_pos_iff.2 hne
        have l3 := x3.len
        have l2 := x2.len
        obtain ⟨u', K4, e4, hB, l4, eE4, ou'⟩ := (hA5.ext (x2.trans x3)).app2 (base := base) hX (by omega) (by omega) hpos (by omega)
        have hsp := @Nat.succ_ne_zero; repeat' (first | simp (disch := first | exact dschL59 | fail) only [go_sem, ↓reduceIte, hsp, r6, r5, q0, q1, q4, hlt, bs_emp Fc.el25, e1, e2, htw, e3, e4] | refine WP_drw ?_ | refine cnd_intro (fun hsp => ?_) fun hsp => ?_)
        refine ⟨by (repeat first | exact Agree.refl | assumption | refine Agree.put rfl ?_ | refine Agree.put0 ?_ | refine Agree.sub rfl (by assumption) ?_), by omega, eE4 h (Nat.le_refl _) (xK.trans (x2.trans x3)), u', rfl, ?_, ?_⟩
        · rw [hup, allF_in c]; exact hB
        · rw [hup, allF_in c, List.length_append, Nat.succ_mul]; omega
    · rintro fr K hA ⟨r6, xK, u, r5, hA5, hAl⟩
      have q0 := hA 0 rfl
      have q1 := hA 1 rfl
      have q4 := hA 4 rfl
      try simp (disch := first | exact dschL59 | fail) only [go_sem, ↓reduceIte] at q0 q1 q4
      have hlt : ((n : Int) < (n : Int)) = False := eq_false (by omega)
      have ou := hA5.one
      have hsp := @Nat.succ_ne_zero; repeat' (first | simp (disch := first | exact dschL59 | fail) only [go_sem, ↓reduceIte, hsp, r6, r5, q0, q1, q4, hlt] | refine WP_drw ?_ | refine cnd_intro (fun hsp => ?_) fun hsp => ?_)
      exact ⟨xK, hA5⟩
theorem all_ord {n : Nat} {o : List Int} (h : o ∈ ordsF (fun _ _ => true) n n []) : Ord n o := by
  obtain ⟨s, h1, h2, h3, h4, _⟩ := (ordsF_mem (by simp)).1 h
  simp at h1
  subst h1
  exact ⟨h2, h3, h4⟩
set_option maxRecDepth 100000 in
set_option maxHeartbeats 2000000 in
theorem run_All {base : Nat} {h : Heap} {v : AVal} {L : Lac} (hb : base ≤ h.length) (hL : LacAt h v L) (hok : LacOk L) :
    Ret prog raw base (.fn 36 [] []) [v] h (fun w H => Ext h H ∧ AllB h.length H w (fnd L)) := by
  have hL0 := hL
  obtain ⟨cv, rv, rfl, hC, hR⟩ := hL
  have o1 := hC.one
  have o2 := hR.one
  have hn := hok.n
  obtain ⟨G, eG⟩ : ∃ G, G = h ++ [rcB L.T cv rv] := ⟨_, rfl⟩
  have xG : Ext h G := by rw [eG]; exact .app .refl
  have lG : G.length = h.length + 1 := by rw [eG]; simp
  have g0 : G[h.length]? = some (rcB L.T cv rv) := by rw [eG]; exact get_eq rfl
  have hn1 := lenI (hC.ext xG)
  obtain ⟨w1, H1, e1, x1, hA1⟩ := run_Orders (base := base) (b := h.length) (n := L.C.length) hb hn.2 L.C.length (l := []) (lv := .slice none 0 0) (h := G) (by simp) (by simp) (by simp) (by omega) (.inl Own.nil)
  have hA1 := hA1.all (c := h.length) (by omega) (Nat.le_refl _)
  have ow1 := hA1.one
  have xh1 := xG.trans x1
  have g1 := x1.get g0
  obtain ⟨os, eos⟩ : ∃ os, os = ordsF (fun _ _ => true) L.C.length L.C.length [] := ⟨_, rfl⟩
  have hfew := ordsF_few (fit := fun _ _ => true) (n := L.C.length) (d := L.C.length) (l := [])
  have hp7 : L.C.length ^ L.C.length ≤ 823543 := Nat.le_trans (Nat.pow_le_pow_left hn.2 _) (show 7 ^ L.C.length ≤ 7 ^ 7 from Nat.pow_le_pow_right (by decide) hn.2)
  rw [← eos] at hA1 hfew
  have hfin : os.filter (fun o => xplD L o o.length) = fnd L := by
    rw [eos]
    refine all_fnd (p := fun o => xplD L o o.length) fun o ho => xplD_iff
  have hword : ∀ o ∈ os, Ord L.C.length o := fun o ho => all_ord (by rw [← eos]; exact ho)
  have hll : ∀ {H}, Ext H1 H → lenOpA prog H 54 w1 = some (.int .i64 (os.length : Int)) := fun {H} e => (hA1.ext e).all.len (by omega)
  unfold rcB at eG g0 g1
  refine ret_raw func36 rfl (by kernel_rfl) ?_
  have hsp := @Nat.succ_ne_zero; repeat' (first | simp (disch := first | exact dschL59 | fail) only [go_sem, ↓reduceIte, hsp, ← eG, g0, hn1, e1] | refine WP_drw ?_ | refine cnd_intro (fun hsp => ?_) fun hsp => ?_)
  refine WP_count [(4, 28)] 0 os.length (Nat.zero_le _) (fun _ i fr K => fr 5 = .int .i64 (i : Int) ∧ Ext H1 K ∧ ∃ u, fr 4 = u ∧ AllX H1.length h.length K u ((os.take i).filter fun o => xplD L o o.length)) ?_ ?_ ?_
  · exact ⟨by (simp (disch := first | exact dschL59 | fail) only [go_sem, ↓reduceIte, Int.natCast_zero]; first | done | rfl), .refl, _, by simp (disch := first | exact dschL59 | fail) only [go_sem, ↓reduceIte], AllX.nil⟩
  · rintro i fr K hi0 hi hA ⟨r5, xK, u, r4, hU⟩
    have q1 := hA 1 rfl
    have q2 := hA 2 rfl
    have q3 := hA 3 rfl
    try simp (disch := first | exact dschL59 | fail) only [go_sem, ↓reduceIte] at q1 q2 q3
    have hlt : ((i : Int) < (os.length : Int)) = True := eq_true (by omega)
    have lK := (xh1.trans xK).len
    have lK1 := xK.len
    have lh1 := xh1.len
    have ou := hU.one
    have hlK := hll xK
    have gK := xK.get g1
    obtain ⟨o, eo⟩ : ∃ o, o = os[i] := ⟨_, rfl⟩
    have hoi : os[i]? = some o := by rw [eo]; exact List.getElem?_eq_getElem hi
    have hoo := hword o (List.mem_of_getElem? hoi)
    obtain ⟨a, w, ad, ld, ow⟩ := (hA1.ext xK).at (A := K) (by omega) hoi
    have ld0 := ld K .refl
    have oww := ow.one
    have hex := fun base => run_rexplains (base := base) (hL0.ext (xh1.trans xK)) hok (ownE_ints ow (ord_small hoo (by omega))) hoo
    have htk : (os.take (i + 1)).filter (fun o => xplD L o o.length) = (os.take i).filter (fun o => xplD L o o.length) ++ (if xplD L o o.length = true then [o] else []) := by
      rw [List.take_add_one, hoi, List.filter_append]
      simp only [Option.toList, List.filter_cons, List.filter_nil]
    cases c : xplD L o o.length with
    | true =>
      rw [c] at hex
      rw [c, if_pos rfl] at htk
      have hfl : ((os.take i).filter fun o => xplD L o o.length).length ≤ 823543 := Nat.le_trans (List.length_filter_le _ _) (by rw [List.length_take]; omega)
      obtain ⟨z, A', b1, xA, w', h', ea, aW, lW, eW, oneW⟩ := hU.snoc (base := base) ow (by omega) (by omega) (by omega)
      have hsp := @Nat.succ_ne_zero; repeat' (first | simp (disch := first | exact dschL59 | fail) only [go_sem, ↓reduceIte, hsp, r5, r4, q1, q2, q3, hlt, hlK, gK, ad, ld0, hex, b1, ea] | refine WP_drw ?_ | refine cnd_intro (fun hsp => ?_) fun hsp => ?_)
      exact ⟨by (repeat first | exact Agree.refl | assumption | refine Agree.put rfl ?_ | refine Agree.put0 ?_ | refine Agree.sub rfl (by assumption) ?_), by omega, eW _ (Nat.le_refl _) xK, w', rfl, by rw [htk]; exact aW⟩
    | false =>
      rw [c] at hex
      rw [c, if_neg (by simp), List.append_nil] at htk
      have hsp := @Nat.succ_ne_zero; repeat' (first | simp (disch := first | exact dschL59 | fail) only [go_sem, ↓reduceIte, hsp, r5, r4, q1, q2, q3, hlt, hlK, gK, ad, ld0, hex] | refine WP_drw ?_ | refine cnd_intro (fun hsp => ?_) fun hsp => ?_)
      exact ⟨by (repeat first | exact Agree.refl | assumption | refine Agree.put rfl ?_ | refine Agree.put0 ?_ | refine Agree.sub rfl (by assumption) ?_), by omega, xK, u, rfl, by rw [htk]; exact hU⟩
  · rintro fr K hA ⟨r5, xK, u, r4, hU⟩
    have q1 := hA 1 rfl
    have q2 := hA 2 rfl
    have q3 := hA 3 rfl
    try simp (disch := first | exact dschL59 | fail) only [go_sem, ↓reduceIte] at q1 q2 q3
    have hlt : ((os.length : Int) < (os.length : Int)) = False := eq_false (by omega)
    have ou := hU.one
    have hlK := hll xK
    rw [List.take_length, hfin] at hU
    have hsp := @Nat.succ_ne_zero; repeat' (first | simp (disch := first | exact dschL59 | fail) only [go_sem, ↓reduceIte, hsp, r5, r4, q1, q2, q3, hlt, hlK] | refine WP_drw ?_ | refine cnd_intro (fun hsp => ?_) fun hsp => ?_)
    exact ⟨xh1.trans xK, hU.all xh1.len (Nat.le_refl _)⟩
end Go.AM
/-
  The reference: the cards that are sure (Known); a chain as the reference has it (theirs).
-/
namespace Go.AM
open Go.Proofs.Try
theorem dschL60 {p : Prop} (h : p := by first | exact Nat.ne_of_beq_eq_false rfl | assumption | (apply asOne; (first | exact One.int | exact One.bool | assumption | exact Ints.one (by assumption) | exact Rows.one (by assumption) | exact Own.one (by assumption) | exact One.lit ⟨rfl, rfl, rfl⟩)) | (apply asInts; (repeat first | assumption | exact ints_nil | apply Ints.app); done) | (apply asRows; (repeat first | assumption | exact Rows.nil | apply Rows.app); done) | (apply asScal; (first | apply allS1 | apply allS2 | apply allS3 | apply allS4) <;> (first | exact One.int | exact One.bool | assumption | exact Ints.one (by assumption) | exact Rows.one (by assumption) | exact Own.one (by assumption) | exact One.lit ⟨rfl, rfl, rfl⟩)) | exact litT rfl | exact litF rfl | omega | (simp only [List.length_append, List.length_cons, List.length_nil, List.length_set, List.length_reverse]; first | done | omega) | fail) : p := h
attribute [-go_sem] put_ne put_same
attribute [local go_sem ↓] put_if
def kvR (os : List (List Int)) (i q : Nat) : Int := if ((os.take i).all fun x => decide (x.getD q 0 = (os.headD []).getD q 0)) = true then (os.headD []).getD q 0 else -1
def knS (n : Nat) (os : List (List Int)) (i p : Nat) : List Int := lst (fun q => if q < p then kvR os (i + 1) q else kvR os i q) n
theorem bsRR1 {lit : Bool} {H : Heap} {r : Rw3} : bsA prog lit H 47 1 [(0, .agg [.int .i64 r.1, .int .i64 r.2.1, .int .i64 r.2.2])] = some (.slice (some ⟨H.length, 0, 0⟩) 1 1, H ++ [rowE encR 79 [r] 0]) := by
  simp [bsA, rowOf, Fc.el47, fillA, repCells, AVal.isN, AVal.cells, splice, rowE, flat, encR]
theorem snocRR {b base : Nat} {A : Heap} {w : AVal} {l : List Rw3} {r : Rw3} (hO : Own encR 79 b A w l) (hb : base ≤ b) (hbh : b ≤ A.length) (hl : l.length ≤ 1000000) :
    ∃ w' H, appendA prog base (A ++ [rowE encR 79 [r] 0]) 47 w (.slice (some ⟨A.length, 0, 0⟩) 1 1) = some (w', H) ∧ Own encR 79 b H w' (l ++ [r]) ∧ A.length ≤ H.length ∧ (∀ G, G.length ≤ b → Ext G A → Ext G H) ∧ One w' ∧ KeepO encR 79 A H := by
  obtain ⟨B, eB⟩ : ∃ B, B = A ++ [rowE encR 79 [r] 0] := ⟨_, rfl⟩
  have xB : Ext A B := by rw [eB]; exact .app .refl
  have lB' : B.length = A.length + 1 := by rw [eB]; simp
  have hx : Rows encR B (.slice (some ⟨A.length, 0, 0⟩) 1 1) [r] := Rows.own (by rw [eB]; exact get_eq rfl) rfl (by simp)
  rw [← eB]
  obtain ⟨w', H, a1, a2, a3, a4, a5, a6⟩ := (hO.ext xB).appendRX (P := prog) (base := base) (t := 47) hx Fc.el47 encR_sc hb (by omega) (by simp) (by simp; omega)
  have a6 : KeepO encR 79 B H := a6
  exact ⟨w', H, a1, a2, by omega, fun G h1 h2 => a4 G h1 (h2.trans xB), a5, fun i y hi hy => a6 i y (xB.get hi) hy⟩
set_option maxHeartbeats 2000000 in
theorem run_theirs {base : Nat} {h : Heap} {v : AVal} {L : Lac} (hb : base ≤ h.length) (hL : LacAt h v L) (hl : L.R.length ≤ 1000) :
    Ret prog raw base (.fn 31 [] []) [v] h (fun w H => Ext h H ∧ LacAt H w L ∧ ∃ cv rw', w = .agg [.int .i64 L.T, cv, rw'] ∧ Ints h cv L.C ∧ Own encR 79 h.length H rw' L.R) := by
  obtain ⟨cv, rv, rfl, hC, hR⟩ := hL
  have o1 := hC.one
  have o2 := hR.one
  obtain ⟨G, eG⟩ : ∃ G, G = h ++ [lacB L.T cv rv] ++ [rcB 0 (.slice none 0 0) (.slice none 0 0)] ++ [rcB L.T cv (.slice none 0 0)] := ⟨_, rfl⟩
  obtain ⟨G1, eG1⟩ : ∃ G1, G1 = h ++ [lacB L.T cv rv] ++ [rcB 0 (.slice none 0 0) (.slice none 0 0)] := ⟨_, rfl⟩
  have xG : Ext h G := by rw [eG]; exact .app (.app (.app .refl))
  have lG : G.length = h.length + 3 := by rw [eG]; simp
  have g0 : G[h.length]? = some (lacB L.T cv rv) := by rw [eG]; exact get_app (get_app (get_eq rfl))
  have g01 : G1[h.length]? = some (lacB L.T cv rv) := by rw [eG1]; exact get_app (get_eq rfl)
  have g1 : G[h.length + 1]? = some (rcB 0 (.slice none 0 0) (.slice none 0 0)) := by rw [eG]; exact get_app (get_eq (by simp))
  have g2 : G[h.length + 1 + 1]? = some (rcB L.T cv (.slice none 0 0)) := by rw [eG]; exact get_eq (by simp)
  have eGG : G1 ++ [rcB L.T cv (.slice none 0 0)] = G := by rw [eG, eG1]
  have l1 : G1.length = h.length + 1 + 1 := by rw [eG1]; simp
  have hn := (hR.ext xG).len (P := prog) Fc.el42
  unfold lacB rcB at eG1
  unfold rcB at eGG g1 g2
  unfold lacB at g0 g01
  refine ret_raw func31 rfl (by kernel_rfl) ?_
  have hsp := @Nat.succ_ne_zero; repeat' (first | simp (disch := first | exact dschL60 | fail) only [go_sem, ↓reduceIte, hsp, ← eG1, g01, l1, eGG, g0, hn] | refine WP_drw ?_ | refine cnd_intro (fun hsp => ?_) fun hsp => ?_)
  refine WP_count [(5, 5), (14, 24)] 0 L.R.length (Nat.zero_le _) (fun _ i fr K => fr 14 = .int .i64 (i : Int) ∧ Ext h K ∧ h.length + 3 ≤ K.length ∧ K[h.length + 1]? = some (rcB 0 (.slice none 0 0) (.slice none 0 0)) ∧ ∃ w, K[h.length + 1 + 1]? = some (rcB L.T cv w) ∧ Own encR 79 (h.length + 3) K w (L.R.take i)) ?_ ?_ ?_
  · exact ⟨by (simp (disch := first | exact dschL60 | fail) only [go_sem, ↓reduceIte, Int.natCast_zero]; first | done | rfl), xG, by omega, g1, .slice none 0 0, g2, Own.nil⟩
  · rintro i fr K hi0 hi hA ⟨r14, xK, lK, gK1, w, gK2, oW⟩
    have q2 := hA 2 rfl
    have q3 := hA 3 rfl
    have q12 := hA 12 rfl
    have q13 := hA 13 rfl
    try simp (disch := first | exact dschL60 | fail) only [go_sem, ↓reduceIte] at q2 q3 q12 q13
    have hlt : ((i : Int) < (L.R.length : Int)) = True := eq_true (by omega)
    have ow := oW.one
    obtain ⟨r, er⟩ : ∃ r, r = L.R[i] := ⟨_, rfl⟩
    have hx : L.R[i]? = some r := by rw [er]; exact List.getElem?_eq_getElem hi
    have iR := hR.ext xK
    have ad := iR.addr (P := prog) (i := (i : Int)) Fc.el42 Fc.ar42 (by omega) (by omega)
    rw [Int.toNat_natCast] at ad
    have ld : loadP prog K 70 (elAdr rv encR.z i 0) = some (.agg [.int .i64 r.1, .int .i64 r.2.1, .int .i64 r.2.2]) := iR.load (P := prog) Fc.ty70 hx
    obtain ⟨K1, eK1⟩ : ∃ K1, K1 = K ++ [rwB r] := ⟨_, rfl⟩
    have x1 : Ext K K1 := by rw [eK1]; exact .app .refl
    have gr : K1[K.length]? = some (rwB r) := by rw [eK1]; exact get_eq rfl
    have gK3 := x1.get gK2
    have gK4 := x1.get gK1
    have l2 := x1.len
    obtain ⟨w', K2, ea, oW', lW, eW, oneW, kW⟩ := snocRR (base := base) (r := r) (oW.ext x1) (by omega) (by omega) (by rw [List.length_take]; omega)
    have gK5 := kW.box gK3
    have gK6 := kW.box gK4
    have htk : L.R.take (i + 1) = L.R.take i ++ [r] := by rw [List.take_add_one, hx]; rfl
    unfold rcB at gK2 gK3 gK5
    unfold rwB at eK1 gr
    have hsp := @Nat.succ_ne_zero; repeat' (first | simp (disch := first | exact dschL60 | fail) only [go_sem, ↓reduceIte, hsp, r14, q2, q3, q12, q13, hlt, ad, ld, ← eK1, gr, gK3, bsRR1, ea, gK5] | refine WP_drw ?_ | refine cnd_intro (fun hsp => ?_) fun hsp => ?_)
    exact ⟨by (repeat first | exact Agree.refl | assumption | refine Agree.put rfl ?_ | refine Agree.put0 ?_ | refine Agree.sub rfl (by assumption) ?_), by omega, (eW h (by omega) (xK.trans x1)).set (by omega), by omega, gK6, w', rfl, by rw [htk]; exact oW'.setBox gK5⟩
  · rintro fr K hA ⟨r14, xK, lK, gK1, w, gK2, oW⟩
    have q2 := hA 2 rfl
    have q3 := hA 3 rfl
    have q12 := hA 12 rfl
    have q13 := hA 13 rfl
    try simp (disch := first | exact dschL60 | fail) only [go_sem, ↓reduceIte] at q2 q3 q12 q13
    have hlt : ((L.R.length : Int) < (L.R.length : Int)) = False := eq_false (by omega)
    rw [List.take_length] at oW
    have ow := oW.one
    unfold rcB at gK1 gK2
    have hsp := @Nat.succ_ne_zero; repeat' (first | simp (disch := first | exact dschL60 | fail) only [go_sem, ↓reduceIte, hsp, r14, q2, q3, q12, q13, hlt, gK2, gK1] | refine WP_drw ?_ | refine cnd_intro (fun hsp => ?_) fun hsp => ?_)
    have xf : Ext h (K.set (h.length + 1) ⟨.cells [.int .i64 L.T, cv, w] 49 false false, 0⟩) := xK.set (by omega)
    have oF := (oW.setBox (k := ⟨.cells [.int .i64 L.T, cv, w] 49 false false, 0⟩) gK1).low (b' := h.length) (by omega)
    exact ⟨xf, ⟨cv, w, rfl, hC.ext xf, oF.rows (by omega)⟩, cv, w, rfl, hC, oF⟩
end Go.AM
/-
  LaceFinds, walked.
-/
namespace Go.AM
open Go.Proofs.Try
theorem dschL61 {p : Prop} (h : p := by first | exact Nat.ne_of_beq_eq_false rfl | assumption | (apply asOne; (first | exact One.int | exact One.bool | assumption | exact Ints.one (by assumption) | exact Rows.one (by assumption) | exact Own.one (by assumption) | exact One.lit ⟨rfl, rfl, rfl⟩)) | (apply asInts; (repeat first | assumption | exact ints_nil | apply Ints.app); done) | (apply asRows; (repeat first | assumption | exact Rows.nil | apply Rows.app); done) | (apply asScal; (first | apply allS1 | apply allS2 | apply allS3 | apply allS4) <;> (first | exact One.int | exact One.bool | assumption | exact Ints.one (by assumption) | exact Rows.one (by assumption) | exact Own.one (by assumption) | exact One.lit ⟨rfl, rfl, rfl⟩)) | exact litT rfl | exact litF rfl | omega | (simp only [List.length_append, List.length_cons, List.length_nil, List.length_set, List.length_reverse]; first | done | omega) | fail) : p := h
attribute [-go_sem] put_ne put_same
attribute [local go_sem ↓] put_if
theorem run_great {base : Nat} {h : Heap} {v : AVal} {L : Lac} (hL : LacAt h v L) : callL prog raw base (.fn 29 [] []) [v] h = some (.bool (decide (12 < L.C.length ∨ 16 < L.R.length)), h) := by
  obtain ⟨cv, rv, rfl, hC, hR⟩ := hL
  have o1 := hC.one
  have o2 := hR.one
  obtain ⟨G, eG⟩ : ∃ G, G = h ++ [lacB L.T cv rv] := ⟨_, rfl⟩
  have xG : Ext h G := by rw [eG]; exact .app .refl
  have g0 : G[h.length]? = some (lacB L.T cv rv) := by rw [eG]; exact get_eq rfl
  have hn1 := lenI (hC.ext xG)
  have hn2 := (hR.ext xG).len (P := prog) Fc.el42
  unfold lacB at eG g0
  refine callL_run func29 rfl rfl ?_
  by_cases c : 12 < L.C.length
  · have t1 : ((L.C.length : Int) > 12) = True := eq_true (by omega)
    have hsp := @Nat.succ_ne_zero; repeat' (first | simp (disch := first | exact dschL61 | fail) only [go_sem, ↓reduceIte, hsp, ← eG, g0, hn1, t1] | refine WP_drw ?_ | refine cnd_intro (fun hsp => ?_) fun hsp => ?_)
    exact fB (by rw [decide_eq_true (.inl c)]) xG
  · have t1 : ((L.C.length : Int) > 12) = False := eq_false (by omega)
    by_cases d : 16 < L.R.length
    · have t2 : ((L.R.length : Int) > 16) = True := eq_true (by omega)
      have hsp := @Nat.succ_ne_zero; repeat' (first | simp (disch := first | exact dschL61 | fail) only [go_sem, ↓reduceIte, hsp, ← eG, g0, hn1, hn2, t1, t2] | refine WP_drw ?_ | refine cnd_intro (fun hsp => ?_) fun hsp => ?_)
      exact fB (by rw [decide_eq_true (.inr d)]) xG
    · have t2 : ((L.R.length : Int) > 16) = False := eq_false (by omega)
      have hsp := @Nat.succ_ne_zero; repeat' (first | simp (disch := first | exact dschL61 | fail) only [go_sem, ↓reduceIte, hsp, ← eG, g0, hn1, hn2, t1, t2] | refine WP_drw ?_ | refine cnd_intro (fun hsp => ?_) fun hsp => ?_)
      exact fB (by rw [decide_eq_false (by omega)]) xG
theorem chkL_ne {L : Lac} : chkL L ≠ 7 ∧ chkL L ≠ 6 := by
  unfold chkL
  repeat' split
  all_goals omega
theorem found_bad {L : Lac} (h : chkL L ≠ 0) : frsE L = ([], chkL L) ∧ cntE L = (0, chkL L) ∧ kwnE L = ([], chkL L) ∧ rngE L = chkL L ∧ gapE L = chkL L ∧ askE L = (0, 0, chkL L) ∧ dcdE L = ([], chkL L) := by
  have e : fndE L = ([], chkL L) := by unfold fndE; rw [if_pos h]
  refine ⟨by unfold frsE; rw [e, if_neg h], ?_, by unfold kwnE; rw [e, if_neg h], by unfold rngE; rw [e, if_neg h], by unfold gapE; rw [if_neg h], by unfold askE; rw [e, if_neg h], by unfold dcdE; rw [e, if_neg h]⟩
  unfold cntE
  rw [e, if_neg chkL_ne.1]
  rfl
end Go.AM
/-
  The reference: gaps.
-/
namespace Go.AM
open Go.Proofs.Try
theorem dschL62 {p : Prop} (h : p := by first | exact Nat.ne_of_beq_eq_false rfl | assumption | (apply asOne; (first | exact One.int | exact One.bool | assumption | exact Ints.one (by assumption) | exact Rows.one (by assumption) | exact Own.one (by assumption) | exact One.lit ⟨rfl, rfl, rfl⟩)) | (apply asInts; (repeat first | assumption | exact ints_nil | apply Ints.app); done) | (apply asRows; (repeat first | assumption | exact Rows.nil | apply Rows.app); done) | (apply asScal; (first | apply allS1 | apply allS2 | apply allS3 | apply allS4) <;> (first | exact One.int | exact One.bool | assumption | exact Ints.one (by assumption) | exact Rows.one (by assumption) | exact Own.one (by assumption) | exact One.lit ⟨rfl, rfl, rfl⟩)) | exact litT rfl | exact litF rfl | omega | (simp only [List.length_append, List.length_cons, List.length_nil, List.length_set, List.length_reverse]; first | done | omega) | fail) : p := h
attribute [-go_sem] put_ne put_same
attribute [local go_sem ↓] put_if
theorem rise_iff {l : List Int} : (sortB l = true ∧ twB l = false) ↔ ∀ i, i + 1 < l.length → l.getD i 0 < l.getD (i + 1) 0 := by
  constructor
  · rintro ⟨h1, h2⟩ i hi
    have p := sortB_pair h1
    have hn : l.Nodup := Classical.not_not.1 (of_decide_eq_false h2)
    have a := List.pairwise_iff_getElem.1 p i (i + 1) (by omega) hi (by omega)
    have b := List.pairwise_iff_getElem.1 (List.nodup_iff_pairwise_ne.1 hn) i (i + 1) (by omega) hi (by omega)
    rw [getD_at (show i < l.length by omega), getD_at hi]
    omega
  · intro h
    have hp : l.Pairwise (· < ·) := by
      rw [List.pairwise_iff_getElem]
      intro i j hi hj hij
      have key : ∀ d, i + 1 + d < l.length → l.getD i 0 < l.getD (i + 1 + d) 0 := fun d => by
        induction d with
        | zero => exact fun hd => h i hd
        | succ d ih => exact fun hd => by have := ih (by omega); have := h (i + 1 + d) (by omega); rw [show i + 1 + (d + 1) = i + 1 + d + 1 by omega]; omega
      have := key (j - (i + 1)) (by omega)
      rw [show i + 1 + (j - (i + 1)) = j by omega, getD_at hi, getD_at hj] at this
      exact this
    refine ⟨pair_sortB (hp.imp fun q => by omega), ?_⟩
    unfold twB
    refine decide_eq_false ?_
    intro q
    exact q (hp.imp fun r => by omega)
theorem any_take {α : Type} {p : α → Bool} {l : List α} {n : Nat} {x : α} (hx : l[n]? = some x) : (l.take (n + 1)).any p = ((l.take n).any p || p x) := by
  rw [List.take_add_one, hx, List.any_append]; simp
set_option maxHeartbeats 4000000 in
theorem run_rgapes {base : Nat} {h : Heap} {v gv : AVal} {L : Lac} {l : List Int} (hL : LacAt h v L) (hok : LacOk L) (hG : Ints h gv l) (hl : l.length ≤ 1000) :
    callL prog raw base (.fn 52 [] []) [v, gv] h = some (.tuple [.int .i64 (gpsE L l).1, .int .i64 (gpsE L l).2], h) := by
  have hL0 := hL
  have hc := chkL_iff.2 hok
  obtain ⟨cv, rv, rfl, hC, hR⟩ := hL
  have o1 := hC.one
  have o2 := hR.one
  have o3 := hG.one
  have hn := hok.n
  obtain ⟨G, eG⟩ : ∃ G, G = h ++ [rcB L.T cv rv] := ⟨_, rfl⟩
  have xG : Ext h G := by rw [eG]; exact .app .refl
  have g0 : G[h.length]? = some (rcB L.T cv rv) := by rw [eG]; exact get_eq rfl
  have iG := hG.ext xG
  have hlg := lenI iG
  have hlc := lenI (hC.ext xG)
  have u0 : ¬ (chkL L ≠ 0) := fun q => q hc
  unfold rcB at eG g0
  refine callL_run func52 rfl rfl ?_
  have hsp := @Nat.succ_ne_zero; repeat' (first | simp (disch := first | exact dschL62 | fail) only [go_sem, ↓reduceIte, hsp, ← eG] | refine WP_drw ?_ | refine cnd_intro (fun hsp => ?_) fun hsp => ?_)
  refine WP_count [(4, 26)] 0 l.length (Nat.zero_le _) (fun _ i fr H => fr 6 = .int .i64 (i : Int) ∧ H = G ∧ (l.take i).all (fun x => decide (0 ≤ x ∧ x ≤ (L.C.length : Int) - 1)) = true) ?_ ?_ ?_
  · exact ⟨by (simp (disch := first | exact dschL62 | fail) only [go_sem, ↓reduceIte, Int.natCast_zero]; first | done | rfl), rfl, by simp⟩
  · rintro i fr H hi0 hi hA ⟨r6, rfl, ha⟩
    have q1 := hA 1 rfl
    have q2 := hA 2 rfl
    try simp (disch := first | exact dschL62 | fail) only [go_sem, ↓reduceIte] at q1 q2
    have hlt : ((i : Int) < (l.length : Int)) = True := eq_true (by omega)
    have ai := adrI (i := (i : Int)) (by omega) iG (by omega)
    rw [Int.toNat_natCast] at ai
    have li := loadI iG hi
    have hx : l[i]? = some (l.getD i 0) := getD_some hi
    have ho := fun base => run_off (base := base) (h := H) (n := l.getD i 0) (lo := 0) (hi := (L.C.length : Int) - 1)
    by_cases c : 0 ≤ l.getD i 0 ∧ l.getD i 0 ≤ (L.C.length : Int) - 1
    · rw [decide_eq_true c] at ho
      have hsp := @Nat.succ_ne_zero; repeat' (first | simp (disch := first | exact dschL62 | fail) only [go_sem, ↓reduceIte, hsp, r6, q1, q2, hlg, hlt, ai, li, g0, hlc, ho, Bool.not_true] | refine WP_drw ?_ | refine cnd_intro (fun hsp => ?_) fun hsp => ?_)
      exact ⟨by (repeat first | exact Agree.refl | assumption | refine Agree.put rfl ?_ | refine Agree.put0 ?_ | refine Agree.sub rfl (by assumption) ?_), by omega, all_take hx ha (decide_eq_true c)⟩
    · rw [decide_eq_false c] at ho
      have hsp := @Nat.succ_ne_zero; repeat' (first | simp (disch := first | exact dschL62 | fail) only [go_sem, ↓reduceIte, hsp, r6, q1, q2, hlg, hlt, ai, li, g0, hlc, ho, Bool.not_false] | refine WP_drw ?_ | refine cnd_intro (fun hsp => ?_) fun hsp => ?_)
      have r : gpsE L l = (0, 1) := by unfold gpsE; rw [if_neg u0, if_pos (by rw [all_no hx (decide_eq_false c)]; simp)]
      rw [r]
      exact fII rfl rfl xG
  · rintro fr H hA ⟨r6, rfl, ha⟩
    have q1 := hA 1 rfl
    have q2 := hA 2 rfl
    try simp (disch := first | exact dschL62 | fail) only [go_sem, ↓reduceIte] at q1 q2
    have hlt : ((l.length : Int) < (l.length : Int)) = False := eq_false (by omega)
    rw [List.take_length] at ha
    have u1 : ¬ (¬ (l.all fun x => decide (0 ≤ x ∧ x ≤ (L.C.length : Int) - 1)) = true) := by rw [ha]; simp
    have hin : ∀ x ∈ l, 0 ≤ x ∧ x < (L.C.length : Int) := fun x hx => by have := of_decide_eq_true (List.all_eq_true.1 ha x hx); omega
    have hsp := @Nat.succ_ne_zero; repeat' (first | simp (disch := first | exact dschL62 | fail) only [go_sem, ↓reduceIte, hsp, r6, q1, q2, hlg, hlt] | refine WP_drw ?_ | refine cnd_intro (fun hsp => ?_) fun hsp => ?_)
    refine WP_count [(4, 42)] 1 (max 1 l.length) (Nat.le_max_left _ _) (fun _ i fr K => fr 7 = .int .i64 (i : Int) ∧ K = H ∧ ∀ j, j + 1 < i → l.getD j 0 < l.getD (j + 1) 0) ?_ ?_ ?_
    · exact ⟨by (simp (disch := first | exact dschL62 | fail) only [go_sem, ↓reduceIte, Int.natCast_zero]; first | done | rfl), rfl, fun j hj => by omega⟩
    · rintro i fr2 K hi0 hi hA2 ⟨r7, rfl, hr⟩
      have d1 := hA2 1 rfl
      have d2 := hA2 2 rfl
      try simp (disch := first | exact dschL62 | fail) only [go_sem, ↓reduceIte, q1, q2] at d1 d2
      have hi' : i < l.length := by omega
      have hlt2 : ((i : Int) < (l.length : Int)) = True := eq_true (by omega)
      have ai := adrI (i := (i : Int)) (by omega) iG (by omega)
      have s1 : ((i : Int) - 1) = ((i - 1 : Nat) : Int) := by omega
      have aj := adrI (i := ((i - 1 : Nat) : Int)) (by omega) iG (by omega)
      rw [Int.toNat_natCast] at ai aj
      have li := loadI iG hi'
      have lj := loadI iG (i := i - 1) (by omega)
      by_cases c : l.getD i 0 ≤ l.getD (i - 1) 0
      · have t1 : (l.getD i 0 ≤ l.getD (i - 1) 0) = True := eq_true c
        have hsp := @Nat.succ_ne_zero; repeat' (first | simp (disch := first | exact dschL62 | fail) only [go_sem, ↓reduceIte, hsp, r7, d1, d2, q1, q2, hlg, hlt2, ai, li, s1, aj, lj, t1] | refine WP_drw ?_ | refine cnd_intro (fun hsp => ?_) fun hsp => ?_)
        have r : gpsE L l = (0, 4) := by
          unfold gpsE
          rw [if_neg u0, if_neg u1, if_pos]
          by_cases e1 : sortB l = true
          · by_cases e2 : twB l = true
            · exact .inr (.inr e2)
            · have := rise_iff.1 ⟨e1, by simpa using e2⟩ (i - 1) (by omega)
              rw [show i - 1 + 1 = i by omega] at this
              omega
          · exact .inr (.inl (by simpa using e1))
        rw [r]
        exact fII rfl rfl xG
      · have t1 : (l.getD i 0 ≤ l.getD (i - 1) 0) = False := eq_false c
        have hsp := @Nat.succ_ne_zero; repeat' (first | simp (disch := first | exact dschL62 | fail) only [go_sem, ↓reduceIte, hsp, r7, d1, d2, q1, q2, hlg, hlt2, ai, li, s1, aj, lj, t1] | refine WP_drw ?_ | refine cnd_intro (fun hsp => ?_) fun hsp => ?_)
        refine ⟨by (repeat first | exact Agree.refl | assumption | refine Agree.put rfl ?_ | refine Agree.put0 ?_ | refine Agree.sub rfl (by assumption) ?_), by omega, fun j hj => ?_⟩
        by_cases e : j + 1 < i
        · exact hr j e
        · rw [show j = i - 1 by omega, show i - 1 + 1 = i by omega]; omega
    · rintro fr2 K hA2 ⟨r7, rfl, hr⟩
      have d1 := hA2 1 rfl
      have d2 := hA2 2 rfl
      try simp (disch := first | exact dschL62 | fail) only [go_sem, ↓reduceIte, q1, q2] at d1 d2
      have hlt2 : (((max 1 l.length : Nat) : Int) < (l.length : Int)) = False := eq_false (by omega)
      obtain ⟨e1, e2⟩ := rise_iff.2 fun i hi => hr i (by omega)
      by_cases c0 : l.length = 0
      · have t0 : ((l.length : Int) = 0) = True := eq_true (by omega)
        have hnil := List.eq_nil_of_length_eq_zero c0
        have hsp := @Nat.succ_ne_zero; repeat' (first | simp (disch := first | exact dschL62 | fail) only [go_sem, ↓reduceIte, hsp, r7, d1, d2, q1, q2, hlg, hlt2, t0] | refine WP_drw ?_ | refine cnd_intro (fun hsp => ?_) fun hsp => ?_)
        have r : gpsE L l = (0, 4) := by unfold gpsE; rw [if_neg u0, if_neg u1, if_pos (.inl hnil)]
        rw [r]
        exact fII rfl rfl xG
      · have t0 : ((l.length : Int) = 0) = False := eq_false (by omega)
        have u2 : ¬ (l = [] ∨ sortB l = false ∨ twB l = true) := by
          rintro (q | q | q)
          · rw [q] at c0; simp at c0
          · rw [e1] at q; cases q
          · rw [e2] at q; cases q
        obtain ⟨f, ef⟩ : ∃ f : Int → Bool, f = fun k => l.any fun p => fitB L p.toNat k.toNat := ⟨_, rfl⟩
        have hsp := @Nat.succ_ne_zero; repeat' (first | simp (disch := first | exact dschL62 | fail) only [go_sem, ↓reduceIte, hsp, r7, d1, d2, q1, q2, hlg, hlt2, t0] | refine WP_drw ?_ | refine cnd_intro (fun hsp => ?_) fun hsp => ?_)
        refine WP_count [(8, 73)] 0 L.C.length (Nat.zero_le _) (fun _ k fr K2 => fr 9 = .int .i64 (k : Int) ∧ K2 = K ∧ fr 8 = .int .i64 ((l.length : Int) - (((upto k).filter f).length : Nat))) ?_ ?_ ?_
        · exact ⟨by (simp (disch := first | exact dschL62 | fail) only [go_sem, ↓reduceIte, Int.natCast_zero]; first | done | rfl), rfl, by simp (disch := first | exact dschL62 | fail) only [go_sem, ↓reduceIte]; simp [upto, lst]⟩
        · rintro k fr3 K2 hk0 hk hA3 ⟨r9, rfl, r8⟩
          have z1 := hA3 1 rfl
          have z2 := hA3 2 rfl
          have z4 := hA3 4 rfl
          have z5 := hA3 5 rfl
          try simp (disch := first | exact dschL62 | fail) only [go_sem, ↓reduceIte, d1, d2] at z1 z2 z4 z5
          have hlt3 : ((k : Int) < (L.C.length : Int)) = True := eq_true (by omega)
          have hfl : ((upto k).filter f).length ≤ k := Nat.le_trans (List.length_filter_le _ _) (by rw [upto_len]; omega)
          have hsp := @Nat.succ_ne_zero; repeat' (first | simp (disch := first | exact dschL62 | fail) only [go_sem, ↓reduceIte, hsp, r9, r8, z1, z2, z4, z5, d1, d2, q1, q2, g0, hlc, hlt3] | refine WP_drw ?_ | refine cnd_intro (fun hsp => ?_) fun hsp => ?_)
          refine WP_count [(10, 70)] 0 l.length (Nat.zero_le _) (fun _ i fr K3 => fr 11 = .int .i64 (i : Int) ∧ K3 = K2 ∧ fr 10 = .bool ((l.take i).any fun p => fitB L p.toNat k)) ?_ ?_ ?_
          · exact ⟨by (simp (disch := first | exact dschL62 | fail) only [go_sem, ↓reduceIte, Int.natCast_zero]; first | done | rfl), rfl, by simp (disch := first | exact dschL62 | fail) only [go_sem, ↓reduceIte]; rfl⟩
          · rintro i fr4 K3 hi0 hi hA4 ⟨r11, rfl, r10⟩
            have y1 := hA4 1 rfl
            have y2 := hA4 2 rfl
            have y4 := hA4 4 rfl
            have y5 := hA4 5 rfl
            have y8 := hA4 8 rfl
            have y9 := hA4 9 rfl
            try simp (disch := first | exact dschL62 | fail) only [go_sem, ↓reduceIte, z1, z2, z4, z5] at y1 y2 y4 y5 y8 y9
            have hlt4 : ((i : Int) < (l.length : Int)) = True := eq_true (by omega)
            have ai := adrI (i := (i : Int)) (by omega) iG (by omega)
            rw [Int.toNat_natCast] at ai
            have li := loadI iG hi
            have hx : l[i]? = some (l.getD i 0) := getD_some hi
            have hb := hin _ (getD_mem hi)
            obtain ⟨p, ep⟩ := Int.eq_ofNat_of_zero_le hb.1
            have hnx := any_take (p := fun p : Int => fitB L p.toNat k) hx
            rw [ep, Int.toNat_natCast] at hnx
            rw [ep] at li
            have hft := fun base => run_rfits (base := base) (p := p) (k := k) (hL0.ext xG) hok hk
            cases c : (l.take i).any fun p => fitB L p.toNat k with
            | true =>
              rw [c] at r10 hnx
              have hsp := @Nat.succ_ne_zero; repeat' (first | simp (disch := first | exact dschL62 | fail) only [go_sem, ↓reduceIte, hsp, r11, r10, y1, y2, y4, y5, y8, y9, z1, z2, z4, z5, d1, d2, q1, q2, hlg, hlt4] | refine WP_drw ?_ | refine cnd_intro (fun hsp => ?_) fun hsp => ?_)
              exact ⟨by (repeat first | exact Agree.refl | assumption | refine Agree.put rfl ?_ | refine Agree.put0 ?_ | refine Agree.sub rfl (by assumption) ?_), by omega, by rw [hnx]; rfl⟩
            | false =>
              rw [c, Bool.false_or] at hnx
              rw [c] at r10
              have hsp := @Nat.succ_ne_zero; repeat' (first | simp (disch := first | exact dschL62 | fail) only [go_sem, ↓reduceIte, hsp, r11, r10, r9, y1, y2, y4, y5, y8, y9, z1, z2, z4, z5, d1, d2, q1, q2, hlg, hlt4, g0, ai, li, hft] | refine WP_drw ?_ | refine cnd_intro (fun hsp => ?_) fun hsp => ?_)
              exact ⟨by (repeat first | exact Agree.refl | assumption | refine Agree.put rfl ?_ | refine Agree.put0 ?_ | refine Agree.sub rfl (by assumption) ?_), by omega, by rw [hnx]⟩
          · rintro fr4 K3 hA4 ⟨r11, rfl, r10⟩
            have y1 := hA4 1 rfl
            have y2 := hA4 2 rfl
            have y4 := hA4 4 rfl
            have y5 := hA4 5 rfl
            have y8 := hA4 8 rfl
            have y9 := hA4 9 rfl
            try simp (disch := first | exact dschL62 | fail) only [go_sem, ↓reduceIte, z1, z2, z4, z5] at y1 y2 y4 y5 y8 y9
            have hlt4 : ((l.length : Int) < (l.length : Int)) = False := eq_false (by omega)
            rw [List.take_length] at r10
            have hfk : (l.any fun p => fitB L p.toNat k) = f (k : Int) := by rw [ef]; simp only [Int.toNat_natCast]
            rw [hfk] at r10
            have hup := upto_filt (f := f) (k := k)
            cases c : f (k : Int) with
            | true =>
              rw [c] at r10 hup
              rw [if_pos rfl] at hup
              have hsp := @Nat.succ_ne_zero; repeat' (first | simp (disch := first | exact dschL62 | fail) only [go_sem, ↓reduceIte, hsp, r11, r10, r9, r8, y1, y2, y4, y5, y8, y9, z1, z2, z4, z5, d1, d2, q1, q2, hlg, hlt4] | refine WP_drw ?_ | refine cnd_intro (fun hsp => ?_) fun hsp => ?_)
              exact ⟨by (repeat first | exact Agree.refl | assumption | refine Agree.put rfl ?_ | refine Agree.put0 ?_ | refine Agree.sub rfl (by assumption) ?_), by omega, by rw [hup, List.length_append]; simp; omega⟩
            | false =>
              rw [c] at r10 hup
              rw [if_neg (by simp), List.append_nil] at hup
              have hsp := @Nat.succ_ne_zero; repeat' (first | simp (disch := first | exact dschL62 | fail) only [go_sem, ↓reduceIte, hsp, r11, r10, r9, r8, y1, y2, y4, y5, y8, y9, z1, z2, z4, z5, d1, d2, q1, q2, hlg, hlt4] | refine WP_drw ?_ | refine cnd_intro (fun hsp => ?_) fun hsp => ?_)
              exact ⟨by (repeat first | exact Agree.refl | assumption | refine Agree.put rfl ?_ | refine Agree.put0 ?_ | refine Agree.sub rfl (by assumption) ?_), by omega, by rw [hup]⟩
        · rintro fr3 K2 hA3 ⟨r9, rfl, r8⟩
          have z1 := hA3 1 rfl
          have z2 := hA3 2 rfl
          have z4 := hA3 4 rfl
          have z5 := hA3 5 rfl
          try simp (disch := first | exact dschL62 | fail) only [go_sem, ↓reduceIte, d1, d2] at z1 z2 z4 z5
          have hlt3 : ((L.C.length : Int) < (L.C.length : Int)) = False := eq_false (by omega)
          have hfe : ((upto L.C.length).filter f).length = fittN L l := by rw [ef]; rfl
          rw [hfe] at r8
          have hfn : fittN L l ≤ 7 := Nat.le_trans (List.length_filter_le _ _) (by rw [upto_len]; exact hn.2)
          by_cases c5 : (l.length : Int) - fittN L l < 1
          · have t5 : ((l.length : Int) - (fittN L l : Int) < 1) = True := eq_true c5
            have hsp := @Nat.succ_ne_zero; repeat' (first | simp (disch := first | exact dschL62 | fail) only [go_sem, ↓reduceIte, hsp, r9, r8, z1, z2, z4, z5, d1, d2, q1, q2, g0, hlc, hlt3, t5] | refine WP_drw ?_ | refine cnd_intro (fun hsp => ?_) fun hsp => ?_)
            have r : gpsE L l = (0, 6) := by unfold gpsE; rw [if_neg u0, if_neg u1, if_neg u2, if_pos c5]
            rw [r]
            exact fII rfl rfl xG
          · have t5 : ((l.length : Int) - (fittN L l : Int) < 1) = False := eq_false c5
            have hsp := @Nat.succ_ne_zero; repeat' (first | simp (disch := first | exact dschL62 | fail) only [go_sem, ↓reduceIte, hsp, r9, r8, z1, z2, z4, z5, d1, d2, q1, q2, g0, hlc, hlt3, t5] | refine WP_drw ?_ | refine cnd_intro (fun hsp => ?_) fun hsp => ?_)
            have r : gpsE L l = ((l.length : Int) - fittN L l, 0) := by unfold gpsE; rw [if_neg u0, if_neg u1, if_neg u2, if_neg c5]
            rw [r]
            exact fII rfl rfl xG
end Go.AM
/-
  LaceGaps, walked.
-/
namespace Go.AM
open Go.Proofs.Try
theorem dschL63 {p : Prop} (h : p := by first | exact Nat.ne_of_beq_eq_false rfl | assumption | (apply asOne; (first | exact One.int | exact One.bool | assumption | exact Ints.one (by assumption) | exact Rows.one (by assumption) | exact Own.one (by assumption) | exact One.lit ⟨rfl, rfl, rfl⟩)) | (apply asInts; (repeat first | assumption | exact ints_nil | apply Ints.app); done) | (apply asRows; (repeat first | assumption | exact Rows.nil | apply Rows.app); done) | (apply asScal; (first | apply allS1 | apply allS2 | apply allS3 | apply allS4) <;> (first | exact One.int | exact One.bool | assumption | exact Ints.one (by assumption) | exact Rows.one (by assumption) | exact Own.one (by assumption) | exact One.lit ⟨rfl, rfl, rfl⟩)) | exact litT rfl | exact litF rfl | omega | (simp only [List.length_append, List.length_cons, List.length_nil, List.length_set, List.length_reverse]; first | done | omega) | fail) : p := h
attribute [-go_sem] put_ne put_same
attribute [local go_sem ↓] put_if
set_option maxRecDepth 100000 in
set_option maxHeartbeats 8000000 in
theorem run_LaceGaps {base : Nat} {h : Heap} {v0 v1 : AVal} (hL0 : LacN 1048576 h v0) (hO0 : IntsN 1048576 h v1) :
    callL prog raw base (.fn 6 [] []) [v0, v1] h = some (.bool true, h) := by
  obtain ⟨L, hL, -, -⟩ := hL0
  obtain ⟨o, hO, -⟩ := hO0
  have hLL := hL
  obtain ⟨cv, rv, rfl, hC, hR⟩ := hLL
  have o1 := hC.one
  have o2 := hR.one
  have o3 := hO.one
  obtain ⟨G0, eG0⟩ : ∃ G0, G0 = h ++ [lacB L.T cv rv] := ⟨_, rfl⟩
  have x0 : Ext h G0 := by rw [eG0]; exact .app .refl
  have g0 : G0[h.length]? = some (lacB L.T cv rv) := by rw [eG0]; exact get_eq rfl
  have lG0 : G0.length = h.length + 1 := by rw [eG0]; simp
  have hg := fun base => run_great (base := base) (hL.ext x0)
  have hlo := lenI (hO.ext x0)
  have haw := fun base => run_awake (base := base) (h := G0)
  unfold lacB at eG0
  have g0' := g0
  unfold lacB at g0'
  refine callL_run func6 rfl rfl ?_
  by_cases cg : 12 < L.C.length ∨ 16 < L.R.length
  · rw [decide_eq_true cg] at hg
    have hsp := @Nat.succ_ne_zero; repeat' (first | simp (disch := first | exact dschL63 | fail) only [go_sem, ↓reduceIte, hsp, ← eG0, g0', hg, haw] | refine WP_drw ?_ | refine cnd_intro (fun hsp => ?_) fun hsp => ?_)
    exact fB rfl x0
  · rw [decide_eq_false cg] at hg
    by_cases cl : 12 < o.length
    · have t1 : ((o.length : Int) > 12) = True := eq_true (by omega)
      have hsp := @Nat.succ_ne_zero; repeat' (first | simp (disch := first | exact dschL63 | fail) only [go_sem, ↓reduceIte, hsp, ← eG0, g0', hg, hlo, t1, haw] | refine WP_drw ?_ | refine cnd_intro (fun hsp => ?_) fun hsp => ?_)
      exact fB rfl x0
    · have t1 : ((o.length : Int) > 12) = False := eq_false (by omega)
      obtain ⟨_, G1, e1, x1, cw, rw1, rfl, oC, oR⟩ := run_own (base := h.length) (h := G0) (by omega) (hL.ext x0) (by omega) (by omega)
      have l1 := x1.len
      obtain ⟨_, G2, e2, x2, aT, cv2, rw2, rfl, -, oT⟩ := run_theirs (base := h.length) (h := G1) (by omega) (hL.ext (x0.trans x1)) (by omega)
      have l2 := x2.len
      obtain ⟨mw, G3, e3, x3, oM⟩ := run_dupI (base := h.length) (h := G2) (by omega) (hO.ext ((x0.trans x1).trans x2)) (by omega)
      have l3 := x3.len
      have ocw := oC.one
      have orw := oR.one
      have omw := oM.one
      have ot2 := oT.one
      have oc2 : One cv2 := by
        obtain ⟨_, _, q, q2, _⟩ := aT
        simp only [AVal.agg.injEq, List.cons.injEq, and_true] at q
        rw [q.2.1]; exact q2.one
      obtain ⟨G4, eG4⟩ : ∃ G4, G4 = G3 ++ [lacB L.T cw rw1] ++ [rcB L.T cv2 rw2] := ⟨_, rfl⟩
      have x4 : Ext G3 G4 := by rw [eG4]; exact .app (.app .refl)
      have l4 : G4.length = G3.length + 2 := by rw [eG4]; simp
      have gO4 : G4[G3.length]? = some (lacB L.T cw rw1) := by rw [eG4]; exact get_app (get_eq rfl)
      have gT4 : G4[G3.length + 1]? = some (rcB L.T cv2 rw2) := by rw [eG4]; exact get_eq (by simp)
      have x14 := (x2.trans x3).trans x4
      have xh4 : Ext h G4 := (x0.trans x1).trans x14
      have hsC : Small L.C := ⟨by omega, hC.1.2⟩
      have hso : Small o := ⟨by omega, hO.1.2⟩
      have aO4 : LacAt G4 (.agg [.int .i64 L.T, cw, rw1]) L := ⟨cw, rw1, rfl, (ownE_ints oC hsC).ext x14, (oR.rows (by omega)).ext x14⟩
      have aT4 : LacAt G4 (.agg [.int .i64 L.T, cv2, rw2]) L := aT.ext (x3.trans x4)
      have iM4 : Ints G4 mw o := (ownE_ints oM hso).ext x4
      have gc4 : G4[h.length]? = some (lacB L.T cv rv) := (x1.trans x14).get g0
      have hck := fun base => run_rcheck (base := base) aT4 (by omega) (by omega)
      have g01 := x1.get g0'
      unfold lacB rcB at eG4
      unfold rcB at gT4
      have gc4' := gc4
      unfold lacB at gc4'
      have hlc4 := lenI (hC.ext xh4)
      by_cases c : chkL L = 0
      · have hok := chkL_iff.1 c
        have hn := hok.n
        rw [c] at hck
        obtain ⟨lw, G5, e5, x5, aA⟩ := run_All (base := h.length) (h := G4) (by omega) aT4 hok
        have l5 := x5.len
        have olw := aA.one
        have hfew := fnd_few (L := L) hn.2
        have hln := aA.all.len (by omega)
        have gT5 := x5.get gT4
        have gO5 := x5.get gO4
        have aO5 := aO4.ext x5
        have c1 := fun base => run_rgapes (base := base) (aT4.ext x5) hok ((hO.ext xh4).ext x5) (by omega)
        obtain ⟨_, Z, f1, z1, pw, pl, rfl, oP, rP1, rP2⟩ := run_Gap (base := h.length) (h := G5) (by omega) aO5
        have opw := oP.one
        have lz := z1.len
        have c2 := fun base => run_Gapes (base := base) (aO5.ext z1) ((iM4.ext x5).ext z1)
        have xf := xh4.trans (x5.trans z1)
        have gOZ := z1.get gO5
        have gTZ := z1.get gT5
        have gcZ := (x5.trans z1).get gc4
        have q3 := fun base => run_same (base := base) (aO5.ext z1) (hL.ext xf) (by omega)
        have q4 := fun base => run_eqI (base := base) ((iM4.ext x5).ext z1) (hO.ext xf)
        rw [decide_eq_true rfl] at q4
        have q5 := fun base => run_awake (base := base) (h := Z)
        unfold lacB at gO5 gOZ gcZ
        by_cases cf : fnd L = []
        · obtain ⟨-, -, -, -, w5⟩ := found_none c cf
          rw [w5] at f1
          obtain ⟨_, hgo⟩ := rP2 w5
          obtain ⟨g1, g2', g3, g4⟩ := gap_is c hgo
          rw [cf] at hln
          have z0 : ((([] : List (List Int)).length : Nat) : Int) = 0 := rfl
          have c3 := fun base => run_rgapes (base := base) ((aT4.ext x5).ext z1) hok (own_ints oP g4) (by omega)
          rw [g1] at c3
          obtain ⟨gn, egn⟩ : ∃ gn, gn = (pl.length : Int) - fittN L pl := ⟨_, rfl⟩
          rw [← egn] at c3 g2'
          have tg : (gn > 0) = True := eq_true (by omega)
          have hsp := @Nat.succ_ne_zero; repeat' (first | simp (disch := first | exact dschL63 | fail) only [go_sem, ↓reduceIte, hsp, ← eG0, g0', hg, hlo, t1, e1, g01, e2, e3, ← eG4, gT4, hck, eq_self, e5, hln, z0, gT5, c1, gO5, f1, gOZ, c2, not_true, gcZ, q3, q4, q5, gTZ, c3, tg] | refine WP_drw ?_ | refine cnd_intro (fun hsp => ?_) fun hsp => ?_)
          exact fB rfl xf
        · obtain ⟨w5, -⟩ := found_some c cf
          rw [w5] at f1
          have hpl := rP1 (by rw [w5]; omega)
          rw [hpl] at oP
          have hlp := own_len oP Fc.el25 (by simp)
          have t2 : (((fnd L).length : Int) = 0) = False := eq_false (by have := List.length_pos_iff.2 cf; omega)
          have z0 : ((([] : List Int).length : Nat) : Int) = 0 := rfl
          have hsp := @Nat.succ_ne_zero; repeat' (first | simp (disch := first | exact dschL63 | fail) only [go_sem, ↓reduceIte, hsp, ← eG0, g0', hg, hlo, t1, e1, g01, e2, e3, ← eG4, gT4, hck, eq_self, e5, hln, t2, z0, gT5, c1, gO5, f1, gOZ, c2, not_true, gcZ, q3, q4, q5, hlp] | refine WP_drw ?_ | refine cnd_intro (fun hsp => ?_) fun hsp => ?_)
          exact fB rfl xf
      · have tu : (chkL L = 0) = False := eq_false c
        obtain ⟨-, -, -, -, w5, -⟩ := found_bad c
        obtain ⟨_, Z, f1, z1, pw, pl, rfl, oP, rP1, rP2⟩ := run_Gap (base := h.length) (h := G4) (by omega) aO4
        have opw := oP.one
        have lz := z1.len
        have hpl := rP1 (by rw [w5]; exact c)
        rw [w5] at f1
        rw [hpl] at oP
        have hlp := own_len oP Fc.el25 (by simp)
        have c2 := fun base => run_Gapes (base := base) (aO4.ext z1) (iM4.ext z1)
        have hgp : gpsE L o = (0, chkL L) := by unfold gpsE; rw [if_pos c]
        rw [hgp] at c2
        have xf := xh4.trans z1
        have gO4' := gO4
        have gOZ := z1.get gO4
        have gcZ := z1.get gc4
        have q3 := fun base => run_same (base := base) (aO4.ext z1) (hL.ext xf) (by omega)
        have q4 := fun base => run_eqI (base := base) (iM4.ext z1) (hO.ext xf)
        rw [decide_eq_true rfl] at q4
        have q5 := fun base => run_awake (base := base) (h := Z)
        have z0 : ((([] : List Int).length : Nat) : Int) = 0 := rfl
        unfold lacB at gO4' gOZ gcZ
        have hsp := @Nat.succ_ne_zero; repeat' (first | simp (disch := first | exact dschL63 | fail) only [go_sem, ↓reduceIte, hsp, ← eG0, g0', hg, hlo, t1, e1, g01, e2, e3, ← eG4, gT4, hck, eq_self, tu, gO4', f1, gOZ, c2, not_true, gcZ, q3, q4, q5, hlp, z0] | refine WP_drw ?_ | refine cnd_intro (fun hsp => ?_) fun hsp => ?_)
        exact fB rfl xf
end Go.AM
