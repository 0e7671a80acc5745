/-
  Contracts of package card in this seat: a Round chain is right, what it weaves, a chain that is made.
-/
import Derived.Test.YtlhmeoeamcgcmaaGreatE90
set_option linter.unusedSimpArgs false
set_option linter.unusedVariables false
namespace Go.AM
open Go.Proofs.Tryz
theorem dschE91 {p : Prop} (h : p := by first | exact Nat.ne_of_beq_eq_false rfl | assumption | (apply asOne; (first | exact One.int | exact One.bool | assumption | exact Ints.one (by assumption) | exact Rows.one (by assumption) | exact Own.one (by assumption) | exact One.lit ⟨rfl, rfl, rfl⟩)) | (apply asSp; (repeat first | assumption | apply SpAt.set | (refine SpAt.new ?_ (by (first | rfl | (simp only [List.length_append, List.length_cons, List.length_nil, List.length_set]; done) | (simp only [List.length_append, List.length_cons, List.length_nil, List.length_set]; omega)))) | apply SpAt.app | apply Bytes.app); done) | (apply asBytes; (repeat first | assumption | apply Bytes.app); done) | (apply asInts; (repeat first | assumption | exact ints_nil | apply Ints.app); done) | (apply asRows; (repeat first | assumption | exact Rows.nil | apply Rows.app); done) | (apply asScal; (first | apply allS1 | apply allS2 | apply allS3 | apply allS4) <;> (first | exact One.int | exact One.bool | assumption | exact Ints.one (by assumption) | exact Rows.one (by assumption) | exact Own.one (by assumption) | exact One.lit ⟨rfl, rfl, rfl⟩)) | exact litT rfl | exact litF rfl | omega | (simp only [List.length_append, List.length_cons, List.length_nil, List.length_set, List.length_reverse]; first | done | omega) | fail) : p := h
attribute [-go_sem] put_ne put_same
attribute [local go_sem ↓] put_if
theorem not_C {base id : Nat} {h : Heap} {g : AVal} {x : Int} {b : Bool} (hid : h[id]? = some ⟨.cells [g] 134 false false, 0⟩) (hg : ∀ base T, callL prog raw base g [.int .i64 x] (h ++ T) = some (.bool b, h ++ T)) :
    callL prog raw base (.fn 177 [] [.ptr (some ⟨id, 0, 0⟩)]) [.int .i64 x] h = some (.bool (!b), h) := by
  have hgi := lt_of_get hid
  have hg0 : ∀ base, callL prog raw base g [.int .i64 x] h = some (.bool b, h) := fun base => by have := hg base []; rwa [List.append_nil] at this
  refine callL_run func177 rfl rfl ?_
  have hsp := @Nat.succ_ne_zero; repeat' (first | simp (disch := first | exact dschE91 | fail) only [go_sem, ↓reduceIte, hsp, hid, hg, hg0] | refine WP_drw ?_ | refine cnd_intro (fun hsp => ?_) fun hsp => ?_)
  exact fB rfl
theorem every_C {base : Nat} {h : Heap} {v g : AVal} {l : List (Int)} (p : Int → Bool) (hR : Ints h v l) (hg : ∀ base T x, x ∈ l → callL prog raw base g [.int .i64 x] (h ++ T) = some (.bool (p x), h ++ T)) (h1 : One g) :
    callL prog raw base (.fn 149 [] []) [v, g] h = some (.bool (l.all p), h) := by
  have hc := fun base => anyF_I (base := base) (fun x => !p x) hR.app (fun base x hx => not_C (x := x) (get_eq rfl) (fun base T => by have := hg base ([⟨.cells [g] 134 false false, 0⟩] ++ T) x hx; rwa [← List.append_assoc] at this))
  refine callL_run func149 rfl rfl ?_
  have hsp := @Nat.succ_ne_zero; repeat' (first | simp (disch := first | exact dschE91 | fail) only [go_sem, ↓reduceIte, hsp, hc] | refine WP_drw ?_ | refine cnd_intro (fun hsp => ?_) fun hsp => ?_)
  refine fB ?_
  rw [List.any_eq_not_all_not]
  simp
theorem run_chk1C {base id : Nat} {h : Heap} {v : AVal} {w : Nat} {x : Int} (hg : h[id]? = some (chB (w : Int) v 0 0)) (hw : w ≤ 8) (hx : 0 ≤ x ∧ x < ((2 ^ w : Nat) : Int)) : callL prog raw base (.fn 150 [] [.ptr (some ⟨id, 0, 0⟩)]) [.int .i64 x] h = some (.bool true, h) := by
  have hp := pow_lt (w := w) (by omega)
  have e4 := fun t => shl_bit (t := t) (w := w) (by omega)
  have t1 : (0 ≤ x ∧ x ≤ ((2 ^ w : Nat) : Int) - 1) = True := eq_true (by omega)
  refine callL_run func150 rfl rfl ?_
  have hsp := @Nat.succ_ne_zero; repeat' (first | simp (disch := first | exact dschE91 | fail) only [go_sem, ↓reduceIte, hsp, hg, chB, e4, t1] | refine WP_drw ?_ | refine cnd_intro (fun hsp => ?_) fun hsp => ?_)
  exact fB rfl .refl
theorem run_checkC {base : Nat} {h : Heap} {v : AVal} {l : List Int} {w : Nat} (hI : Ints h v l) (hl : 1 ≤ l.length ∧ l.length ≤ 48) (hw : 1 ≤ w ∧ w ≤ 8) (hC : Crds w l) : callL prog raw base (.fn 109 [] []) [chV (w : Int) v 0 0] h = some (.int .i64 0, h) := by
  have o := hI.one
  have t1 : (1 ≤ (w : Int) ∧ (w : Int) ≤ 8) = True := eq_true (by omega)
  have t2 : (1 ≤ (l.length : Int) ∧ (l.length : Int) ≤ 48) = True := eq_true (by omega)
  have ev : ∀ {base : Nat} {T : Heap}, T = h ++ [chB (w : Int) v 0 0] → callL prog raw base (.fn 149 [] []) [v, .fn 150 [] [.ptr (some ⟨h.length, 0, 0⟩)]] T = some (.bool true, T) := fun {base T} e => by
    have hg : T[h.length]? = some (chB (w : Int) v 0 0) := by rw [e]; exact get_eq rfl
    have := every_C (base := base) (h := T) (v := v) (g := .fn 150 [] [.ptr (some ⟨h.length, 0, 0⟩)]) (l := l) (fun _ => true) (by rw [e]; exact hI.app) (fun base T x hx => run_chk1C (get_app hg) hw.2 (hC x hx)) ⟨rfl, rfl, rfl⟩
    rwa [show (l.all fun _ => true) = true from List.all_eq_true.2 fun _ _ => rfl] at this
  have ev2 := fun base => ev (base := base) rfl
  have rp1 : ∀ {base : Nat} {a : ABlk}, callL prog raw base (.fn 151 [] []) [chV (w : Int) v 0 0] (h ++ [a]) = some (.agg [.int .i64 0, .int .i64 (l.length : Int), .int .i64 0], h ++ [a]) := fun {base a} => run_planC (hI.ext (.app .refl))
  unfold chB at ev2
  refine callL_run func109 rfl rfl ?_
  have hsp := @Nat.succ_ne_zero; repeat' (first | simp (disch := first | exact dschE91 | fail) only [go_sem, ↓reduceIte, hsp, t1, t2, run_known0, ev2, rp1, run_stepped0] | refine WP_drw ?_ | refine cnd_intro (fun hsp => ?_) fun hsp => ?_)
  exact fI rfl (.app .refl)
/-- What a Round chain weaves. -/
def wvL (l : List Int) (n : Nat) : List Int := lst (fun t => l.getD (t % l.length) 0) n
set_option maxHeartbeats 1000000 in
theorem run_weaveC {base : Nat} {h : Heap} {v : AVal} {l : List Int} {w n : Nat} (hb : base ≤ h.length) (hI : Ints h v l) (hl : 1 ≤ l.length ∧ l.length ≤ 48) (hw : 1 ≤ w ∧ w ≤ 8) (hC : Crds w l) (hn : 1 ≤ n ∧ n ≤ 48) :
    Ret prog raw base (.fn 51 [] []) [chV (w : Int) v 0 0, .int .i64 (n : Int)] h (fun r H => Ext h H ∧ ∃ x, r = .tuple [.agg [.int .i64 (w : Int), x], .int .i64 0] ∧ Own encI 3 h.length H x (wvL l n)) := by
  have o := hI.one
  have t1 : (1 ≤ (n : Int) ∧ (n : Int) ≤ 48) = True := eq_true (by omega)
  obtain ⟨h2, eh2⟩ : ∃ h2, h2 = h ++ [chB (w : Int) v 0 0] ++ [⟨.cells [.int .i64 0, .slice none 0 0] 93 false false, 0⟩] := ⟨_, rfl⟩
  have x2 : Ext h h2 := by rw [eh2]; exact .app (.app .refl)
  have hl2 : h2.length = h.length + 2 := by rw [eh2]; simp
  have gc : h2[h.length]? = some (chB (w : Int) v 0 0) := by rw [eh2]; exact get_app (get_eq rfl)
  have gp : h2[h.length + 1]? = some ⟨.cells [.int .i64 0, .slice none 0 0] 93 false false, 0⟩ := by rw [eh2]; exact get_eq (by simp)
  have ck := fun base => run_checkC (base := base) (hI.ext x2) hl hw hC
  unfold chB at eh2
  refine ret_raw func51 rfl (by kernel_rfl) ?_
  have hsp := @Nat.succ_ne_zero; repeat' (first | simp (disch := first | exact dschE91 | fail) only [go_sem, ↓reduceIte, hsp, ← eh2, gc, chB, ck, t1] | refine WP_drw ?_ | refine cnd_intro (fun hsp => ?_) fun hsp => ?_)
  refine WP_count [(8, 8), (23, 34)] 0 n (Nat.zero_le _) (fun _ i fr h' => fr 23 = .int .i64 (i : Int) ∧ ∃ x, Ext h2 h' ∧ h'[h2.length]? = some ⟨.cells [.int .i64 (w : Int), x] 93 false false, 0⟩ ∧ Own encI 3 (h2.length + 1) h' x (wvL l i) ∧ h2.length < h'.length) ?_ ?_ ?_
  · exact ⟨by (simp (disch := first | exact dschE91 | fail) only [go_sem, ↓reduceIte, Int.natCast_zero]; first | done | rfl), _, .app .refl, get_eq rfl, Own.nil, by simp⟩
  · rintro i fr H hi0 hi hA ⟨p23, x, xH, gH, oH, hH⟩
    have p2 := hA 2 rfl
    have p4 := hA 4 rfl
    have p5 := hA 5 rfl
    have p7 := hA 7 rfl
    have p22 := hA 22 rfl
    try simp (disch := first | exact dschE91 | fail) only [go_sem, ↓reduceIte] at p2 p4 p5 p7 p22
    
    have hlt : ((i : Int) < (n : Int)) = True := eq_true (by omega)
    have xx := x2.trans xH
    have gcH := xH.get gc
    have lf := fun base => run_liftC (base := base) (t := i) (hI.ext xx) (by omega) hw.2 hC
    obtain ⟨y, ey⟩ : ∃ y, l.getD (i % l.length) 0 = y := ⟨_, rfl⟩
    rw [ey] at lf
    have ox := oH.one
    obtain ⟨x', H', a1, a2, a3, a4, a5, a6⟩ := oH.append1X (P := prog) (y := y) (base := base) (t := 36) rfl rfl Fc.el36 encI_sc (by omega) hH (by rw [wvL, lst_len]; omega)
    have kp : KeepO encI 3 H H' := a6
    have g2 := kp.box gH
    have hsp := @Nat.succ_ne_zero; repeat' (first | simp (disch := first | exact dschE91 | fail) only [go_sem, ↓reduceIte, hsp, p2, p4, p5, p7, p22, p23, hlt, gH, gcH, chB, lf, a1, g2] | refine WP_drw ?_ | refine cnd_intro (fun hsp => ?_) fun hsp => ?_)
    refine ⟨by (repeat first | exact Agree.refl | assumption | refine Agree.put rfl ?_ | refine Agree.put0 ?_ | refine Agree.sub rfl (by assumption) ?_), by omega, x', (a4 _ (by omega) xH).set (Nat.le_refl _), rfl, ?_, by omega⟩
    have e : wvL l (i + 1) = wvL l i ++ [y] := by unfold wvL; rw [lst_succ, ey]
    rw [e]
    exact a2.setBox g2
  · rintro fr H hA ⟨p23, x, xH, gH, oH, hH⟩
    have p2 := hA 2 rfl
    have p4 := hA 4 rfl
    have p5 := hA 5 rfl
    have p7 := hA 7 rfl
    have p22 := hA 22 rfl
    try simp (disch := first | exact dschE91 | fail) only [go_sem, ↓reduceIte] at p2 p4 p5 p7 p22
    
    have hlt : ((n : Int) < (n : Int)) = False := eq_false (by omega)
    have gpH := xH.get gp
    have ox := oH.one
    have hsp := @Nat.succ_ne_zero; repeat' (first | simp (disch := first | exact dschE91 | fail) only [go_sem, ↓reduceIte, hsp, p2, p4, p5, p7, p22, p23, hlt, gH, gpH] | refine WP_drw ?_ | refine cnd_intro (fun hsp => ?_) fun hsp => ?_)
    exact ⟨((x2.trans xH)).set (by omega), x, rfl, (oH.setBox gpH).low (by omega)⟩
theorem stE91a {base : Nat} {l : List Oper} {s : St} {Q : AExit → St → Prop} : WP prog raw base (.region 2 l.toArray false) s Q = WPS prog raw base (.region 2 l.toArray false) s Q := WP_stop
attribute [local go_sem ↓ 3000] stE91a
theorem stE91c {base : Nat} {l : List Oper} {s : St} {Q : AExit → St → Prop} : WP prog raw base (.region 7 l.toArray true) s Q = WPS prog raw base (.region 7 l.toArray true) s Q := WP_stop
attribute [local go_sem ↓ 3000] stE91c
set_option maxHeartbeats 1000000 in
theorem run_madeC {base id k0 : Nat} {h : Heap} {v : AVal} {silk : List Int} {W0 C0 : Int} (hb : base ≤ h.length) (hS : SpAt h id v silk k0) (hk : k0 ≤ 1000) (hW0 : 1 ≤ W0 ∧ W0 ≤ 8) (hC0 : 1 ≤ C0 ∧ C0 ≤ 48) :
    Ret prog raw base (.fn 48 [] []) [.ptr (some ⟨id, 0, 0⟩), .int .i64 W0, .int .i64 C0] h (fun r H => ∃ (w : Nat) (k s : Int) (l : List Int) (x : AVal) (k' : Nat), SpE h id v silk k' H ∧ r = chV (w : Int) x k s ∧ Own encI 3 h.length H x l ∧ (1 ≤ w ∧ (w : Int) ≤ max 2 W0) ∧ (1 ≤ l.length ∧ (l.length : Int) ≤ C0) ∧ Crds w l) := by
  have hid := lt_of_get hS.1
  have uW := up_bd (silk := silk) (k := k0) (n := W0 - 1) (by omega)
  have uK := up_bd (silk := silk) (k := k0 + 1) (n := 2) (by omega)
  obtain ⟨W, eW⟩ := Int.eq_ofNat_of_zero_le (show 0 ≤ 1 + up silk k0 (W0 - 1) by omega)
  obtain ⟨K, eK⟩ : ∃ K, up silk (k0 + 1) 2 = K := ⟨_, rfl⟩
  rw [eK] at uK
  obtain ⟨G0, eG0⟩ : ∃ G0, G0 = h ++ [chB 0 (.slice none 0 0) 0 0] := ⟨_, rfl⟩
  have xG0 : Ext h G0 := by rw [eG0]; exact .app .refl
  have hG0 : G0.length = h.length + 1 := by rw [eG0]; simp
  have hS0 : SpAt G0 id v silk k0 := hS.ext xG0
  obtain ⟨G1, eG1⟩ : ∃ G1, G1 = (G0.set id (spB v silk (k0 + 1 + 1))) := ⟨_, rfl⟩
  have eG1' : (G0.set id (spB v silk (k0 + 1))).set id (spB v silk (k0 + 1 + 1)) = G1 := by rw [List.set_set, eG1]
  have xG1 : SpE G0 id v silk (k0 + 1 + 1) G1 := by rw [eG1]; exact (SpE.refl hS0).step (by omega)
  have hG1 : G1.length = h.length + 1 := by rw [eG1, List.length_set, hG0]
  have g0 : G0[h.length]? = some (chB 0 (.slice none 0 0) 0 0) := by rw [eG0]; exact get_eq rfl
  unfold chB at eG0
  refine ret_raw func48 rfl (by kernel_rfl) ?_
  have hsp := @Nat.succ_ne_zero; repeat' (first | simp (disch := first | exact dschE91 | fail) only [go_sem, ↓reduceIte, hsp, run_from, run_upto, eW, eK, ← eG0, eG1', hG1] | refine WP_drw ?_ | refine cnd_intro (fun hsp => ?_) fun hsp => ?_)
  have hS1 : SpAt G1 id v silk (k0 + 1 + 1) := xG1.at hS0
  have hid1 : id < G1.length := by omega
  have gr1 : G1[h.length]? = some (chB 0 (.slice none 0 0) 0 0) := xG1.get (by omega) g0
  refine WPS_restF fun Z eZ => ?_
  rw [← WP_seq]
  have kZ0 := congrFun eZ 0
  have kZ2 := congrFun eZ 2
  have kZ6 := congrFun eZ 6
  have kZ7 := congrFun eZ 7
  try simp (disch := first | exact dschE91 | fail) only [go_sem, ↓reduceIte] at kZ0 kZ2 kZ6 kZ7
  clear eZ
  refine WP_meet (fun fr h' => Agree [(14, 26)] fr Z ∧ ∃ (w : Nat) (s : Int) (k1 : Nat), k1 ≤ k0 + 3 ∧ SpE G0 id v silk k1 h' ∧ h'[h.length + 1]? = some (chB (w : Int) (.slice none 0 0) K s) ∧ (1 ≤ w ∧ (w : Int) ≤ max 2 W0) ∧ h'.length = h.length + 2) ?_ ?_
  · rw [WP_seq, WP_region]
    have gb : ∀ {b : ABlk}, (G1 ++ [b])[h.length + 1]? = some b := fun {b} => get_eq hG1.symm
    by_cases c : K = 2
    · have t1 : (K = 2) = True := eq_true c
      obtain ⟨M, eM⟩ : ∃ M : Nat, max 2 (W : Int) = (M : Int) := ⟨max 2 W, by omega⟩
      have um := up_bd (silk := silk) (k := k0 + 1 + 1) (n := (M : Int) - 1 - 1) (by omega)
      have gb2 : ∀ {a b : ABlk}, ((G1.set id a) ++ [b])[h.length + 1]? = some b := fun {a b} => get_eq (by rw [List.length_set]; exact hG1.symm)
      have sl : ∀ {a : ABlk}, (G1.set id a).length = h.length + 1 := fun {a} => by rw [List.length_set]; exact hG1
      have hsp := @Nat.succ_ne_zero; repeat' (first | simp (disch := first | exact dschE91 | fail) only [go_sem, ↓reduceIte, hsp, kZ0, kZ2, kZ6, kZ7, t1, gb, gb2, hG1, run_from, sl, eM] | refine WP_drw ?_ | refine cnd_intro (fun hsp => ?_) fun hsp => ?_)
      exact ⟨by (repeat first | exact Agree.refl | assumption | refine Agree.put rfl ?_ | refine Agree.put0 ?_ | refine Agree.sub rfl (by assumption) ?_), M, _, k0 + 1 + 1 + 1, by omega, (xG1.step (by omega)).app, rfl, by omega⟩
    · have t1 : (K = 2) = False := eq_false c
      have hsp := @Nat.succ_ne_zero; repeat' (first | simp (disch := first | exact dschE91 | fail) only [go_sem, ↓reduceIte, hsp, kZ0, kZ2, kZ6, kZ7, t1, gb] | refine WP_drw ?_ | refine cnd_intro (fun hsp => ?_) fun hsp => ?_)
      exact ⟨by (repeat first | exact Agree.refl | assumption | refine Agree.put rfl ?_ | refine Agree.put0 ?_ | refine Agree.sub rfl (by assumption) ?_), W, 0, k0 + 1 + 1, by omega, xG1.app, rfl, by omega, hG1⟩
  · rintro fr2 H2 ⟨hA2, w, s, k1, hk1, x2, g2, hw, hl2⟩
    have y0 := hA2 0 rfl
    have y2 := hA2 2 rfl
    have y6 := hA2 6 rfl
    have y7 := hA2 7 rfl
    try simp (disch := first | exact dschE91 | fail) only [go_sem, ↓reduceIte, kZ0, kZ2, kZ6, kZ7] at y0 y2 y6 y7
    have hS2 := x2.at hS0
    have hw8 : w ≤ 8 := by omega
    have hp : 2 ^ w ≤ 256 := by have := Nat.pow_le_pow_right (show 0 < 2 by decide) hw8; simpa using this
    have hp0 : 1 ≤ 2 ^ w := Nat.one_le_two_pow
    have uC := up_bd (silk := silk) (k := k1) (n := C0 - 1) (by omega)
    obtain ⟨N, eN⟩ := Int.eq_ofNat_of_zero_le (show 0 ≤ 1 + up silk k1 (C0 - 1) by omega)
    have e4 := fun t => shl_bit (t := t) (w := w) (by omega)
    have hsp := @Nat.succ_ne_zero; repeat' (first | simp (disch := first | exact dschE91 | fail) only [go_sem, ↓reduceIte, hsp, y0, y2, y6, y7, run_from, eN] | refine WP_drw ?_ | refine cnd_intro (fun hsp => ?_) fun hsp => ?_)
    refine WP_count [(30, 43)] 0 N (Nat.zero_le _) (fun _ i fr h' => fr 30 = .int .i64 (i : Int) ∧ ∃ (l : List Int) (x : AVal) (k2 : Nat), k2 ≤ k1 + 1 + i ∧ SpE G0 id v silk k2 h' ∧ h'[h.length + 1]? = some (chB (w : Int) x K s) ∧ Own encI 3 (h.length + 2) h' x l ∧ l.length = i ∧ Crds w l ∧ h.length + 2 ≤ h'.length) ?_ ?_ ?_
    · exact ⟨by (simp (disch := first | exact dschE91 | fail) only [go_sem, ↓reduceIte, Int.natCast_zero]; first | done | rfl), [], .slice none 0 0, k1 + 1, by omega, x2.step (by omega), by rw [List.getElem?_set_ne (by omega)]; exact g2, Own.nil, rfl, fun x hx => by simp at hx, by rw [List.length_set]; omega⟩
    · rintro i fr3 H3 hi0 hi hA3 ⟨c30, l, x, k2, hk2, x3, g3, oX, hl, hC, h3⟩
      have c0 := hA3 0 rfl
      have c6 := hA3 6 rfl
      have c7 := hA3 7 rfl
      have c29 := hA3 29 rfl
      try simp (disch := first | exact dschE91 | fail) only [go_sem, ↓reduceIte, y0, y6, y7] at c0 c6 c7 c29
      
      have hlt : ((i : Int) < (N : Int)) = True := eq_true (by omega)
      have hS3 := x3.at hS0
      have uy := up_bd (silk := silk) (k := k2) (n := ((2 ^ w : Nat) : Int) - 1) (by omega)
      have ru := fun base => run_upto (base := base) (n := ((2 ^ w : Nat) : Int) - 1) hS3 (by omega) (by omega)
      obtain ⟨u, eu⟩ : ∃ u, up silk k2 (((2 ^ w : Nat) : Int) - 1) = u := ⟨_, rfl⟩
      obtain ⟨H4, eH4⟩ : ∃ H4, H4 = H3.set id (spB v silk (k2 + 1)) := ⟨_, rfl⟩
      rw [eu, ← eH4] at ru
      rw [eu] at uy
      have ox := oX.one
      have x4 : SpE G0 id v silk (k2 + 1) H4 := by rw [eH4]; exact x3.step (by omega)
      have g4 : H4[h.length + 1]? = some (chB (w : Int) x K s) := by rw [eH4, List.getElem?_set_ne (by omega)]; exact g3
      have o4 : Own encI 3 (h.length + 2) H4 x l := by rw [eH4]; exact oX.set (by omega)
      have h4 : h.length + 2 ≤ H4.length := by rw [eH4, List.length_set]; exact h3
      obtain ⟨x', H', a1, a2, a3, a4, a5, a6⟩ := o4.append1X (P := prog) (y := u) (base := base) (t := 36) rfl rfl Fc.el36 encI_sc (by omega) h4 (by omega)
      have kp : KeepO encI 3 H4 H' := a6
      have g5 := kp.box (i := h.length + 1) g4
      unfold chB at g3 g4
      have hsp := @Nat.succ_ne_zero; repeat' (first | simp (disch := first | exact dschE91 | fail) only [go_sem, ↓reduceIte, hsp, c0, c6, c7, c29, c30, hlt] | refine WP_drw ?_ | refine cnd_intro (fun hsp => ?_) fun hsp => ?_)
      refine WPS_go ?_
      refine WP_wild [⟨1, 36, 32, ⟨h.length + 1, 0, 1⟩, x, 9⟩] (by kernel_rfl) (by kernel_rfl) (by kernel_rfl) ⟨oX.low_refs, trivial⟩ fun KK hK => ?_
      iterate 12
        rw [TRS_cons]
        refine ⟨by first | (simp (disch := first | exact dschE91 | fail) only [go_sem, ↓reduceIte, c0, c6, c7, c29, c30, g3, e4, ru, g4, a1, g5, ldsQ_cons, ldsQ_nil, if_true, Nat.reduceLeDiff]; done) | exact trivial, ?_⟩
        simp (disch := first | exact dschE91 | fail) only [go_sem, ↓reduceIte, c0, c6, c7, c29, c30, g3, e4, ru, g4, a1, g5]
      rw [TRS_nil]
      refine ⟨by first | (simp (disch := first | exact dschE91 | fail) only [go_sem, ↓reduceIte, c0, c6, c7, c29, c30, g3, e4, ru, g4, a1, g5, ldsQ_cons, ldsQ_nil, if_true, Nat.reduceLeDiff]; done) | exact trivial, ?_⟩
      subst hK
      have hsp := @Nat.succ_ne_zero; repeat' (first | simp (disch := first | exact dschE91 | fail) only [go_sem, ↓reduceIte, hsp, c0, c6, c7, c29, c30] | refine WP_drw ?_ | refine cnd_intro (fun hsp => ?_) fun hsp => ?_)
      refine ⟨by (repeat first | exact Agree.refl | assumption | refine Agree.put rfl ?_ | refine Agree.put0 ?_ | refine Agree.sub rfl (by assumption) ?_), by omega, l ++ [u], x', k2 + 1, by omega, Ext.set (a4 _ (by rw [List.length_set]; omega) x4) (by rw [List.length_set]; omega), rfl, a2.setBox g5, by simp [hl], fun z hz => ?_, by omega⟩
      rcases List.mem_append.1 hz with hz | hz
      · exact hC z hz
      · rw [List.mem_singleton] at hz
        omega
    · rintro fr3 H3 hA3 ⟨c30, l, x, k2, hk2, x3, g3, oX, hl, hC, h3⟩
      have c0 := hA3 0 rfl
      have c6 := hA3 6 rfl
      have c7 := hA3 7 rfl
      have c29 := hA3 29 rfl
      try simp (disch := first | exact dschE91 | fail) only [go_sem, ↓reduceIte, y0, y6, y7] at c0 c6 c7 c29
      
      have hlt : ((N : Int) < (N : Int)) = False := eq_false (by omega)
      have gr : H3[h.length]? = some (chB 0 (.slice none 0 0) 0 0) := x3.get (by omega) g0
      have ox := oX.one
      unfold chB at g3 gr
      have hsp := @Nat.succ_ne_zero; repeat' (first | simp (disch := first | exact dschE91 | fail) only [go_sem, ↓reduceIte, hsp, c0, c6, c7, c29, c30, hlt, g3, gr] | refine WP_drw ?_ | refine cnd_intro (fun hsp => ?_) fun hsp => ?_)
      rw [eG0] at x3
      exact ⟨w, K, s, l, x, k2, Ext.set (x3.low hid) (by simp), rfl, (oX.setBox gr).low (by omega), hw, by omega, hC⟩
end Go.AM
