/-
  FaultCards, walked.
-/
import Derived.Test.YtlhmeoeamcgcmaaGreatE91
import Derived.Test.YtlhmeoeamcgcmaaGreatW9
set_option linter.unusedSimpArgs false
set_option linter.unusedVariables false
namespace Go.AM
open Go.Proofs.Tryz
theorem dschE92 {p : Prop} (h : p := by first | exact Nat.ne_of_beq_eq_false rfl | assumption | (apply asOne; (first | exact One.int | exact One.bool | assumption | exact Ints.one (by assumption) | exact Rows.one (by assumption) | exact Own.one (by assumption) | exact One.lit ⟨rfl, rfl, rfl⟩)) | (apply asSp; (repeat first | assumption | apply SpAt.set | (refine SpAt.new ?_ (by (first | rfl | (simp only [List.length_append, List.length_cons, List.length_nil, List.length_set]; done) | (simp only [List.length_append, List.length_cons, List.length_nil, List.length_set]; omega)))) | apply SpAt.app | apply Bytes.app); done) | (apply asBytes; (repeat first | assumption | apply Bytes.app); done) | (apply asInts; (repeat first | assumption | exact ints_nil | apply Ints.app); done) | (apply asRows; (repeat first | assumption | exact Rows.nil | apply Rows.app); done) | (apply asScal; (first | apply allS1 | apply allS2 | apply allS3 | apply allS4) <;> (first | exact One.int | exact One.bool | assumption | exact Ints.one (by assumption) | exact Rows.one (by assumption) | exact Own.one (by assumption) | exact One.lit ⟨rfl, rfl, rfl⟩)) | exact litT rfl | exact litF rfl | omega | (simp only [List.length_append, List.length_cons, List.length_nil, List.length_set, List.length_reverse]; first | done | omega) | fail) : p := h
attribute [-go_sem] put_ne put_same
attribute [local go_sem ↓] put_if
theorem run_owned {base : Nat} {h : Heap} {v : AVal} {l : List Int} {W k s : Int} (hb : base ≤ h.length) (hI : Ints h v l) (hl : l.length ≤ 1000) :
    Ret prog raw base (.fn 50 [] []) [chV W v k s] h (fun r H => Ext h H ∧ ∃ x, r = chV W x k s ∧ OwnE encI 3 h.length H x l) := by
  have o := hI.one
  obtain ⟨h2, eh2⟩ : ∃ h2, h2 = h ++ [chB W v k s] ++ [chB 0 (.slice none 0 0) 0 0] := ⟨_, rfl⟩
  have x2 : Ext h h2 := by rw [eh2]; exact .app (.app .refl)
  have hl2 : h2.length = h.length + 2 := by rw [eh2]; simp
  have gc : h2[h.length]? = some (chB W v k s) := by rw [eh2]; exact get_app (get_eq rfl)
  have gr : h2[h.length + 1]? = some (chB 0 (.slice none 0 0) 0 0) := by rw [eh2]; exact get_eq (by simp)
  obtain ⟨x, H, e, xH, oX⟩ := run_dupI (base := base) (by omega) (hI.ext x2) hl
  have gcH := xH.get gc
  have grH := xH.get gr
  have hH := xH.len
  have ox := oX.one
  have gr2 : ∀ {b : ABlk}, (H.set h.length b)[h.length + 1]? = some (chB 0 (.slice none 0 0) 0 0) := fun {b} => by rw [List.getElem?_set_ne (by omega)]; exact grH
  unfold chB at *
  refine ret_raw func50 rfl (by kernel_rfl) ?_
  have hsp := @Nat.succ_ne_zero; repeat' (first | simp (disch := first | exact dschE92 | fail) only [go_sem, ↓reduceIte, hsp, ← eh2, gc, e, gcH, gr2] | refine WP_drw ?_ | refine cnd_intro (fun hsp => ?_) fun hsp => ?_)
  have y : Ext h H := x2.trans xH
  refine ⟨(y.set (Nat.le_refl _)).set (by omega), x, rfl, ?_⟩
  exact (((oX.low (by omega)).setBox gcH).setBox gr2)
theorem crd_xor {w x j : Nat} (hx : x < 2 ^ w) (hj : j < w) : x ^^^ 2 ^ j < 2 ^ w ∧ x ^^^ 2 ^ j ≠ x := by
  refine ⟨Nat.xor_lt_two_pow hx (Nat.pow_lt_pow_right (by decide) hj), fun e => ?_⟩
  have h1 := congrArg (fun n => n.testBit j) e
  simp only [Nat.testBit_xor, Nat.testBit_two_pow_self] at h1
  cases h2 : x.testBit j <;> rw [h2] at h1 <;> cases h1
theorem wvL_len {l : List Int} {n : Nat} : (wvL l n).length = n := lst_len
theorem wvL_at {l : List Int} {n t : Nat} (h : t < n) : (wvL l n).getD t 0 = l.getD (t % l.length) 0 := lst_get h
theorem wvL_small {w n : Nat} {l : List Int} (hw : w ≤ 8) (hl : 0 < l.length) (hC : Crds w l) (hn : n ≤ 48) : Small (wvL l n) := by
  have hp : 2 ^ w ≤ 256 := by have := Nat.pow_le_pow_right (show 0 < 2 by decide) hw; simpa using this
  refine ⟨by rw [wvL_len]; omega, fun x hx => ?_⟩
  obtain ⟨i, hi, rfl⟩ := List.getElem_of_mem hx
  rw [wvL_len] at hi
  have e := wvL_at (l := l) hi
  rw [getD_at (by rw [wvL_len]; exact hi)] at e
  rw [e]
  have := hC _ (getD_mem (Nat.mod_lt i hl))
  omega
set_option maxRecDepth 100000 in
set_option maxHeartbeats 4000000 in
theorem run_FaultCards {base : Nat} {h : Heap} {v0 : AVal} {l0 : List Int} {n1 n2 n3 : Int} (hB0 : Bytes h v0 l0) (q1 : 0 ≤ n1 ∧ n1 ≤ 255) (q2 : 0 ≤ n2 ∧ n2 ≤ 255) (q3 : 0 ≤ n3 ∧ n3 ≤ 255) :
    callL prog raw base (.fn 7 [] []) [v0, .int .u8 n1, .int .u8 n2, .int .u8 n3] h = some (.bool true, h) := by
  have hw0 := run_wound (base := h.length) hB0
  have hS0 : SpAt (h ++ [spB v0 l0 0]) h.length v0 l0 0 := SpAt.new hB0 rfl
  obtain ⟨_, H1, e1, w, k0, s0, l, x, k', y1, rfl, oX, hw, hl, hC⟩ := run_madeC (base := h.length) (W0 := 6) (C0 := 4) (by simp) hS0 (by omega) (by omega) (by omega)
  have x1 : Ext h H1 := y1.old'
  have hl1 := y1.len
  simp only [List.length_append, List.length_cons, List.length_nil] at hl1
  have ox := oX.one
  have hw6 : w ≤ 6 := by omega
  have hp : 2 ^ w ≤ 256 := by have := Nat.pow_le_pow_right (show 0 < 2 by decide) (show w ≤ 8 by omega); simpa using this
  have sl : Small l := ⟨by omega, fun z hz => by have := hC z hz; omega⟩
  have iX := own_ints oX sl
  obtain ⟨G1, eG1⟩ : ∃ G1, G1 = H1 ++ [chB (w : Int) x 0 0] := ⟨_, rfl⟩
  have xG1 : Ext H1 G1 := by rw [eG1]; exact .app .refl
  have hG1 : G1.length = H1.length + 1 := by rw [eG1]; simp
  have g1 : G1[H1.length]? = some (chB (w : Int) x 0 0) := by rw [eG1]; exact get_eq rfl
  obtain ⟨_, G2, e2, x2, xx, rfl, oY⟩ := run_owned (base := h.length) (W := (w : Int)) (k := 0) (s := 0) (by omega) (iX.ext xG1) (by omega)
  have hG2 := x2.len
  have oy := oY.one
  obtain ⟨m, em⟩ : ∃ m, m = l.length := ⟨_, rfl⟩
  rcases oY with (⟨_, e⟩ | ⟨id2, ver2, exx, gY, hid2, _⟩) | ⟨_, e⟩
  · rw [e] at hl; simp at hl
  · obtain ⟨G3, eG3⟩ : ∃ G3, G3 = G2 ++ [chB (w : Int) xx 0 0] := ⟨_, rfl⟩
    have x3 : Ext G2 G3 := by rw [eG3]; exact .app .refl
    have hG3 : G3.length = G2.length + 1 := by rw [eG3]; simp
    have g3 : G3[G2.length]? = some (chB (w : Int) xx 0 0) := by rw [eG3]; exact get_eq rfl
    have gY3 : G3[id2]? = some (srB l 3 ver2) := by rw [x3.get gY, rowE, flat_encI]
    -- which card, which thread, how many throws
    obtain ⟨k, ek⟩ := Int.eq_ofNat_of_zero_le (Int.tmod_nonneg (l.length : Int) q1.1)
    have hk : k < l.length := by have := Int.tmod_lt_of_pos n1 (b := (l.length : Int)) (by omega); omega
    obtain ⟨j, ej⟩ := Int.eq_ofNat_of_zero_le (Int.tmod_nonneg (w : Int) q2.1)
    have hj : j < w := by have := Int.tmod_lt_of_pos n2 (b := (w : Int)) (by omega); omega
    obtain ⟨n, en⟩ : ∃ n : Nat, 8 + n3.tmod 3 = (n : Int) := ⟨(8 + n3.tmod 3).toNat, by have := Int.tmod_nonneg 3 q3.1; omega⟩
    have hn : 8 ≤ n ∧ n ≤ 10 := by have a1 := Int.tmod_nonneg 3 q3.1; have a2 := Int.tmod_lt_of_pos n3 (b := 3) (by omega); omega
    have hck := hC _ (getD_mem hk)
    obtain ⟨c, ec⟩ : ∃ c : Nat, l.getD k 0 = (c : Int) := ⟨(l.getD k 0).toNat, by omega⟩
    have hcw : c < 2 ^ w := by omega
    obtain ⟨hx1, hx2⟩ := crd_xor hcw hj
    have hj2 : 2 ^ j < 2 ^ w := Nat.pow_lt_pow_right (by decide) hj
    obtain ⟨l2, el2⟩ : ∃ l2, l2 = l.set k ((c ^^^ 2 ^ j : Nat) : Int) := ⟨_, rfl⟩
    have hl2 : l2.length = l.length := by rw [el2, List.length_set]
    have hC2 : Crds w l2 := fun z hz => by
      rw [el2] at hz
      rcases List.mem_or_eq_of_mem_set hz with q | q
      · exact hC z q
      · rw [q]; omega
    have sl2 : Small l2 := ⟨by omega, fun z hz => by have := hC2 z hz; omega⟩
    obtain ⟨G4, eG4⟩ : ∃ G4, G4 = G3.set id2 (srB l2 3 ver2) := ⟨_, rfl⟩
    have hG4 : G4.length = G3.length := by rw [eG4, List.length_set]
    have xG4 : Ext G1 G4 := by rw [eG4]; exact (x2.trans x3).set hid2
    have hidl := lt_of_get gY
    have g4a := xG4.get g1
    have g4b : G4[G2.length]? = some (chB (w : Int) xx 0 0) := by rw [eG4, List.getElem?_set_ne (by omega)]; exact g3
    have oX4 := ((oX.ext xG1).ext xG4)
    have oY4 : Own encI 3 G1.length G4 xx l2 := .inr ⟨id2, ver2, by rw [hl2]; exact exx, by rw [eG4, List.getElem?_set_self (by omega), rowE, flat_encI], hid2, by omega⟩
    obtain ⟨_, G5, e5, x5, p, rfl, oP⟩ := run_weaveC (base := h.length) (w := w) (n := n) (by omega) (own_ints oX4 sl) (by omega) (by omega) hC (by omega)
    have hG5 := x5.len
    have op := oP.one
    obtain ⟨G6, eG6⟩ : ∃ G6, G6 = G5 ++ [⟨.cells [.int .i64 (w : Int), p] 93 false false, 0⟩] := ⟨_, rfl⟩
    have x6 : Ext G5 G6 := by rw [eG6]; exact .app .refl
    have hG6 : G6.length = G5.length + 1 := by rw [eG6]; simp
    have g6 : G6[G5.length]? = some ⟨.cells [.int .i64 (w : Int), p] 93 false false, 0⟩ := by rw [eG6]; exact get_eq rfl
    have x46 := x5.trans x6
    obtain ⟨_, G7, e7, x7, q, rfl, oQ⟩ := run_weaveC (base := h.length) (w := w) (n := n) (by omega) ((own_ints oY4 sl2).ext x46) (by omega) (by omega) hC2 (by omega)
    have hG7 := x7.len
    have oq := oQ.one
    obtain ⟨G8, eG8⟩ : ∃ G8, G8 = G7 ++ [⟨.cells [.int .i64 (w : Int), q] 93 false false, 0⟩] := ⟨_, rfl⟩
    have x8 : Ext G7 G8 := by rw [eG8]; exact .app .refl
    have hG8 : G8.length = G7.length + 1 := by rw [eG8]; simp
    have g8 : G8[G7.length]? = some ⟨.cells [.int .i64 (w : Int), q] 93 false false, 0⟩ := by rw [eG8]; exact get_eq rfl
    have x68 := x7.trans x8
    have g8p := x68.get g6
    have g6b := x46.get g4b
    have g8c := (x46.trans x68).get g4a
    have iP8 := (own_ints oP (wvL_small (by omega) (by omega) hC (by omega))).ext (x6.trans x68)
    have iQ8 := (own_ints oQ (wvL_small (by omega) (by omega) hC2 (by omega))).ext x8
    have lP8 : lenOpA prog G8 36 p = some (.int .i64 (n : Int)) := by have := lenI iP8; rwa [wvL_len] at this
    have lQ8 : lenOpA prog G8 36 q = some (.int .i64 (n : Int)) := by have := lenI iQ8; rwa [wvL_len] at this
    have cu1 := cvU q1
    have cu2 := cvU q2
    have cu3 := cvU q3
    have r1 : binA prog .rem 3 (.int .i64 n1) (.int .i64 (l.length : Int)) = some (.int .i64 (k : Int)) := by rw [bin_rem (by omega), ek]
    have r2 : binA prog .rem 3 (.int .i64 n2) (.int .i64 (w : Int)) = some (.int .i64 (j : Int)) := by rw [bin_rem (by omega), ej]
    have r3 : binA prog .rem 3 (.int .i64 n3) (.int .i64 3) = some (.int .i64 (n3.tmod 3)) := by rw [bin_rem (by omega)]
    have hr3 := Int.tmod_nonneg 3 q3.1
    have hr3' := Int.tmod_lt_of_pos n3 (b := 3) (by omega)
    have sh := fun t => shl_bit (t := t) (w := j) (by omega)
    have xr := fun t => xor_bits (t := t) (a := c) (b := 2 ^ j) (by omega) (by omega)
    have i2x : Ints G2 x l := (iX.ext xG1).ext x2
    have i3x : Ints G3 x l := i2x.ext x3
    have a2 : indexAddrA prog 36 xx (.int .i64 (k : Int)) = some (.ptr (some ⟨id2, ver2, k⟩)) := by
      rw [exx, adr_sl Fc.el36 Fc.ar36 (by omega) (by omega), Int.toNat_natCast, Nat.mul_one, Nat.zero_add]
    have d2 : loadP prog G3 3 (.ptr (some ⟨id2, ver2, k⟩)) = some (.int .i64 (c : Int)) := by
      rw [load_eq, Fc.ty3, gY3]
      rw [← ec]; exact ldB_ints hk
    have st : ∀ {K : ABlk → Heap}, stQ h.length id2 (some (srB l 3 ver2)) ver2 k [.int .i64 ((c ^^^ 2 ^ j : Nat) : Int)] K = some (K (srB l2 3 ver2)) := fun {K} => by
      rw [el2]; exact stQ_ints hk
    have g2a : G2[H1.length]? = some (chB (w : Int) x 0 0) := x2.get g1
    have g3a := x3.get g2a
    have i3l : lenOpA prog G3 36 x = some (.int .i64 (l.length : Int)) := lenI i3x
    unfold chB at *
    refine callL_run func7 rfl rfl ?_
    obtain ⟨G9, eG9⟩ : ∃ G9, G9 = G8 ++ [lmB 1 (n : Int) (.slice none 0 0) (.slice none 0 0)] := ⟨_, rfl⟩
    have x9 : Ext G8 G9 := by rw [eG9]; exact .app .refl
    have hG9 : G9.length = G8.length + 1 := by rw [eG9]; simp
    have g9 : G9[G8.length]? = some (lmB 1 (n : Int) (.slice none 0 0) (.slice none 0 0)) := by rw [eG9]; exact get_eq rfl
    have g9c := x9.get g8c
    have i9x : Ints G9 x l := (i3x.ext (.refl)).ext .refl |> fun _ => (((iX.ext xG1).ext xG4).ext ((x46.trans x68).trans x9))
    have i9l : lenOpA prog G9 36 x = some (.int .i64 (l.length : Int)) := lenI i9x
    unfold lmB at eG9
    have hsp := @Nat.succ_ne_zero; repeat' (first | simp (disch := first | exact dschE92 | fail) only [go_sem, ↓reduceIte, hsp, hw0, e1, ← eG1, g1, e2, ← eG3, g3, g3a, cu1, cu2, cu3, i3l, r1, r2, r3, en, a2, d2, sh, xr, gY3, st, ← eG4, g4a, e5, ← eG6, g6b, e7, ← eG8, g8p, lP8, g8, lQ8, ← eG9, g9c, i9l] | refine WP_drw ?_ | refine cnd_intro (fun hsp => ?_) fun hsp => ?_)
    refine WP_count [(18, 18), (91, 105)] 0 l.length (Nat.zero_le _) (fun _ i fr h' => fr 91 = .int .i64 (i : Int) ∧ ∃ pv, Ext G8 h' ∧ h'[G8.length]? = some (lmB 1 (n : Int) pv (.slice none 0 0)) ∧ OwnP (G8.length + 1) h' pv ((List.range i).map fun a : Nat => (⟨[0], (l.length : Int), (a : Int), false⟩ : Prt)) ∧ G8.length < h'.length) ?_ ?_ ?_
    · exact ⟨by (simp (disch := first | exact dschE92 | fail) only [go_sem, ↓reduceIte, Int.natCast_zero]; first | done | rfl), .slice none 0 0, x9, g9, OwnP.nil, by omega⟩
    · rintro i fr H hi0 hi hA ⟨p91, pv, xH, gH, oPH, hH⟩
      have p8 := hA 8 rfl
      have p9 := hA 9 rfl
      have p11 := hA 11 rfl
      have p12 := hA 12 rfl
      have p13 := hA 13 rfl
      have p15 := hA 15 rfl
      have p17 := hA 17 rfl
      have p90 := hA 90 rfl
      try simp (disch := first | exact dschE92 | fail) only [go_sem, ↓reduceIte] at p8 p9 p11 p12 p13 p15 p17 p90
      
      have hlt : ((i : Int) < (l.length : Int)) = True := eq_true (by omega)
      have gc := xH.get g8c
      have o1 := oPH.one
      have ixH : Ints H x l := (((iX.ext xG1).ext xG4).ext ((x46.trans x68).trans xH))
      have e1 : rowB [0] 0 = rowE encI 3 [0] 0 := by rw [rowB, rowE, flat_encI]
      have oR : Own encI 3 (G8.length + 1) (H ++ [rowB [0] 0]) (.slice (some ⟨H.length, 0, 0⟩) 1 1) [0] := .inr ⟨H.length, 0, rfl, by rw [e1]; exact get_eq rfl, by omega, by decide⟩
      obtain ⟨pv', H', a1, a2', a3, a4, a5, a6⟩ := ((oPH.ext (.app (t := [rowB [0] 0]) .refl)).ext (.app (t := [rowE encP 81 [⟨.slice (some ⟨H.length, 0, 0⟩) 1 1, (l.length : Int), (i : Int), false⟩] 0]) .refl)).snoc (base := h.length) (p := ⟨[0], (l.length : Int), (i : Int), false⟩) oR.app (by omega) (by simp; omega) (by simp; omega) (by simp)
      have gL3 := a6.box (i := G8.length) (get_app (get_app gH))
      simp only [List.length_append, List.length_cons, List.length_nil] at a3
      rw [List.length_append, List.length_append, List.length_cons, List.length_nil, List.length_cons, List.length_nil, Nat.zero_add, Nat.add_sub_cancel] at a1
      have bsW : ∀ {lit : Bool} {A : Heap}, bsA prog lit A 22 1 [(0, .agg [.slice (some ⟨H.length, 0, 0⟩) 1 1, .int .i64 (l.length : Int), .int .i64 (i : Int), .bool false])] = some (.slice (some ⟨A.length, 0, 0⟩) 1 1, A ++ [rowE encP 81 [⟨.slice (some ⟨H.length, 0, 0⟩) 1 1, (l.length : Int), (i : Int), false⟩] 0]) := fun {lit A} => by
        simp [bsA, rowOf, Fc.el22, fillA, repCells, AVal.isN, AVal.cells, splice, rowE, flat, encP, norm, AVal.scalar]
      unfold lmB at gH
      have hsp := @Nat.succ_ne_zero; repeat' (first | simp (disch := first | exact dschE92 | fail) only [go_sem, ↓reduceIte, hsp, p8, p9, p11, p12, p13, p15, p17, p90, p91, hlt, gH, gc, bsrI, bsW, a1, gL3] | refine WP_drw ?_ | refine cnd_intro (fun hsp => ?_) fun hsp => ?_)
      refine ⟨by (repeat first | exact Agree.refl | assumption | refine Agree.put rfl ?_ | refine Agree.put0 ?_ | refine Agree.sub rfl (by assumption) ?_), by omega, pv', (a4 _ (by omega) (xH.trans (.app (.app .refl)))).set (Nat.le_refl _), rfl, ?_, by omega⟩
      rw [List.map_append]
      exact a2'.setBox gL3
    · rintro fr H hA ⟨p91, pv, xH, gH, oPH, hH⟩
      have p8 := hA 8 rfl
      have p9 := hA 9 rfl
      have p11 := hA 11 rfl
      have p12 := hA 12 rfl
      have p13 := hA 13 rfl
      have p15 := hA 15 rfl
      have p17 := hA 17 rfl
      have p90 := hA 90 rfl
      try simp (disch := first | exact dschE92 | fail) only [go_sem, ↓reduceIte] at p8 p9 p11 p12 p13 p15 p17 p90
      
      have hlt : ((l.length : Int) < (l.length : Int)) = False := eq_false (by omega)
      have o1 := oPH.one
      have oPc : OwnP (G8.length + 1) H pv (crdP l.length) := oPH
      have lm4 : 1 ≤ l.length ∧ l.length ≤ 4 := by omega
      have smP : ∀ p ∈ crdP l.length, Small p.rib := fun p hp => small_rise (R := 1) (crd_part lm4 p hp)
      have rl : ∀ p ∈ crdP l.length, p.rib.length ≤ 1000 := fun p hp => by
        obtain ⟨i, hi, rfl⟩ := List.mem_map.1 hp
        simp
      have hc1 : chkM ⟨1, (n : Int), crdP l.length, []⟩ = 0 := crd_chk (k := k) lm4 hn (fun x hx => by simp at hx) (by simp)
      have lom1 : LomAt H (lomV 1 (n : Int) pv (.slice none 0 0)) ⟨1, (n : Int), crdP l.length, []⟩ := ⟨pv, _, rfl, oPc.parts (by rw [crdP_len]; omega) smP, Rows.nil⟩
      obtain ⟨b, eb⟩ : ∃ b : Brk, b = ((k : Int), 0, (n : Int) - 1) := ⟨_, rfl⟩
      have okb : brkOk ⟨1, (n : Int), crdP l.length, []⟩ b := by rw [eb]; exact ⟨by simp only; omega, by simp only [crdP_len]; omega, by simp only; omega, by simp only; omega, by simp only; omega⟩
      have val : splM ⟨1, (n : Int), crdP l.length, []⟩ b = (sptR ⟨1, (n : Int), crdP l.length, []⟩ b 1, 0) := by
        refine Prod.ext (sptR_eq hc1 (brkM_iff.2 okb)).symm ?_
        unfold splM; rw [if_neg (by simp [hc1]), if_neg (by simp [brkM_iff.2 okb])]
      obtain ⟨_, K2, ek2, xk2, sp, rfl, oSp⟩ := run_spoils (base := h.length) (b := b) (by omega) lom1 smP (by simp only [crdP_len]; omega) (by simp) (fun _ _ => Int.le_refl _) rl
      rw [val] at ek2 oSp
      rw [eb] at ek2
      simp only [encB] at ek2
      obtain ⟨S, eS⟩ : ∃ S, S = sptR ⟨1, (n : Int), crdP l.length, []⟩ b 1 := ⟨_, rfl⟩
      have lS : S.length ≤ 1000 := by
        have := sptR_len (L := ⟨1, (n : Int), crdP l.length, []⟩) (b := b) 1
        rw [eS]; simp only [Int.toNat_natCast] at this; omega
      have mS : ∀ t : Nat, t < n → (((0 : Int), (t : Int)) ∈ S ↔ t % l.length = k) := fun t ht => by
        rw [eS, sptR_mem]
        unfold splR
        simp only [eb, Int.toNat_natCast, crdP_at hk, wks, Bool.and_eq_true, decide_eq_true_eq]
        have e0 : ((t : Int).tmod (l.length : Int)) = ((t % l.length : Nat) : Int) := tmodN t l.length
        constructor
        · rintro ⟨_, _, _, h, _⟩; rw [e0] at h; omega
        · intro h; exact ⟨by omega, by omega, by omega, by rw [e0]; omega, by simp⟩
      rw [← eS] at oSp
      have osp := oSp.one
      have gK2 := xk2.get gH
      have hk2 := xk2.len
      unfold lmB at gH
      have hsp := @Nat.succ_ne_zero; repeat' (first | simp (disch := first | exact dschE92 | fail) only [go_sem, ↓reduceIte, hsp, p8, p9, p11, p12, p13, p15, p17, p90, p91, hlt, gH, ek2] | refine WP_drw ?_ | refine cnd_intro (fun hsp => ?_) fun hsp => ?_)
      obtain ⟨o2, eo2⟩ : ∃ o2, o2 = G8.length + 1 := ⟨_, rfl⟩
      refine WP_count [(8, 8), (20, 21), (118, 147)] 0 n (Nat.zero_le _) (fun _ t fr h' => fr 118 = .int .i64 (t : Int) ∧ ∃ sv, Ext G8 h' ∧ h'[G8.length]? = some (lmB 1 (n : Int) pv sv) ∧ OwnP o2 h' pv (crdP l.length) ∧ Own encS 56 o2 h' sv (crdS l.length k t) ∧ Own encT 101 o2 h' sp S ∧ o2 ≤ h'.length) ?_ ?_ ?_
      · exact ⟨by (simp (disch := first | exact dschE92 | fail) only [go_sem, ↓reduceIte, Int.natCast_zero]; first | done | rfl), .slice none 0 0, xH.trans xk2, gK2, by rw [eo2]; exact oPc.ext xk2, Own.nil, oSp.low (by omega), by omega⟩
      · rintro t fr2 H2 ht0 ht hB ⟨d118, sv, x2H, g2H, oP2, oS2, oT2, h2H⟩
        have d11 := hB 11 rfl
        have d13 := hB 13 rfl
        have d15 := hB 15 rfl
        have d17 := hB 17 rfl
        have d19 := hB 19 rfl
        have d117 := hB 117 rfl
        try simp (disch := first | exact dschE92 | fail) only [go_sem, ↓reduceIte, p11, p13, p15, p17] at d11 d13 d15 d17 d19 d117
        
        have hltt : ((t : Int) < (n : Int)) = True := eq_true (by omega)
        have gp2 := x2H.get g8p
        have gq2 := x2H.get g8
        have iP2 := iP8.ext x2H
        have iQ2 := iQ8.ext x2H
        have osv := oS2.one
        have oP1 := oP2.one
        have ltP : t < (wvL l n).length := by rw [wvL_len]; exact ht
        have ltQ : t < (wvL l2 n).length := by rw [wvL_len]; exact ht
        have vP := wvL_at (l := l) ht
        have vQ := wvL_at (l := l2) ht
        rw [hl2] at vQ
        have cT := fun base => run_containsT (base := base) (x := ((0 : Int), (t : Int))) (oT2.rows (by omega)) lS
        have mt := mS t ht
        have rm := Nat.mod_lt t (show 0 < l.length by omega)
        obtain ⟨bb, ebb⟩ : ∃ bb, bb = decide (t % l.length = k) := ⟨_, rfl⟩
        have key : (decide (((0 : Int), (t : Int)) ∈ S) = bb) ∧ (((wvL l n).getD t 0 = (wvL l2 n).getD t 0) = (bb = false)) := by
          rw [vP, vQ, ebb]
          refine ⟨by rw [Bool.eq_iff_iff, decide_eq_true_eq, decide_eq_true_eq]; exact mt, ?_⟩
          by_cases c1 : t % l.length = k
          · rw [decide_eq_true c1, c1, ec, el2, List.getD_eq_getElem?_getD (l := l.set _ _), List.getElem?_set_self hk]
            refine propext ⟨fun q => ?_, fun q => by cases q⟩
            simp only [Option.getD_some] at q
            omega
          · rw [decide_eq_false c1, el2, List.getD_eq_getElem?_getD (l := l.set _ _), List.getElem?_set_ne (fun q => c1 q.symm), ← List.getD_eq_getElem?_getD]
            simp
        obtain ⟨A2, eA2⟩ : ∃ A2, A2 = H2 ++ [rowE encS 56 [⟨0, (t : Int), (t : Int), bb⟩] 0] := ⟨_, rfl⟩
        have lS2 : (crdS l.length k t).length = t := crdS_len
        obtain ⟨sv', H', a1, a2', a3, a4, a5, a6⟩ := (oS2.app (T := [rowE encS 56 [⟨0, (t : Int), (t : Int), bb⟩] 0])).appendRX (P := prog) (x := .slice (some ⟨H2.length, 0, 0⟩) 1 1) (m := [⟨0, (t : Int), (t : Int), bb⟩]) (base := h.length) (t := 23) (Rows.own (get_eq rfl) rfl (by simp)) Fc.el23 encS_sc (by omega) (by simp; omega) (by simp) (by simp; omega)
        have kp : KeepO encS 56 _ H' := a6
        have gL4 := kp.box (i := G8.length) (get_app g2H)
        simp only [List.length_append, List.length_cons, List.length_nil] at a3
        have sg : ∀ {base : Nat} {H : Heap}, callL prog raw base (.fn 54 [] []) [.int .i64 0, .int .i64 (t : Int), .int .i64 (t : Int), .bool bb] H = some (.agg [.int .i64 0, .int .i64 (t : Int), .int .i64 (t : Int), .bool bb], H) := fun {base H} => run_sgt'
        have bs1 : ∀ {lit : Bool} {A : Heap}, bsA prog lit A 23 1 [(0, .agg [.int .i64 0, .int .i64 (t : Int), .int .i64 (t : Int), .bool bb])] = some (.slice (some ⟨A.length, 0, 0⟩) 1 1, A ++ [rowE encS 56 [⟨0, (t : Int), (t : Int), bb⟩] 0]) := fun {lit A} => bsS1 (s := ⟨0, (t : Int), (t : Int), bb⟩)
        have oP4 := ((oP2.ext (.app (t := [rowE encS 56 [⟨0, (t : Int), (t : Int), bb⟩] 0]) .refl))).mapH (H' := H') (fun _ _ y => kp.own y (by decide)) (fun _ _ y => kp.own y (by decide))
        have oT4 := kp.own oT2.app (by decide)
        unfold lmB at g2H
        have fin : ∀ {H3 : Heap}, H3 = H'.set G8.length (lmB 1 (n : Int) pv sv') → Ext G8 H3 ∧ OwnP o2 H3 pv (crdP l.length) ∧ Own encS 56 o2 H3 sv' (crdS l.length k (t + 1)) ∧ Own encT 101 o2 H3 sp S := by
          rintro H3 rfl
          refine ⟨(a4 _ (by omega) (x2H.trans (.app .refl))).set (Nat.le_refl _), oP4.setBox gL4, ?_, oT4.setBox gL4⟩
          have := a2'.setBox (k := lmB 1 (n : Int) pv sv') gL4
          rwa [crdS_succ, ← ebb]
        cases bb with
        | true =>
          have k1 : (((0 : Int), (t : Int)) ∈ S) = True := eq_true (of_decide_eq_true key.1)
          have k2 : ((wvL l n).getD t 0 = (wvL l2 n).getD t 0) = False := by rw [key.2]; simp
          have hsp := @Nat.succ_ne_zero; repeat' (first | simp (disch := first | exact dschE92 | fail) only [go_sem, ↓reduceIte, hsp, d11, d13, d15, d17, d19, d117, d118, p8, p9, p11, p12, p13, p15, p17, p90, p91, hltt, gp2, gq2, k2, cT, k1, g2H, sg, bs1, a1, gL4, eq_self, decide_true, decide_false, neB, not_true, Bool.not_false, not_false_iff] | refine WP_drw ?_ | refine cnd_intro (fun hsp => ?_) fun hsp => ?_)
          obtain ⟨f1, f2, f3, f4⟩ := fin rfl
          exact ⟨by (repeat first | exact Agree.refl | assumption | refine Agree.put rfl ?_ | refine Agree.put0 ?_ | refine Agree.sub rfl (by assumption) ?_), by omega, sv', f1, rfl, f2, f3, f4, by omega⟩
        | false =>
          have k1 : (((0 : Int), (t : Int)) ∈ S) = False := eq_false (of_decide_eq_false key.1)
          have k2 : ((wvL l n).getD t 0 = (wvL l2 n).getD t 0) = True := by rw [key.2]; simp
          have hsp := @Nat.succ_ne_zero; repeat' (first | simp (disch := first | exact dschE92 | fail) only [go_sem, ↓reduceIte, hsp, d11, d13, d15, d17, d19, d117, d118, p8, p9, p11, p12, p13, p15, p17, p90, p91, hltt, gp2, gq2, k2, cT, k1, g2H, sg, bs1, a1, gL4, eq_self, decide_true, decide_false, neB, not_true, Bool.not_false, not_false_iff] | refine WP_drw ?_ | refine cnd_intro (fun hsp => ?_) fun hsp => ?_)
          obtain ⟨f1, f2, f3, f4⟩ := fin rfl
          exact ⟨by (repeat first | exact Agree.refl | assumption | refine Agree.put rfl ?_ | refine Agree.put0 ?_ | refine Agree.sub rfl (by assumption) ?_), by omega, sv', f1, rfl, f2, f3, f4, by omega⟩
      · rintro fr2 H2 hB ⟨d118, sv, x2H, g2H, oP2, oS2, oT2, h2H⟩
        have d11 := hB 11 rfl
        have d13 := hB 13 rfl
        have d15 := hB 15 rfl
        have d17 := hB 17 rfl
        have d19 := hB 19 rfl
        have d117 := hB 117 rfl
        try simp (disch := first | exact dschE92 | fail) only [go_sem, ↓reduceIte, p11, p13, p15, p17] at d11 d13 d15 d17 d19 d117
        
        have hltt : ((n : Int) < (n : Int)) = False := eq_false (by omega)
        obtain ⟨c0, c1, c2, b2, c3, c4⟩ := crd_law lm4 hn hk
        have lomC : LomAt H2 (lomV 1 (n : Int) pv sv) (crdL l.length k n) := ⟨pv, sv, rfl, oP2.parts (by rw [crdP_len]; omega) smP, oS2.rows (by rw [crdS_len]; omega)⟩
        have okC := lomOk_of c0
        obtain ⟨_, K3, ek3, xk3, mv, rfl, oM⟩ := run_must (base := h.length) (by omega) lomC okC
        have hk3 := xk3.len
        obtain ⟨_, K4, ek4, xk4, fv, rfl, oF⟩ := run_fewest (base := h.length) (by omega) (lomC.ext xk3) okC
        rw [c2] at ek3 oM
        rw [c3] at ek4 oF
        simp only at ek3 ek4 oM oF
        have om := oM.one
        have of := oF.one
        have osv := oS2.one
        have oP1 := oP2.one
        have gK3 := xk3.get g2H
        have gK4 := xk4.get gK3
        unfold lmB at g2H
        have iM : Ints K4 mv [(k : Int)] := (own_ints oM ⟨by simp, fun z hz => by rw [List.mem_singleton] at hz; omega⟩).ext xk4
        have rF := (oF.rows (by simp)).app (T := [rowB [(k : Int)] 0])
        have lF : ∀ {T : Heap}, lenOpA prog (K4 ++ T) 60 fv = some (.int .i64 1) := fun {T} => ((oF.rows (by simp)).app (T := T)).len Fc.el60
        have aF : indexAddrA prog 60 fv (.int .i64 0) = some (elAdr fv encB.z 0 0) := by
          have := rF.addr (P := prog) (i := 0) Fc.el60 Fc.ar60 (by omega) (by simp)
          exact this
        have fF : fieldAddrA prog 75 (elAdr fv encB.z 0 0) 0 = some (elAdr fv encB.z 0 0) := elAdr_field (P := prog) (i := 0) (o := 0) (off := 0) (q := false) (n := 1) rF (by simp) (by kernel_rfl) (by decide)
        have dF : ∀ {T : Heap}, loadP prog (K4 ++ T) 3 (elAdr fv encB.z 0 0) = some (.int .i64 (k : Int)) := fun {T} => by
          have := ((oF.rows (by simp)).app (T := T)).cell (P := prog) Fc.ty3 (i := 0) (o := 0) (x := b2) (a := .int .i64 (k : Int)) rfl (by rw [← c4]; rfl)
          exact this
        have eqv : ∀ {base : Nat}, callL prog raw base (.fn 25 [] []) [mv, .slice (some ⟨K4.length, 0, 0⟩) 1 1] (K4 ++ [rowB [(k : Int)] 0]) = some (.bool (decide ([(k : Int)] = [(k : Int)])), K4 ++ [rowB [(k : Int)] 0]) := fun {base} => run_eqI iM.app (slice_row rfl rfl ⟨by simp, fun z hz => by rw [List.mem_singleton] at hz; omega⟩)
        have hsp := @Nat.succ_ne_zero; repeat' (first | simp (disch := first | exact dschE92 | fail) only [go_sem, ↓reduceIte, hsp, d11, d13, d15, d17, d19, d117, d118, p8, p9, p11, p12, p13, p15, p17, p90, p91, hltt, g2H, ek3, gK3, ek4, bsrI, eqv, lF, aF, fF, dF, run_awake, eq_self, decide_true] | refine WP_drw ?_ | refine cnd_intro (fun hsp => ?_) fun hsp => ?_)
        exact fB rfl ((((((x1.trans xG1).trans xG4).trans x46).trans x68).trans ((x2H.trans xk3).trans xk4)).app)
  · rw [e] at hl; simp at hl
end Go.AM
