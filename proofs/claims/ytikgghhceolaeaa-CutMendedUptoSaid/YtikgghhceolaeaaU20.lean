/-
  Contracts: slices.Insert of one number into one's own numbers, whether there is room or not.
-/
import Derived.Test.YtikgghhceolaeaaU19
import Derived.Test.YtikgghhceolaeaaU18
set_option linter.unusedSimpArgs false
set_option linter.unusedVariables false
namespace Go.AM
open Go.Proofs.Try
theorem dschN64 {p : Prop} (h : p := by first | exact Nat.ne_of_beq_eq_false rfl | assumption | (apply asOne; (first | exact One.int | exact One.bool | assumption | exact Ints.one (by assumption) | exact Rows.one (by assumption) | exact Own.one (by assumption) | exact One.lit ⟨rfl, rfl, rfl⟩)) | (apply asInts; (repeat first | assumption | exact ints_nil | apply Ints.app); done) | (apply asRows; (repeat first | assumption | exact Rows.nil | apply Rows.app); done) | (apply asScal; (first | apply allS1 | apply allS2 | apply allS3 | apply allS4) <;> (first | exact One.int | exact One.bool | assumption | exact Ints.one (by assumption) | exact Rows.one (by assumption) | exact Own.one (by assumption) | exact One.lit ⟨rfl, rfl, rfl⟩)) | exact litT rfl | exact litF rfl | omega | (simp only [List.length_append, List.length_cons, List.length_nil, List.length_set, List.length_reverse]; first | done | omega) | fail) : p := h
attribute [-go_sem] put_ne put_same
attribute [local go_sem ↓] put_if
def insRen : Go.Shelf.Ren := ⟨fun x => match x with
    | 21 => 79
    | 27 => 124
    | 28 => 125
    | 35 => 138
    | 39 => 143
    | n => n,
  fun x => match x with
    | 22 => 22
    | 3 => 3
    | 4 => 4
    | n => n,
  fun n => n⟩
theorem insB21 : f79 = Go.Proofs.Body2.n21 insRen := by kernel_rfl
theorem insE21 : prog.funcs[(79 : Nat)]? = some (Go.Proofs.Body2.n21 insRen) := by rw [← insB21]; exact func79
theorem insF21 : prog.funcs[insRen.f 21]? = some (Go.Proofs.Body2.n21 insRen) := by
  have e : insRen.f 21 = 79 := rfl
  rw [e]; exact insE21
theorem insB27 : f124 = Go.Proofs.Body2.n27 insRen := by kernel_rfl
theorem insE27 : prog.funcs[(124 : Nat)]? = some (Go.Proofs.Body2.n27 insRen) := by rw [← insB27]; exact func124
theorem insF27 : prog.funcs[insRen.f 27]? = some (Go.Proofs.Body2.n27 insRen) := by
  have e : insRen.f 27 = 124 := rfl
  rw [e]; exact insE27
theorem insB28 : f125 = Go.Proofs.Body2.n28 insRen := by kernel_rfl
theorem insE28 : prog.funcs[(125 : Nat)]? = some (Go.Proofs.Body2.n28 insRen) := by rw [← insB28]; exact func125
theorem insF28 : prog.funcs[insRen.f 28]? = some (Go.Proofs.Body2.n28 insRen) := by
  have e : insRen.f 28 = 125 := rfl
  rw [e]; exact insE28
theorem insB35 : f138 = Go.Proofs.Body2.n35 insRen := by kernel_rfl
theorem insE35 : prog.funcs[(138 : Nat)]? = some (Go.Proofs.Body2.n35 insRen) := by rw [← insB35]; exact func138
theorem insF35 : prog.funcs[insRen.f 35]? = some (Go.Proofs.Body2.n35 insRen) := by
  have e : insRen.f 35 = 138 := rfl
  rw [e]; exact insE35
theorem insB39 : f143 = Go.Proofs.Body2.n39 insRen := by kernel_rfl
theorem insE39 : prog.funcs[(143 : Nat)]? = some (Go.Proofs.Body2.n39 insRen) := by rw [← insB39]; exact func143
theorem insF39 : prog.funcs[insRen.f 39]? = some (Go.Proofs.Body2.n39 insRen) := by
  have e : insRen.f 39 = 143 := rfl
  rw [e]; exact insE39
theorem insT0 : insRen.t 0 = 0 := rfl
theorem insT3 : insRen.t 3 = 3 := rfl
theorem insT4 : insRen.t 4 = 4 := rfl
theorem insT22 : insRen.t 22 = 22 := rfl
theorem insLays : Go.Proofs.Lays2.n21 prog insRen := by
  refine { mixed := by kernel_rfl, f21 := insF21, f27 := insF27, f28 := insF28, f35 := insF35, f39 := insF39, t0 := ?_, a0 := ?_, z0 := ?_, v0 := ?_, t3 := ?_, a3 := ?_, z3 := ?_, v3 := ?_, t4 := ?_, a4 := ?_, z4 := ?_, v4 := ?_, t22 := ?_, a22 := ?_, z22 := ?_, v22 := ?_, i3 := ?_ }
  · rw [insT0]; exact underlying0
  · intro w; rw [insT0]; exact isAgg0 w
  · intro w; rw [insT0]; exact sizeOf0 w
  · intro w; rw [insT0]; exact zeroValue0 w
  · rw [insT3]; exact underlying3
  · intro w; rw [insT3]; exact isAgg3 w
  · intro w; rw [insT3]; exact sizeOf3 w
  · intro w; rw [insT3]; exact zeroValue3 w
  · rw [insT4]; exact underlying4
  · intro w; rw [insT4]; exact isAgg4 w
  · intro w; rw [insT4]; exact sizeOf4 w
  · intro w; rw [insT4]; exact zeroValue4 w
  · rw [insT22, insT3]; exact underlying22
  · intro w; rw [insT22]; exact isAgg22 w
  · intro w; rw [insT22]; exact sizeOf22 w
  · intro w; rw [insT22]; exact zeroValue22 w
  · rw [insT3]; kernel_rfl
theorem insLaw : InsF prog 79 3 := by
  have h := insF_of insLays
  have e : insRen.f 21 = 79 := rfl
  rw [e, insT3] at h
  exact h
/-- A number is appended to one's own numbers. -/
theorem snocIE {b base : Nat} {A : Heap} {w x : AVal} {l : List Int} {r : Int} (hO : OwnE encI 3 b A w l) (hx : Rows encI A x [r]) (hb : base ≤ b) (hbh : b ≤ A.length) (hl : l.length ≤ 1000000) :
    ∃ w' H, appendA prog base A 22 w x = some (w', H) ∧ OwnE encI 3 b H w' (l ++ [r]) ∧ A.length ≤ H.length ∧ (∀ G, G.length ≤ b → Ext G A → Ext G H) ∧ KeepO encI 3 A H := by
  have hx1 := hx.lenA
  have hx2 := hx.firstN
  have fl : (flat encI [r]).all AVal.scalar = true := flat_scalar encI_sc _
  simp only [List.length_singleton] at hx1 hx2
  rcases hO with q | ⟨rfl, rfl⟩
  · obtain ⟨w', H, a1, a2, a3, a4, -, a6⟩ := q.appendRX (P := prog) (base := base) (t := 22) hx Fc.el22 encI_sc hb hbh (by simp) (by simp; omega)
    exact ⟨w', H, a1, .inl a2, a3, a4, a6⟩
  · refine ⟨_, _, ?_, .inl (.inr ⟨A.length, 0, rfl, get_eq rfl, hbh, by simp⟩), by simp, fun G _ g => g.app, fun i y hi _ => get_app hi⟩
    have hx1' : lenA 1 x = some 1 := hx1
    have hx2' : firstN A 1 1 x = some (flat encI [r]) := hx2
    simp only [appendA, Fc.el22, hx1', hx2', fl, if_true]
    rfl
theorem run_insU {base b : Nat} {h : Heap} {v : AVal} {F : List Int} {i id2 : Nat} {x : Int} (hO : OwnE encI 3 b h v F) (hg2 : h[id2]? = some ⟨.cells [.int .i64 x] 3 true false, 0⟩) (hv2 : ∀ r n c, v = .slice (some r) n c → r.id ≠ id2) (hb : base ≤ b) (hbh : b ≤ h.length) (hi : i ≤ F.length) (hl : F.length ≤ 1000) :
    ∃ w H, callL prog raw base (.fn 79 [] []) [v, .int .i64 (i : Int), .slice (some ⟨id2, 0, 0⟩) 1 1] h = some (w, H) ∧ OwnE encI 3 b H w (F.take i ++ x :: F.drop i) ∧ h.length ≤ H.length ∧ (∀ G, G.length ≤ b → Ext G h → Ext G H) ∧ KeepO encI 3 h H := by
  have hx : Rows encI h (.slice (some ⟨id2, 0, 0⟩) 1 1) [x] := Rows.own (E := encI) (e := 3) (by rw [rowE, flat_encI]; exact hg2) rfl (by simp)
  have hl2 : ∀ {H : Heap}, lenOpA prog H 22 (.slice (some ⟨id2, 0, 0⟩) 1 1) = some (.int .i64 1) := fun {H} => by simp [lenOpA, Fc.el22, lenA]
  by_cases c : i < F.length
  · obtain ⟨id, ver, rfl, g1, hid, -⟩ : ∃ id ver, v = .slice (some ⟨id, ver, 0⟩) F.length F.length ∧ h[id]? = some (rowE encI 3 F ver) ∧ b ≤ id ∧ True := by
      rcases hO with (⟨_, q⟩ | ⟨i, v, q, gi, hi, _⟩) | ⟨_, q⟩
      · rw [q] at c; simp at c
      · exact ⟨i, v, q, gi, hi, trivial⟩
      · rw [q] at c; simp at c
    have g1' := g1
    rw [rowE, flat_encI] at g1'
    have hne := hv2 _ _ _ rfl
    have hsc : (AVal.int .i64 x :: ints F).all AVal.scalar = true := by
      rw [List.all_cons, ints_scalar]; rfl
    have e := callL_ins (P := prog) (raw := raw) (base := base) (m2 := 1) (i := (i : Int)) (n := F.length) func79 (by kernel_rfl) (by kernel_rfl) insLaw g1' hg2 (by simp [ints]) (by omega) (by omega) hne (by omega) (by omega) hsc
    rw [Int.toNat_natCast] at e
    have ec : (ints F).take i ++ AVal.int .i64 x :: (ints F).drop i = ints (F.take i ++ x :: F.drop i) := by simp [ints]
    rw [ec] at e
    have hlid := lt_of_get g1
    have hlen : (F.take i ++ x :: F.drop i).length = F.length + 1 := by rw [List.length_append, List.length_cons, List.length_take, List.length_drop]; omega
    refine ⟨_, _, e, .inl (.inr ⟨id, ver + 1, by rw [hlen], by rw [List.getElem?_set_self hlid, rowE, flat_encI], hid, by rw [hlen]; omega⟩), by rw [List.length_set]; exact Nat.le_refl _, fun G hG g => g.set (by omega), fun j y hj hy => ?_⟩
    rw [List.getElem?_set_ne]
    · exact hj
    · rintro rfl
      rw [g1] at hj
      exact hy F ver (Option.some.inj hj).symm
  · obtain rfl : i = F.length := by omega
    rw [List.take_length, List.drop_length]
    obtain ⟨w', H, ea, a2, a3, a4, a5⟩ := snocIE (base := base) hO hx hb hbh (by omega)
    have ov := hO.one
    have iv : Ints h v F → True := fun _ => trivial
    have hlv : lenOpA prog h 22 v = some (.int .i64 (F.length : Int)) := (hO.rows (by omega)).len Fc.el22
    have t0 : ((1 : Int) = 0) = False := eq_false (by omega)
    obtain ⟨sv, hsl⟩ : ∃ sv, sliceA prog 22 v (some (.int .i64 (F.length : Int))) none none = some sv := by
      rcases hO with (⟨rfl, rfl⟩ | ⟨j, ver, rfl, gi, hi, _⟩) | ⟨rfl, rfl⟩
      · exact ⟨.slice none 0 0, by simp [sliceA, Fc.ar22, Fc.el22, optB, boundA]⟩
      · exact ⟨_, sl_from (id := j) (ver := ver) (o := 0) (n := F.length) (k := F.length) (lo := (F.length : Int)) (by omega) (by omega) (by omega)⟩
      · exact ⟨.emp, by simp [sliceA, Fc.ar22, Fc.el22, optB, boundA]⟩
    have hq : insQ f79 [v, .int .i64 (F.length : Int), .slice (some ⟨id2, 0, 0⟩) 1 1] = false := by
      unfold insQ
      rw [Bool.and_eq_false_iff]
      right
      rcases hO with (⟨rfl, rfl⟩ | ⟨j, ver, rfl, gi, hi, _⟩) | ⟨rfl, rfl⟩
      · rfl
      · simp
      · rfl
    have key : Ret prog raw base (.fn 79 [] []) [v, .int .i64 (F.length : Int), .slice (some ⟨id2, 0, 0⟩) 1 1] h (fun w K => w = w' ∧ K = H) := by
      refine ret_rawQ func79 rfl (by kernel_rfl) ?_ hq
      have hsp := @Nat.succ_ne_zero; repeat' (first | simp (disch := first | exact dschN64 | fail) only [go_sem, ↓reduceIte, hsp, hsl, hl2, t0, hlv, eq_self, ea] | refine WP_drw ?_ | refine cnd_intro (fun hsp => ?_) fun hsp => ?_)
    obtain ⟨w, K, e, rfl, rfl⟩ := key
    exact ⟨w, K, e, a2, a3, a4, a5⟩
end Go.AM
/-
  CutMended, walked.
-/
namespace Go.AM
open Go.Proofs.Try
theorem dschN65 {p : Prop} (h : p := by first | exact Nat.ne_of_beq_eq_false rfl | assumption | (apply asOne; (first | exact One.int | exact One.bool | assumption | exact Ints.one (by assumption) | exact Rows.one (by assumption) | exact Own.one (by assumption) | exact One.lit ⟨rfl, rfl, rfl⟩)) | (apply asSp; (repeat first | assumption | apply SpAt.set | (refine SpAt.new ?_ (by (first | rfl | (simp only [List.length_append, List.length_cons, List.length_nil, List.length_set]; done) | (simp only [List.length_append, List.length_cons, List.length_nil, List.length_set]; omega)))) | apply SpAt.app | apply Bytes.app); done) | (apply asBytes; (repeat first | assumption | apply Bytes.app); done) | (apply asInts; (repeat first | assumption | exact ints_nil | apply Ints.app); done) | (apply asRows; (repeat first | assumption | exact Rows.nil | apply Rows.app); done) | (apply asScal; (first | apply allS1 | apply allS2 | apply allS3 | apply allS4) <;> (first | exact One.int | exact One.bool | assumption | exact Ints.one (by assumption) | exact Rows.one (by assumption) | exact Own.one (by assumption) | exact One.lit ⟨rfl, rfl, rfl⟩)) | exact litT rfl | exact litF rfl | omega | (simp only [List.length_append, List.length_cons, List.length_nil, List.length_set, List.length_reverse]; first | done | omega) | fail) : p := h
attribute [-go_sem] put_ne put_same
attribute [local go_sem ↓] put_if
set_option maxRecDepth 100000 in
set_option maxHeartbeats 8000000 in
theorem run_CutMended {base : Nat} {h : Heap} {v0 : AVal} {l0 : List Int} {n1 : Int} (hB0 : Bytes h v0 l0) (q1 : 0 ≤ n1 ∧ n1 ≤ 255) :
    callL prog raw base (.fn 14 [] []) [v0, .int .u8 n1] h = some (.bool true, h) := by
  have o0 := hB0.one
  have hw0 := run_wound (base := h.length) hB0
  obtain ⟨H0, eH0⟩ : ∃ H0, H0 = h ++ [spB v0 l0 0] := ⟨_, rfl⟩
  rw [← eH0] at hw0
  have hS : SpAt H0 h.length v0 l0 0 := by rw [eH0]; exact SpAt.new hB0 rfl
  have l00 : H0.length = h.length + 1 := by rw [eH0]; simp
  have x00 : Ext h H0 := by rw [eH0]; exact .app .refl
  obtain ⟨_, H1, e1, L, F, W, fv, wv, k1, rfl, hk1, p1, oF, oW, hR, hLA, hFn, hWn⟩ := run_LMadeD (base := h.length) (A := 40) (B := 10) (D := 6) (by omega) hS (by omega) (by omega) (by omega) (by omega)
  have xh1 : Ext h H1 := Ext.trans (x00.set (Nat.le_refl _)) p1
  have lH1 := p1.len
  have ofv := oF.one
  have owv := oW.one
  obtain ⟨R, eR⟩ : ∃ R : Rib, R = ⟨L, F, W⟩ := ⟨_, rfl⟩
  rw [← eR] at hR
  have hL := hR.L
  have hnF := hR.nF
  have hnW := hR.nW
  have hrF := hR.F
  have eL : L = R.L := by rw [eR]
  have eF : F = R.F := by rw [eR]
  have eW : W = R.W := by rw [eR]
  subst eL eF eW
  clear eR
  obtain ⟨G, eG⟩ : ∃ G, G = H1 ++ [ribB R.L fv wv] := ⟨_, rfl⟩
  have xG : Ext H1 G := by rw [eG]; exact .app .refl
  have gG : G[H1.length]? = some (ribB R.L fv wv) := by rw [eG]; exact get_eq rfl
  have lG : G.length = H1.length + 1 := by rw [eG]; simp
  have smF : Small R.F := ⟨by omega, fun y hy => by have := hrF y hy; omega⟩
  have iFG : Ints G fv R.F := (own_ints oF smF).ext xG
  have aG : RibAt G (.agg [.int .i64 R.L, fv, wv]) R := rib_own hR (.inl (oF.ext xG)) (.inl (oW.ext xG))
  have hc := chkR_iff.2 hR
  have eal : ∀ {R' : Rib}, RibOk R' → allE R' = valD R' 0 := fun h' => by unfold allE; rw [if_neg (fun q => q (chkR_iff.2 h'))]
  obtain ⟨u, eu⟩ : ∃ u : Int, u = n1.tmod R.L := ⟨_, rfl⟩
  have hu : 0 ≤ u ∧ u ≤ R.L - 1 := by
    rw [eu, Int.tmod_eq_emod_of_nonneg q1.1]
    have := Int.emod_nonneg n1 (show R.L ≠ 0 by omega)
    have := Int.emod_lt_of_pos n1 (show 0 < R.L by omega)
    omega
  have mr : binA prog .rem 3 (.int .i64 n1) (.int .i64 R.L) = some (.int .i64 u) := by rw [bin_rem (by omega), eu]
  clear eu
  obtain ⟨_, Z1, c1, z1, u1, rfl, oB⟩ := run_Best (base := h.length) (h := G) (by omega) aG (by omega)
  have m1 := z1.len
  have ou1 := oB.one
  rw [eal hR, hc] at c1
  have g1 := z1.get gG
  obtain ⟨_, Z2, c2, z2, fw, ww, rfl, of1, ow1⟩ := run_own (base := h.length) (h := Z1) (by omega) (aG.ext z1) (by omega) (by omega)
  have m2 := z2.len
  have ofw := of1.one
  have oww := ow1.one
  obtain ⟨Z3, eZ3⟩ : ∃ Z3, Z3 = Z2 ++ [ribB R.L fw ww] := ⟨_, rfl⟩
  have z3 : Ext Z2 Z3 := by rw [eZ3]; exact .app .refl
  have g3 : Z3[Z2.length]? = some (ribB R.L fw ww) := by rw [eZ3]; exact get_eq rfl
  have lZ3 : Z3.length = Z2.length + 1 := by rw [eZ3]; simp
  have gR3 := (z2.trans z3).get g1
  have aR3 := aG.ext ((z1.trans z2).trans z3)
  obtain ⟨fv', wv', eqv, iF3, iW3⟩ := id aR3
  simp only [AVal.agg.injEq, List.cons.injEq, and_true, true_and] at eqv
  obtain ⟨rfl, rfl⟩ := eqv
  have cb := fun base => run_bsearch (base := base) (u := u) iF3 hR.s (by omega)
  have f3 := of1.ext z3
  have w3 := ow1.ext z3
  obtain ⟨i, ei⟩ : ∃ i, i = (lowL R.F u).length := ⟨_, rfl⟩
  have hil : i ≤ R.F.length := by rw [ei]; exact low_le
  have xh3 : Ext h Z3 := ((((xh1.trans xG).trans z1).trans z2).trans z3)
  rw [← ei] at cb
  unfold ribB at eG gG g1 eZ3 g3 gR3
  by_cases cu : u ∈ R.F
  · rw [decide_eq_true cu] at cb
    have hlt : i < R.F.length := by rw [ei]; exact (List.getElem?_eq_some_iff.1 (low_at hR.s cu)).1
    obtain ⟨id5, ver5, rfl, gw5, hid5, -⟩ : ∃ id ver, fw = .slice (some ⟨id, ver, 0⟩) R.F.length R.F.length ∧ Z3[id]? = some (iB R.F ver) ∧ Z1.length ≤ id ∧ True := by
      rcases f3 with (⟨_, q⟩ | ⟨i, v, q, gi, hi, _⟩) | ⟨_, q⟩
      · rw [q] at cu; cases cu
      · exact ⟨i, v, q, by rw [gi, rowE, flat_encI], hi, trivial⟩
      · rw [q] at cu; cases cu
    have lid5 := lt_of_get gw5
    obtain ⟨_, Z4, c4, rfl, eZ4⟩ := run_delete (base := h.length) gw5 (by omega) hlt (by omega)
    have lZ4 : Z4.length = Z3.length := by rw [eZ4, List.length_set]
    have hne : id5 ≠ Z2.length := by
      rintro rfl
      rw [gw5] at g3
      simp [srB] at g3
    have g4 : Z4[Z2.length]? = some ⟨.cells [.int .i64 R.L, .slice (some ⟨id5, ver5, 0⟩) R.F.length R.F.length, ww] 25 false false, 0⟩ := by rw [eZ4, List.getElem?_set_ne hne]; exact g3
    obtain ⟨Z5, eZ5⟩ : ∃ Z5, Z5 = Z4.set Z2.length ⟨.cells [.int .i64 R.L, .slice (some ⟨id5, ver5, 0⟩) (R.F.length - 1) R.F.length, ww] 25 false false, 0⟩ := ⟨_, rfl⟩
    have lZ5 : Z5.length = Z3.length := by rw [eZ5, List.length_set, lZ4]
    have x5 : Ext Z1 Z5 := by rw [eZ5, eZ4]; exact ((z2.trans z3).set (by omega)).set (by omega)
    have g5 : Z5[Z2.length]? = some ⟨.cells [.int .i64 R.L, .slice (some ⟨id5, ver5, 0⟩) (R.F.length - 1) R.F.length, ww] 25 false false, 0⟩ := by rw [eZ5, List.getElem?_set_self (by omega)]
    have gi5 : Z5[id5]? = some (iB (R.F.eraseIdx i ++ [0]) ver5) := by rw [eZ5, List.getElem?_set_ne (fun q => hne q.symm), eZ4, List.getElem?_set_self (by omega)]
    have gR5 := x5.get g1
    have w5 : OwnE encW 49 Z1.length Z5 ww R.W := by
      rw [eZ5]
      refine OwnE.setBox ?_ g4
      rw [eZ4]
      exact w3.setRow (E := encI) (e := 3) (l := R.F) (ver := ver5) (by rw [rowE, flat_encI]; exact gw5) (by decide)
    have hRd := hR.del cu
    have eD : delR R u = ⟨R.L, R.F.eraseIdx i, R.W⟩ := by unfold delR; rw [ei]
    have smD : Small (R.F.eraseIdx i) := ⟨by have := List.length_eraseIdx_le R.F i; omega, fun y hy => smF.2 y (List.mem_of_mem_eraseIdx hy)⟩
    have hel : (R.F.eraseIdx i).length = R.F.length - 1 := by rw [List.length_eraseIdx, if_pos hlt]
    have aD : RibAt Z5 (.agg [.int .i64 R.L, .slice (some ⟨id5, ver5, 0⟩) (R.F.length - 1) R.F.length, ww]) (delR R u) := by
      rw [eD]
      refine ⟨_, _, rfl, Rows.ints ?_ smD.2, w5.rows (by omega)⟩
      show Rows encI Z5 _ (R.F.eraseIdx i)
      refine ⟨by omega, .inr (.inr ⟨⟨id5, ver5, 0⟩, R.F.length, ints (R.F.eraseIdx i ++ [0]), 3, true, false, by rw [hel], gi5, ?_, ?_, by omega⟩)⟩
      · show ((ints (R.F.eraseIdx i ++ [0])).drop 0).take _ = _
        rw [List.drop_zero, flat_encI]
        simp [ints, encI]
      · simp [ints, encI]
    obtain ⟨_, Z6, c6, z6, u6, rfl, oB6⟩ := run_Best (base := h.length) (h := Z5) (by omega) aD (by have := hRd.nF; omega)
    have ou6 := oB6.one
    rw [eal hRd, chkR_iff.2 hRd] at c6
    have x6 := x5.trans z6
    have gR6 := z6.get gR5
    have g6 := z6.get g5
    have aR6 := aG.ext (z1.trans x6)
    have ccu := fun base => run_contains (base := base) (x := u) (iFG.ext (z1.trans x6))
    rw [decide_eq_true cu] at ccu
    have cM := fun base => run_Mended (base := base) (u := u) aR6 (by omega)
    have cD := fun base => run_Damage (base := base) (u := u) (aD.ext z6) (by have := hRd.nF; omega) (by omega)
    have cD2 := fun base => run_Damage (base := base) (u := u) aR6 (by omega) (by omega)
    have hnu : u ∉ (delR R u).F := by
      unfold delR
      simp only
      rw [del_eq hR.s cu]
      simp
    have vm : menE R u = (valD (delR R u) 0 - valD R 0, 0) := by unfold menE menL; rw [if_neg (fun q => q hc), if_neg (fun q => q hu), if_pos cu]
    have vd : dmgE (delR R u) u = (valD (delR R u) 0 - valD R 0, 0) := by
      unfold dmgE dmgL
      rw [if_neg (fun q => q (chkR_iff.2 hRd)), if_neg (fun q => q hu), if_neg hnu, if_neg (by rw [eD]; simp only; omega), mend_make hR cu]
    have vd2 : dmgE R u = (0, 5) := by unfold dmgE dmgL; rw [if_neg (fun q => q hc), if_neg (fun q => q hu), if_pos cu]
    rw [vm] at cM
    rw [vd] at cD
    rw [vd2] at cD2
    have b1 := valD_bd hR (x := 0)
    have b2 := valD_bd hRd (x := 0)
    obtain ⟨vR, evR⟩ : ∃ x, x = valD R 0 := ⟨_, rfl⟩
    obtain ⟨vD, evD⟩ : ∃ x, x = valD (delR R u) 0 := ⟨_, rfl⟩
    rw [← evR] at c1 cM cD b1
    rw [← evD] at c6 cM cD b2
    have haw := fun base => run_awake (base := base) (h := Z6)
    refine callL_run func14 rfl rfl ?_
    have hsp := @Nat.succ_ne_zero; repeat' (first | simp (disch := first | exact dschN65 | fail) only [go_sem, ↓reduceIte, hsp, hw0, e1, ← eG, gG, cvtN q1, mr, c1, ne_eq, not_true, decide_false, eq_self, g1, c2, ← eZ3, gR3, cb, g3, c4, g4, ← eZ5, g5, c6, gR6, ccu, g6, cM, cD, cD2, decide_true, haw] | refine WP_drw ?_ | refine cnd_intro (fun hsp => ?_) fun hsp => ?_)
    exact fB rfl ((((xh1.trans xG).trans z1).trans x6))
  · rw [decide_eq_false cu] at cb
    obtain ⟨Z4, eZ4⟩ : ∃ Z4, Z4 = Z3 ++ [rowB [u] 0] := ⟨_, rfl⟩
    have z4 : Ext Z3 Z4 := by rw [eZ4]; exact .app .refl
    have lZ4 : Z4.length = Z3.length + 1 := by rw [eZ4]; simp
    have gu4 : Z4[Z3.length]? = some ⟨.cells [.int .i64 u] 3 true false, 0⟩ := by rw [eZ4]; exact get_eq rfl
    have hlow : ∀ r n c, fw = .slice (some r) n c → r.id ≠ Z3.length := by
      rintro r n c rfl
      rcases f3 with (⟨q, _⟩ | ⟨i, v, q, gi, _⟩) | ⟨q, _⟩
      · cases q
      · cases q; have := lt_of_get gi; simp only; omega
      · cases q
    obtain ⟨w', Z5, c5, oI, l5, e5, k5⟩ := run_insU (base := h.length) (f3.ext z4) gu4 hlow (by omega) (by omega) hil (by omega)
    have oiw := oI.one
    have einl : R.F.take i ++ u :: R.F.drop i = insL R.F u := by unfold insL; rw [ei, ← low_take]
    rw [einl] at oI
    have x5' : Ext Z1 Z5 := e5 Z1 (Nat.le_refl _) (z2.trans (z3.trans z4))
    have g4 := z4.get g3
    have g5 := KeepO.box (E := encI) (e := 3) k5 g4
    have w5 := KeepO.ownE (E := encI) (e := 3) k5 (w3.ext z4) (by decide)
    obtain ⟨Z6, eZ6⟩ : ∃ Z6, Z6 = Z5.set Z2.length ⟨.cells [.int .i64 R.L, w', ww] 25 false false, 0⟩ := ⟨_, rfl⟩
    have lZ6 : Z6.length = Z5.length := by rw [eZ6, List.length_set]
    have x6 : Ext Z1 Z6 := by rw [eZ6]; exact x5'.set (by omega)
    have g6 : Z6[Z2.length]? = some ⟨.cells [.int .i64 R.L, w', ww] 25 false false, 0⟩ := by rw [eZ6, List.getElem?_set_self (by omega)]
    have gR6 := x6.get g1
    have hRa := hR.add hu cu (by omega)
    have aA : RibAt Z6 (.agg [.int .i64 R.L, w', ww]) (addR R u) := by
      have := rib_own (R := addR R u) (fv := w') (wv := ww) (b := Z1.length) (H := Z6) hRa (by rw [eZ6]; exact oI.setBox g5) (by rw [eZ6]; exact w5.setBox g5)
      exact this
    obtain ⟨_, Z7, c7, z7, u7, rfl, oB7⟩ := run_Best (base := h.length) (h := Z6) (by omega) aA (by have := hRa.nF; omega)
    have ou7 := oB7.one
    rw [eal hRa, chkR_iff.2 hRa] at c7
    have x7 := x6.trans z7
    have gR7 := z7.get gR6
    have g7 := z7.get g6
    have aR7 := aG.ext (z1.trans x7)
    have ccu := fun base => run_contains (base := base) (x := u) (iFG.ext (z1.trans x7))
    rw [decide_eq_false cu] at ccu
    have cD := fun base => run_Damage (base := base) (u := u) aR7 (by omega) (by omega)
    have cM := fun base => run_Mended (base := base) (u := u) (aA.ext z7) (by have := hRa.nF; omega)
    have cM2 := fun base => run_Mended (base := base) (u := u) aR7 (by omega)
    have hmu : u ∈ (addR R u).F := insL_mem.2 (.inr rfl)
    have vd : dmgE R u = (valD R 0 - valD (addR R u) 0, 0) := by
      unfold dmgE dmgL
      rw [if_neg (fun q => q hc), if_neg (fun q => q hu), if_neg cu, if_neg (by omega)]
    have vm : menE (addR R u) u = (valD R 0 - valD (addR R u) 0, 0) := by
      unfold menE menL
      rw [if_neg (fun q => q (chkR_iff.2 hRa)), if_neg (fun q => q hu), if_pos hmu, make_mend hR cu]
    have vm2 : menE R u = (0, 6) := by unfold menE menL; rw [if_neg (fun q => q hc), if_neg (fun q => q hu), if_neg cu]
    rw [vd] at cD
    rw [vm] at cM
    rw [vm2] at cM2
    have b1 := valD_bd hR (x := 0)
    have b2 := valD_bd hRa (x := 0)
    obtain ⟨vR, evR⟩ : ∃ x, x = valD R 0 := ⟨_, rfl⟩
    obtain ⟨vA, evA⟩ : ∃ x, x = valD (addR R u) 0 := ⟨_, rfl⟩
    rw [← evR] at c1 cD cM b1
    rw [← evA] at c7 cD cM b2
    have haw := fun base => run_awake (base := base) (h := Z7)
    refine callL_run func14 rfl rfl ?_
    have hsp := @Nat.succ_ne_zero; repeat' (first | simp (disch := first | exact dschN65 | fail) only [go_sem, ↓reduceIte, hsp, hw0, e1, ← eG, gG, cvtN q1, mr, c1, ne_eq, not_true, decide_false, eq_self, g1, c2, ← eZ3, gR3, cb, g3, ← eZ4, g4, c5, g5, ← eZ6, g6, c7, gR7, ccu, g7, cD, cM, cM2, decide_true, haw] | refine WP_drw ?_ | refine cnd_intro (fun hsp => ?_) fun hsp => ?_)
    exact fB rfl (((xh1.trans xG).trans z1).trans x7)
end Go.AM
