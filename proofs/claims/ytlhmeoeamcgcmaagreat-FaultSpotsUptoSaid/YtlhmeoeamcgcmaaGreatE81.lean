/-
  FaultSpots, walked.
-/
import Derived.Test.YtlhmeoeamcgcmaaGreatE80
set_option linter.unusedSimpArgs false
set_option linter.unusedVariables false
namespace Go.AM
open Go.Proofs.Tryz
theorem dschE81 {p : Prop} (h : p := by first | exact Nat.ne_of_beq_eq_false rfl | assumption | (apply asOne; (first | exact One.int | exact One.bool | assumption | exact Ints.one (by assumption) | exact Rows.one (by assumption) | exact Own.one (by assumption) | exact One.lit ⟨rfl, rfl, rfl⟩)) | (apply asInts; (repeat first | assumption | exact ints_nil | apply Ints.app); done) | (apply asRows; (repeat first | assumption | exact Rows.nil | apply Rows.app); done) | (apply asScal; (first | apply allS1 | apply allS2 | apply allS3 | apply allS4) <;> (first | exact One.int | exact One.bool | assumption | exact Ints.one (by assumption) | exact Rows.one (by assumption) | exact Own.one (by assumption) | exact One.lit ⟨rfl, rfl, rfl⟩)) | exact litT rfl | exact litF rfl | omega | (simp only [List.length_append, List.length_cons, List.length_nil, List.length_set, List.length_reverse]; first | done | omega) | fail) : p := h
attribute [-go_sem] put_ne put_same
attribute [local go_sem ↓] put_if
theorem cvU {n : Int} (h : 0 ≤ n ∧ n ≤ 255) : convA prog 3 5 (.int .u8 n) = some (.int .i64 n) := by
  simp only [convA, underlying5, Fc.ik3]
  rw [wrap64 (by omega) (by omega)]
theorem bin_eqb {a b : Bool} : binA prog .eql 4 (.bool a) (.bool b) = some (.bool (decide (a = b))) := by
  simp only [binA, eqT, underlying4, eqDepth, Option.map_some]
  cases a <;> cases b <;> rfl
theorem stE81z {base : Nat} {l : List Oper} {s : St} {Q : AExit → St → Prop} : WP prog raw base (.region 10 l.toArray true) s Q = WPS prog raw base (.region 10 l.toArray true) s Q := WP_stop
attribute [local go_sem ↓ 3000] stE81z
set_option maxHeartbeats 1500000 in
theorem run_FaultSpots {base : Nat} {h : Heap} {v0 : AVal} {l0 : List Int} {n1 n2 n3 n4 : Int} (hB0 : Bytes h v0 l0) (q1 : 0 ≤ n1 ∧ n1 ≤ 255) (q2 : 0 ≤ n2 ∧ n2 ≤ 255) (q3 : 0 ≤ n3 ∧ n3 ≤ 255) (q4 : 0 ≤ n4 ∧ n4 ≤ 255) :
    callL prog raw base (.fn 9 [] []) [v0, .int .u8 n1, .int .u8 n2, .int .u8 n3, .int .u8 n4] h = some (.bool true, h) := by
  obtain ⟨H1, L, tt, pv, sv, tv, e1, x1, M1, b1, b2, b3, b4⟩ := run_start (base := h.length) (T0 := 10) (P0 := 5) (S0 := 4) (Nat.le_refl _) hB0 (by omega) (by omega) (by omega)
  obtain ⟨k1, k2, k3, k4, k5, k6⟩ := chkM_ok M1.hc
  have hp1 := M1.hP.one
  have hs1 := M1.hS.one
  have ht1 := M1.oT.one
  have hl1 := x1.len
  have hw0 := run_wound (base := h.length) hB0
  obtain ⟨G1, eG1⟩ : ∃ G1, G1 = H1 ++ [lmB L.R L.T pv sv] := ⟨_, rfl⟩
  have xG1 : Ext H1 G1 := by rw [eG1]; exact .app .refl
  have gl1 : G1[H1.length]? = some (lmB L.R L.T pv sv) := by rw [eG1]; exact get_eq rfl
  have hG1 : G1.length = H1.length + 1 := by rw [eG1]; simp
  obtain ⟨a, ea⟩ : ∃ a, a = n2.tmod L.T := ⟨_, rfl⟩
  obtain ⟨b, eb⟩ : ∃ b, b = n3.tmod L.T := ⟨_, rfl⟩
  obtain ⟨c, ec⟩ : ∃ c, c = n4.tmod L.T := ⟨_, rfl⟩
  obtain ⟨p, ep⟩ : ∃ p, p = n1.tmod (L.ps.length : Int) := ⟨_, rfl⟩
  have ra : 0 ≤ a ∧ a < L.T := by rw [ea]; exact ⟨Int.tmod_nonneg _ q2.1, Int.tmod_lt_of_pos _ (by omega)⟩
  have rb : 0 ≤ b ∧ b < L.T := by rw [eb]; exact ⟨Int.tmod_nonneg _ q3.1, Int.tmod_lt_of_pos _ (by omega)⟩
  have rc : 0 ≤ c ∧ c < L.T := by rw [ec]; exact ⟨Int.tmod_nonneg _ q4.1, Int.tmod_lt_of_pos _ (by omega)⟩
  have rp : 0 ≤ p ∧ p < (L.ps.length : Int) := by rw [ep]; exact ⟨Int.tmod_nonneg _ q1.1, Int.tmod_lt_of_pos _ (by omega)⟩
  obtain ⟨x, y, z, es, hxy, hyz, hmem⟩ := srt3 (a := a) (b := b) (c := c)
  have rx : 0 ≤ x ∧ x < L.T := by have := hmem x (by simp); simp at this; omega
  have ry : 0 ≤ y ∧ y < L.T := by have := hmem y (by simp); simp at this; omega
  have rz : 0 ≤ z ∧ z < L.T := by have := hmem z (by simp); simp at this; omega
  obtain ⟨G2, eG2⟩ : ∃ G2, G2 = G1 ++ [rowB [a, b, c] 0] := ⟨_, rfl⟩
  have g2 : G2[G1.length]? = some (srB [a, b, c] 3 0) := by rw [eG2]; exact get_eq rfl
  obtain ⟨G3, eG3⟩ : ∃ G3, G3 = G1 ++ [rowB [x, y, z] 0] := ⟨_, rfl⟩
  have x3 : Ext G1 G3 := by rw [eG3]; exact .app .refl
  have g3 : G3[G1.length]? = some (rowB [x, y, z] 0) := by rw [eG3]; exact get_eq rfl
  have eset : G2.set G1.length (srB [x, y, z] 3 0) = G3 := by
    rw [eG2, List.set_append_right _ _ (Nat.le_refl _), Nat.sub_self, eG3]; rfl
  have e2 := fun base => run_sort (base := base) g2 (by simp)
  simp only [List.length_cons, List.length_nil, Nat.zero_add, Nat.reduceAdd] at e2
  rw [es, eset] at e2
  have gl2 : G2[H1.length]? = some (lmB L.R L.T pv sv) := by rw [eG2]; exact get_app gl1
  have gl3 := x3.get gl1
  have M3 := (M1.ext xG1).ext x3
  have hl3 := ((x1.trans xG1).trans x3).len
  have lP : lenOpA prog G3 22 pv = some (.int .i64 (L.ps.length : Int)) := M3.hP.len
  -- the three breaks
  have ok0 : brkOk L (p, x, z) := by unfold brkOk; simp only; omega
  have ok1 : brkOk L (p, x, y) := by unfold brkOk; simp only; omega
  have val : ∀ b : Brk, brkOk L b → splM L b = (sptR L b L.R.toNat, 0) := fun b hb => by
    refine Prod.ext (sptR_eq M1.hc (brkM_iff.2 hb)).symm ?_
    unfold splM; rw [if_neg (by simp [M1.hc]), if_neg (by simp [brkM_iff.2 hb])]
  have spl : ∀ {H : Heap} (b : Brk), Ext G3 H → brkOk L b → Ret prog raw h.length (.fn 52 [] []) [lomV L.R L.T pv sv, .agg (encB.cells b)] H (fun w H' => Ext H H' ∧ ∃ x, w = .tuple [x, .int .i64 0] ∧ Own encT 101 H.length H' x (sptR L b L.R.toNat)) := fun {H} b e hb => by
    have := run_spoils (base := h.length) (b := b) (Nat.le_trans hl3 e.len) (M3.ext e).lom M1.ok.1 (by omega) (by omega) M1.ok.2.2.2.1 M1.ok.2.2.2.2
    rwa [val b hb] at this
  obtain ⟨_, H4, e4, x4, w4, rfl, o4⟩ := spl (p, x, z) .refl ok0
  obtain ⟨_, H5, e5, x5, w5, rfl, o5⟩ := spl (p, x, y) x4 ok1
  have gl4 := x4.get gl3
  have gl5 := x5.get gl4
  have g4 := x4.get g3
  have g5 := x5.get g4
  have e4' : callL prog raw h.length (.fn 52 [] []) [lomV L.R L.T pv sv, .agg [.int .i64 p, .int .i64 x, .int .i64 z]] G3 = some (.tuple [w4, .int .i64 0], H4) := e4
  have e5' : callL prog raw h.length (.fn 52 [] []) [lomV L.R L.T pv sv, .agg [.int .i64 p, .int .i64 x, .int .i64 y]] H4 = some (.tuple [w5, .int .i64 0], H5) := e5
  clear e4 e5
  have ldx : ∀ {H : Heap} (i : Nat), H[G1.length]? = some (rowB [x, y, z] 0) → i < 3 → loadP prog H 3 (.ptr (some ⟨G1.length, 0, i⟩)) = some (.int .i64 ([x, y, z].getD i 0)) := fun {H} i hg hi => by
    rw [load_eq, Fc.ty3, hg]
    exact ldB_row (by simpa using hi)
  have d40 : loadP prog G3 3 (.ptr (some ⟨G1.length, 0, 0⟩)) = some (.int .i64 x) := ldx 0 g3 (by omega)
  have d42 : loadP prog G3 3 (.ptr (some ⟨G1.length, 0, 2⟩)) = some (.int .i64 z) := ldx 2 g3 (by omega)
  have d50 : loadP prog H4 3 (.ptr (some ⟨G1.length, 0, 0⟩)) = some (.int .i64 x) := ldx 0 g4 (by omega)
  have d51 : loadP prog H4 3 (.ptr (some ⟨G1.length, 0, 1⟩)) = some (.int .i64 y) := ldx 1 g4 (by omega)
  have d61 : loadP prog H5 3 (.ptr (some ⟨G1.length, 0, 1⟩)) = some (.int .i64 y) := ldx 1 g5 (by omega)
  have d62 : loadP prog H5 3 (.ptr (some ⟨G1.length, 0, 2⟩)) = some (.int .i64 z) := ldx 2 g5 (by omega)
  have ad : ∀ i : Nat, i < 3 → indexAddrA prog 36 (.slice (some ⟨G1.length, 0, 0⟩) 3 3) (.int .i64 (i : Int)) = some (.ptr (some ⟨G1.length, 0, i⟩)) := fun i hi => by
    rw [adr_sl Fc.el36 Fc.ar36 (by omega) (by omega), Int.toNat_natCast, Nat.mul_one, Nat.zero_add]
  have ad0 : indexAddrA prog 36 (.slice (some ⟨G1.length, 0, 0⟩) 3 3) (.int .i64 0) = some (.ptr (some ⟨G1.length, 0, 0⟩)) := ad 0 (by omega)
  have ad1 : indexAddrA prog 36 (.slice (some ⟨G1.length, 0, 0⟩) 3 3) (.int .i64 1) = some (.ptr (some ⟨G1.length, 0, 1⟩)) := ad 1 (by omega)
  have ad2 : indexAddrA prog 36 (.slice (some ⟨G1.length, 0, 0⟩) 3 3) (.int .i64 2) = some (.ptr (some ⟨G1.length, 0, 2⟩)) := ad 2 (by omega)
  have j4 := o4.one
  have j5 := o5.one
  have hsl : ∀ b : Brk, (sptR L b L.R.toNat).length ≤ 1000 := fun b => by
    have := sptR_len (L := L) (b := b) L.R.toNat
    have : L.R.toNat * L.T.toNat ≤ 6 * 12 := Nat.mul_le_mul (by omega) (by omega)
    omega
  have eT := cvU q2
  have eT2 := cvU q3
  have eT3 := cvU q4
  have eT4 := cvU q1
  have r1 : binA prog .rem 3 (.int .i64 n2) (.int .i64 L.T) = some (.int .i64 a) := by rw [bin_rem (by omega), ea]
  have r2 : binA prog .rem 3 (.int .i64 n3) (.int .i64 L.T) = some (.int .i64 b) := by rw [bin_rem (by omega), eb]
  have r3 : binA prog .rem 3 (.int .i64 n4) (.int .i64 L.T) = some (.int .i64 c) := by rw [bin_rem (by omega), ec]
  have r4 : binA prog .rem 3 (.int .i64 n1) (.int .i64 (L.ps.length : Int)) = some (.int .i64 p) := by rw [bin_rem (by omega), ep]
  unfold lmB at eG1 gl1 gl2 gl3 gl4 gl5
  refine callL_run func9 rfl rfl ?_
  have hsp := @Nat.succ_ne_zero; repeat' (first | simp (disch := first | exact dschE81 | fail) only [go_sem, ↓reduceIte, hsp, hw0, e1, ← eG1, gl1, eT, eT2, eT3, eT4, r1, r2, r3, bs3, ← eG2, e2, gl3, lP, r4, ad0, ad1, ad2, d40, d42, d50, d51, d61, d62, e4', gl4, e5', gl5, eq_self, not_true, decide_false] | refine WP_drw ?_ | refine cnd_intro (fun hsp => ?_) fun hsp => ?_)
  refine WPS_restF fun Z eZ => ?_
  skip
  have kZ10 := congrFun eZ 10
  have kZ11 := congrFun eZ 11
  have kZ13 := congrFun eZ 13
  have kZ14 := congrFun eZ 14
  have kZ15 := congrFun eZ 15
  have kZ16 := congrFun eZ 16
  have kZ17 := congrFun eZ 17
  have kZ19 := congrFun eZ 19
  try simp (disch := first | exact dschE81 | fail) only [go_sem, ↓reduceIte] at kZ10 kZ11 kZ13 kZ14 kZ15 kZ16 kZ17 kZ19
  clear eZ
  rw [← WP_seq]
  obtain ⟨a0, ea0⟩ : ∃ l, l = sptR L (p, x, z) L.R.toNat := ⟨_, rfl⟩
  obtain ⟨a1, ea1⟩ : ∃ l, l = sptR L (p, x, y) L.R.toNat := ⟨_, rfl⟩
  rw [← ea0] at o4
  rw [← ea1] at o5
  have la0 : a0.length ≤ 1000 := by rw [ea0]; exact hsl _
  have la1 : a1.length ≤ 1000 := by rw [ea1]; exact hsl _
  have hl5 := (((x1.trans xG1).trans x3).trans (x4.trans x5)).len
  refine WP_meet (fun fr h' => Agree [(16, 16), (19, 19), (86, 108)] fr Z ∧ Ext H5 h' ∧ fr 16 = .int .i64 0 ∧ ∃ w bl, fr 19 = w ∧ Own encT 101 0 h' w bl ∧ a1.length + bl.length = a0.length ∧ ∀ s ∈ a0, (s ∈ a1 ↔ ¬ s ∈ bl)) ?_ ?_
  · rw [WP_seq]
    refine WP_drw ?_
    by_cases c0 : y < z
    · have t0 : (y < z) = True := eq_true c0
      have ok2 : brkOk L (p, y + 1, z) := by unfold brkOk; simp only; omega
      obtain ⟨_, H6, e6, x6, w6, rfl, o6⟩ := spl (p, y + 1, z) (x4.trans x5) ok2
      have e6' : callL prog raw h.length (.fn 52 [] []) [lomV L.R L.T pv sv, .agg [.int .i64 p, .int .i64 (y + 1), .int .i64 z]] H5 = some (.tuple [w6, .int .i64 0], H6) := e6
      clear e6
      have j6 := o6.one
      obtain ⟨s1, s2⟩ := splR_split (L := L) (p := p) (t0 := x) (t1 := y) (t2 := z) ⟨hxy, hyz⟩
      have hsp := @Nat.succ_ne_zero; repeat' (first | simp (disch := first | exact dschE81 | fail) only [go_sem, ↓reduceIte, hsp, kZ10, kZ11, kZ13, kZ14, kZ15, kZ16, kZ17, kZ19, gl5, ad1, ad2, d61, d62, t0, e6', eq_self, not_true, decide_false] | refine WP_drw ?_ | refine cnd_intro (fun hsp => ?_) fun hsp => ?_)
      refine ⟨by (repeat first | exact Agree.refl | assumption | refine Agree.put rfl ?_ | refine Agree.put0 ?_ | refine Agree.sub rfl (by assumption) ?_), x6, _, _, rfl, o6.low (Nat.zero_le _), by rw [ea0, ea1]; exact sptR_add s1 s2, fun s hs => ?_⟩
      rw [ea0, sptR_mem] at hs
      rw [ea1, sptR_mem, sptR_mem]
      have h1 := s1 s
      have h2 := s2 s
      rw [hs.2.2] at h1
      constructor
      · exact fun q q2 => h2 ⟨q.2.2, q2.2.2⟩
      · intro q
        refine ⟨hs.1, hs.2.1, ?_⟩
        cases q3 : splR L (p, x, y) s with
        | true => rfl
        | false =>
          rw [q3, Bool.false_or] at h1
          exact absurd ⟨hs.1, hs.2.1, h1.symm⟩ q
    · have t0 : (y < z) = False := eq_false c0
      have eyz : y = z := by omega
      subst eyz
      have hsp := @Nat.succ_ne_zero; repeat' (first | simp (disch := first | exact dschE81 | fail) only [go_sem, ↓reduceIte, hsp, kZ10, kZ11, kZ13, kZ14, kZ15, kZ16, kZ17, kZ19, gl5, ad1, ad2, d61, d62, t0, eq_self, not_true, decide_false] | refine WP_drw ?_ | refine cnd_intro (fun hsp => ?_) fun hsp => ?_)
      refine ⟨by (repeat first | exact Agree.refl | assumption | refine Agree.put rfl ?_ | refine Agree.put0 ?_ | refine Agree.sub rfl (by assumption) ?_), .refl, _, [], rfl, Own.nil, by rw [ea0, ea1]; rfl, fun s hs => ?_⟩
      rw [ea1, ← ea0]
      simp [hs]
  · rintro fr6 H6 ⟨hA6, x6, u16, w6, bl, u19, o6, hlen, hmm⟩
    have u10 := hA6 10 rfl
    have u11 := hA6 11 rfl
    have u13 := hA6 13 rfl
    have u14 := hA6 14 rfl
    have u15 := hA6 15 rfl
    have u17 := hA6 17 rfl
    try simp (disch := first | exact dschE81 | fail) only [go_sem, ↓reduceIte, kZ10, kZ11, kZ13, kZ14, kZ15, kZ17] at u10 u11 u13 u14 u15 u17
    
    have x46 := x5.trans x6
    have x36 := x4.trans x46
    have M6 := M3.ext x36
    have hl6 := (((x1.trans xG1).trans x3).trans x36).len
    have gl6 := x6.get gl5
    have g6 := x6.get g5
    have j6 := o6.one
    have l4 := own_len (o4.ext x46) Fc.el96 (by omega)
    have l5 := own_len (o5.ext x6) Fc.el96 (by omega)
    have l6 := own_len o6 Fc.el96 (by omega)
    have tl : ((a1.length : Int) + (bl.length : Int) = (a0.length : Int)) = True := eq_true (by omega)
    have hsp := @Nat.succ_ne_zero; repeat' (first | simp (disch := first | exact dschE81 | fail) only [go_sem, ↓reduceIte, hsp, u10, u11, u13, u14, u15, u17, u16, u19, l4, l5, l6, tl, not_true, decide_false] | refine WP_drw ?_ | refine cnd_intro (fun hsp => ?_) fun hsp => ?_)
    refine WP_count [(10, 10), (20, 21), (119, 168)] 0 a0.length (Nat.zero_le _) (fun _ i fr h' => fr 119 = .int .i64 (i : Int) ∧ Ext H6 h') ?_ ?_ ?_
    · exact ⟨by (simp (disch := first | exact dschE81 | fail) only [go_sem, ↓reduceIte, Int.natCast_zero]; first | done | rfl), .refl⟩
    · rintro i fr7 K hi0 hi hA7 ⟨k119, xK⟩
      have k11 := hA7 11 rfl
      have k13 := hA7 13 rfl
      have k14 := hA7 14 rfl
      have k15 := hA7 15 rfl
      have k17 := hA7 17 rfl
      have k19 := hA7 19 rfl
      have k117 := hA7 117 rfl
      have k118 := hA7 118 rfl
      try simp (disch := first | exact dschE81 | fail) only [go_sem, ↓reduceIte, u11, u13, u14, u15, u17, u19] at k11 k13 k14 k15 k17 k19 k117 k118
      
      have hlt : ((i : Int) < (a0.length : Int)) = True := eq_true (by omega)
      have hs : a0[i]? = some a0[i] := List.getElem?_eq_getElem hi
      obtain ⟨s, esx⟩ : ∃ s, s = a0[i] := ⟨_, rfl⟩
      rw [← esx] at hs
      have hsm := List.mem_of_getElem? hs
      have hR := (o4.ext (x46.trans xK)).rows (show a0.length < 2 ^ 60 by omega)
      have adi : ∀ n : Nat, n < a0.length → indexAddrA prog 96 w4 (.int .i64 (n : Int)) = some (elAdr w4 encT.z n 0) := fun n hn => by
        have := hR.addr (P := prog) (i := (n : Int)) Fc.el96 Fc.ar96 (by omega) (by omega)
        rwa [Int.toNat_natCast] at this
      have ad_i := adi i hi
      have ld : ∀ {T : Heap}, loadP prog (K ++ T) 101 (elAdr w4 encT.z i 0) = some (.agg [.int .i64 s.1, .int .i64 s.2]) := fun {T} => (hR.app (T := T)).load (P := prog) Fc.ty101 hs
      have ld0 : loadP prog K 101 (elAdr w4 encT.z i 0) = some (.agg [.int .i64 s.1, .int .i64 s.2]) := hR.load (P := prog) Fc.ty101 hs
      obtain ⟨K2, eK2⟩ : ∃ K2, K2 = K ++ [(⟨.cells [.int .i64 s.1, .int .i64 s.2] 101 false false, 0⟩ : ABlk)] := ⟨_, rfl⟩
      have xK2 : Ext K K2 := by rw [eK2]; exact .app .refl
      have gK2 : K2[K.length]? = some ⟨.cells [.int .i64 s.1, .int .i64 s.2] 101 false false, 0⟩ := by rw [eK2]; exact get_eq rfl
      have c5 := fun base => run_containsT (base := base) (x := s) ((o5.ext ((x6.trans xK).trans xK2)).rows (by omega)) la1
      have c6 := fun base => run_containsT (base := base) (x := s) ((o6.ext (xK.trans xK2)).rows (by omega)) (by omega)
      have hmm' := hmm s hsm
      have hKl := xK.len
      have one2 : (decide (s ∈ a1) = decide (s ∈ bl)) = False := eq_false fun q => by
        by_cases q1 : s ∈ a1
        · have := hmm'.1 q1
          rw [decide_eq_true q1, decide_eq_false this] at q; cases q
        · have : s ∈ bl := Classical.byContradiction fun q2 => q1 (hmm'.2 q2)
          rw [decide_eq_false q1, decide_eq_true this] at q; cases q
      by_cases i0 : 0 < i
      · have t0 : ((i : Int) > 0) = True := eq_true (by omega)
        have hs1 : a0[i - 1]? = some a0[i - 1] := List.getElem?_eq_getElem (by omega)
        obtain ⟨s1, esx1⟩ : ∃ s1, s1 = a0[i - 1] := ⟨_, rfl⟩
        rw [← esx1] at hs1
        have ord : spLt s1 s := by
          have hpw : a0.Pairwise spLt := by rw [ea0]; exact sptR_sorted
          rw [esx, esx1]
          exact List.pairwise_iff_getElem.1 hpw (i - 1) i (by omega) hi (by omega)
        have ad_1 : indexAddrA prog 96 w4 (.int .i64 ((i : Int) - 1)) = some (elAdr w4 encT.z (i - 1) 0) := by
          have := adi (i - 1) (by omega)
          rwa [show ((i - 1 : Nat) : Int) = (i : Int) - 1 by omega] at this
        have hR2 := hR.ext xK2
        have f1 : fieldAddrA prog 101 (elAdr w4 encT.z (i - 1) 0) 0 = some (elAdr w4 encT.z (i - 1) 0) := elAdr_field (P := prog) (i := i - 1) (o := 0) (off := 0) (q := false) (n := 1) hR (by omega) (by kernel_rfl) (by decide)
        have f2 : fieldAddrA prog 101 (elAdr w4 encT.z (i - 1) 0) 1 = some (elAdr w4 encT.z (i - 1) 1) := elAdr_field (P := prog) (i := i - 1) (o := 0) (off := 1) (q := false) (n := 1) hR (by omega) (by kernel_rfl) (by decide)
        have p1 : loadP prog K2 3 (elAdr w4 encT.z (i - 1) 0) = some (.int .i64 s1.1) := hR2.cell (P := prog) Fc.ty3 hs1 (o := 0) (a := .int .i64 s1.1) rfl
        have p2 : loadP prog K2 3 (elAdr w4 encT.z (i - 1) 1) = some (.int .i64 s1.2) := hR2.cell (P := prog) Fc.ty3 hs1 (o := 1) (a := .int .i64 s1.2) rfl
        have n1 : (s.1 < s1.1) = False := eq_false (by rcases ord with q | q <;> omega)
        by_cases cq : s.1 = s1.1
        · have n2 : (s.1 = s1.1) = True := eq_true cq
          have n3 : (s.2 ≤ s1.2) = False := eq_false (by rcases ord with q | q <;> omega)
          have hsp := @Nat.succ_ne_zero; repeat' (first | simp (disch := first | exact dschE81 | fail) only [go_sem, ↓reduceIte, hsp, k11, k13, k14, k15, k17, k19, k117, k118, k119, u10, u11, u13, u14, u15, u17, u16, u19, hlt, ad_i, ld, ld0, ← eK2, gK2, c5, c6, one2, t0, ad_1, f1, f2, p1, p2, n1, n2, n3, bin_eqb] | refine WP_drw ?_ | refine cnd_intro (fun hsp => ?_) fun hsp => ?_)
          exact ⟨by (repeat first | exact Agree.refl | assumption | refine Agree.put rfl ?_ | refine Agree.put0 ?_ | refine Agree.sub rfl (by assumption) ?_), by omega, xK.trans xK2⟩
        · have n2 : (s.1 = s1.1) = False := eq_false cq
          have hsp := @Nat.succ_ne_zero; repeat' (first | simp (disch := first | exact dschE81 | fail) only [go_sem, ↓reduceIte, hsp, k11, k13, k14, k15, k17, k19, k117, k118, k119, u10, u11, u13, u14, u15, u17, u16, u19, hlt, ad_i, ld, ld0, ← eK2, gK2, c5, c6, one2, t0, ad_1, f1, f2, p1, p2, n1, n2, bin_eqb] | refine WP_drw ?_ | refine cnd_intro (fun hsp => ?_) fun hsp => ?_)
          exact ⟨by (repeat first | exact Agree.refl | assumption | refine Agree.put rfl ?_ | refine Agree.put0 ?_ | refine Agree.sub rfl (by assumption) ?_), by omega, xK.trans xK2⟩
      · have t0 : ((i : Int) > 0) = False := eq_false (by omega)
        have hsp := @Nat.succ_ne_zero; repeat' (first | simp (disch := first | exact dschE81 | fail) only [go_sem, ↓reduceIte, hsp, k11, k13, k14, k15, k17, k19, k117, k118, k119, u10, u11, u13, u14, u15, u17, u16, u19, hlt, ad_i, ld, ld0, ← eK2, gK2, c5, c6, one2, t0, bin_eqb] | refine WP_drw ?_ | refine cnd_intro (fun hsp => ?_) fun hsp => ?_)
        exact ⟨by (repeat first | exact Agree.refl | assumption | refine Agree.put rfl ?_ | refine Agree.put0 ?_ | refine Agree.sub rfl (by assumption) ?_), by omega, xK.trans xK2⟩
    · rintro fr7 K hA7 ⟨k119, xK⟩
      have k11 := hA7 11 rfl
      have k13 := hA7 13 rfl
      have k14 := hA7 14 rfl
      have k15 := hA7 15 rfl
      have k17 := hA7 17 rfl
      have k19 := hA7 19 rfl
      have k117 := hA7 117 rfl
      have k118 := hA7 118 rfl
      try simp (disch := first | exact dschE81 | fail) only [go_sem, ↓reduceIte, u11, u13, u14, u15, u17, u19] at k11 k13 k14 k15 k17 k19 k117 k118
      
      have hlt : ((a0.length : Int) < (a0.length : Int)) = False := eq_false (by omega)
      have glK := xK.get gl6
      have hsp := @Nat.succ_ne_zero; repeat' (first | simp (disch := first | exact dschE81 | fail) only [go_sem, ↓reduceIte, hsp, k11, k13, k14, k15, k17, k19, k117, k118, k119, u10, u11, u13, u14, u15, u17, u16, u19, hlt, glK] | refine WP_drw ?_ | refine cnd_intro (fun hsp => ?_) fun hsp => ?_)
      have M7 := M6.ext xK
      have hhK := ((((x1.trans xG1).trans x3).trans x36).trans xK).len
      have gK := xK.get g6
      refine WP_count [(10, 10), (22, 23), (171, 200)] 0 L.R.toNat (Nat.zero_le _) (fun H0 r fr h' => fr 171 = .int .i64 (r : Int) ∧ h' = H0) ?_ ?_ ?_
      · exact ⟨by (simp (disch := first | exact dschE81 | fail) only [go_sem, ↓reduceIte, Int.natCast_zero]; first | done | rfl), rfl⟩
      · rintro r fr8 K8 hr0 hr hA8 ⟨w171, eK8⟩
        subst eK8
        have w11 := hA8 11 rfl
        have w13 := hA8 13 rfl
        have w14 := hA8 14 rfl
        have w15 := hA8 15 rfl
        have w170 := hA8 170 rfl
        try simp (disch := first | exact dschE81 | fail) only [go_sem, ↓reduceIte, k11, k11, k13, k13, k14, k14, k15, k15] at w11 w13 w14 w15 w170
        
        have hlt2 : ((r : Int) < L.R) = True := eq_true (by omega)
        have hsp := @Nat.succ_ne_zero; repeat' (first | simp (disch := first | exact dschE81 | fail) only [go_sem, ↓reduceIte, hsp, w11, w13, w14, w15, w170, w171, hlt2, glK] | refine WP_drw ?_ | refine cnd_intro (fun hsp => ?_) fun hsp => ?_)
        refine WP_count [(10, 10), (23, 23), (176, 199)] 0 L.T.toNat (Nat.zero_le _) (fun H0 q fr h' => fr 176 = .int .i64 (q : Int) ∧ h' = H0) ?_ ?_ ?_
        · exact ⟨by (simp (disch := first | exact dschE81 | fail) only [go_sem, ↓reduceIte, Int.natCast_zero]; first | done | rfl), rfl⟩
        · rintro q fr9 K9 hq0 hq hA9 ⟨y176, eK9⟩
          subst eK9
          have y11 := hA9 11 rfl
          have y13 := hA9 13 rfl
          have y14 := hA9 14 rfl
          have y15 := hA9 15 rfl
          have y22 := hA9 22 rfl
          have y170 := hA9 170 rfl
          have y171 := hA9 171 rfl
          have y175 := hA9 175 rfl
          try simp (disch := first | exact dschE81 | fail) only [go_sem, ↓reduceIte, w11, w13, w14, w15, w170, w171] at y11 y13 y14 y15 y22 y170 y171 y175
          
          have hlt3 : ((q : Int) < L.T) = True := eq_true (by omega)
          have c5 := fun base => run_containsT (base := base) (x := ((r : Int), (q : Int))) ((o4.ext (x46.trans xK)).rows (by omega)) la0
          have cs := fun base => run_spoilsC (base := base) (b := (p, x, z)) (s := ⟨(r : Int), (q : Int), (q : Int), true⟩) M7.hP hs1 M1.hc ok0 (by unfold sgOk; simp only; omega)
          have ev : splB L (p, x, z) ⟨(r : Int), (q : Int), (q : Int), true⟩ = decide (((r : Int), (q : Int)) ∈ a0) := by
            rw [Bool.eq_iff_iff, splB_splR ok0, decide_eq_true_eq, ea0, sptR_mem]
            simp only
            constructor
            · rintro ⟨t, h1, h2, h3⟩
              rw [show t = (q : Int) by omega] at h3
              exact ⟨by omega, by omega, h3⟩
            · rintro ⟨_, _, h3⟩
              exact ⟨_, Int.le_refl _, Int.le_refl _, h3⟩
          rw [ev] at cs
          have cs' : ∀ base, callL prog raw base (.fn 62 [] []) [lomV L.R L.T pv sv, .agg [.int .i64 p, .int .i64 x, .int .i64 z], .agg [.int .i64 (r : Int), .int .i64 (q : Int), .int .i64 (q : Int), .bool true]] K9 = some (.bool (decide (((r : Int), (q : Int)) ∈ a0)), K9) := cs
          have c5' : ∀ base, callL prog raw base (.fn 53 [] []) [w4, .agg [.int .i64 (r : Int), .int .i64 (q : Int)]] K9 = some (.bool (decide (((r : Int), (q : Int)) ∈ a0)), K9) := c5
          have sg : ∀ base, callL prog raw base (.fn 54 [] []) [.int .i64 (r : Int), .int .i64 (q : Int), .int .i64 (q : Int), .bool true] K9 = some (.agg [.int .i64 (r : Int), .int .i64 (q : Int), .int .i64 (q : Int), .bool true], K9) := fun base => run_sgt
          have d90 : loadP prog K9 3 (.ptr (some ⟨G1.length, 0, 0⟩)) = some (.int .i64 x) := ldx 0 gK (by omega)
          have d92 : loadP prog K9 3 (.ptr (some ⟨G1.length, 0, 2⟩)) = some (.int .i64 z) := ldx 2 gK (by omega)
          clear c5 cs
          generalize decide (((r : Int), (q : Int)) ∈ a0) = bb at cs' c5'
          have hsp := @Nat.succ_ne_zero; repeat' (first | simp (disch := first | exact dschE81 | fail) only [go_sem, ↓reduceIte, hsp, y11, y13, y14, y15, y22, y170, y171, y175, y176, hlt3, c5', cs', sg, d90, d92, glK, ad0, ad2, neB, eq_self, not_true, decide_false] | refine WP_drw ?_ | refine cnd_intro (fun hsp => ?_) fun hsp => ?_)
          exact ⟨by (repeat first | exact Agree.refl | assumption | refine Agree.put rfl ?_ | refine Agree.put0 ?_ | refine Agree.sub rfl (by assumption) ?_), by omega⟩
        · rintro fr9 K9 hA9 ⟨y176, eK9⟩
          subst eK9
          have y11 := hA9 11 rfl
          have y13 := hA9 13 rfl
          have y14 := hA9 14 rfl
          have y15 := hA9 15 rfl
          have y22 := hA9 22 rfl
          have y170 := hA9 170 rfl
          have y171 := hA9 171 rfl
          have y175 := hA9 175 rfl
          try simp (disch := first | exact dschE81 | fail) only [go_sem, ↓reduceIte, w11, w13, w14, w15, w170, w171] at y11 y13 y14 y15 y22 y170 y171 y175
          
          have hlt3 : (((L.T.toNat : Nat) : Int) < L.T) = False := eq_false (by omega)
          have hsp := @Nat.succ_ne_zero; repeat' (first | simp (disch := first | exact dschE81 | fail) only [go_sem, ↓reduceIte, hsp, y11, y13, y14, y15, y22, y170, y171, y175, y176, hlt3] | refine WP_drw ?_ | refine cnd_intro (fun hsp => ?_) fun hsp => ?_)
          exact ⟨by (repeat first | exact Agree.refl | assumption | refine Agree.put rfl ?_ | refine Agree.put0 ?_ | refine Agree.sub rfl (by assumption) ?_), by omega⟩
      · rintro fr8 K8 hA8 ⟨w171, eK8⟩
        subst eK8
        have w11 := hA8 11 rfl
        have w13 := hA8 13 rfl
        have w14 := hA8 14 rfl
        have w15 := hA8 15 rfl
        have w170 := hA8 170 rfl
        try simp (disch := first | exact dschE81 | fail) only [go_sem, ↓reduceIte, k11, k11, k13, k13, k14, k14, k15, k15] at w11 w13 w14 w15 w170
        
        have hlt2 : (((L.R.toNat : Nat) : Int) < L.R) = False := eq_false (by omega)
        have hsp := @Nat.succ_ne_zero; repeat' (first | simp (disch := first | exact dschE81 | fail) only [go_sem, ↓reduceIte, hsp, w11, w13, w14, w15, w170, w171, hlt2, run_awake] | refine WP_drw ?_ | refine cnd_intro (fun hsp => ?_) fun hsp => ?_)
        exact fB rfl ((((x1.trans xG1).trans x3).trans x36).trans xK)
end Go.AM
