/-
  The reference: a ribbon with a unit's fault turned (Turned); what that changes.
-/
import Derived.Test.YtikgghhceolaeaaU21
import Derived.Test.YtikgghhceolaeaaU19
set_option linter.unusedSimpArgs false
set_option linter.unusedVariables false
namespace Go.AM
open Go.Proofs.Try
theorem dschN37 {p : Prop} (h : p := by first | exact Nat.ne_of_beq_eq_false rfl | assumption | (apply asOne; (first | exact One.int | exact One.bool | assumption | exact Ints.one (by assumption) | exact Rows.one (by assumption) | exact Own.one (by assumption) | exact One.lit ⟨rfl, rfl, rfl⟩)) | (apply asInts; (repeat first | assumption | exact ints_nil | apply Ints.app); done) | (apply asRows; (repeat first | assumption | exact Rows.nil | apply Rows.app); done) | (apply asScal; (first | apply allS1 | apply allS2 | apply allS3 | apply allS4) <;> (first | exact One.int | exact One.bool | assumption | exact Ints.one (by assumption) | exact Rows.one (by assumption) | exact Own.one (by assumption) | exact One.lit ⟨rfl, rfl, rfl⟩)) | exact litT rfl | exact litF rfl | omega | (simp only [List.length_append, List.length_cons, List.length_nil, List.length_set, List.length_reverse]; first | done | omega) | fail) : p := h
attribute [-go_sem] put_ne put_same
attribute [local go_sem ↓] put_if
def turR (R : Rib) (u : Int) : Rib := ⟨R.L, turF R u, R.W⟩
def turN (R : Rib) (u : Int) (n : Nat) : List Int := (upto n).filter fun y => decide (y ∈ R.F) != decide (y = u)
theorem turN_succ {R : Rib} {u : Int} {n : Nat} : turN R u (n + 1) = turN R u n ++ if (decide ((n : Int) ∈ R.F) != decide ((n : Int) = u)) = true then [(n : Int)] else [] := by
  unfold turN
  rw [upto_succ, List.filter_append, List.filter_cons, List.filter_nil]
theorem turN_len {R : Rib} {u : Int} {n : Nat} : (turN R u n).length ≤ n := by
  unfold turN
  exact Nat.le_trans (List.length_filter_le _ _) (by rw [upto_len]; exact Nat.le_refl _)
theorem turN_b {R : Rib} {u : Int} {n : Nat} : ∀ y ∈ turN R u n, 0 ≤ y ∧ y < (n : Int) := fun y hy => upto_mem.1 (List.mem_filter.1 hy).1
theorem nqB : (binA prog BinOp.neq 4 (.bool true) (.bool true) = some (.bool false) ∧ binA prog BinOp.neq 4 (.bool true) (.bool false) = some (.bool true)) ∧ (binA prog BinOp.neq 4 (.bool false) (.bool true) = some (.bool true) ∧ binA prog BinOp.neq 4 (.bool false) (.bool false) = some (.bool false)) := ⟨⟨by kernel_rfl, by kernel_rfl⟩, by kernel_rfl, by kernel_rfl⟩
set_option maxRecDepth 100000 in
set_option maxHeartbeats 4000000 in
theorem run_turned {base : Nat} {h : Heap} {v : AVal} {R : Rib} {u : Int} (hb : base ≤ h.length) (hA : RibAt h v R) (hR : RibOk R) :
    Ret prog raw base (.fn 126 [] []) [v, .int .i64 u] h (fun w H => Ext h H ∧ RibAt H w (turR R u) ∧ ∃ fw ww, w = .agg [.int .i64 R.L, fw, ww] ∧ One fw ∧ One ww) := by
  have hAe := fun H (e : Ext h H) => hA.ext e
  obtain ⟨fv, wv, rfl, hF, hW⟩ := hA
  have o1 := hF.one
  have o2 := hW.one
  have hL := hR.L
  have hnF := hR.nF
  obtain ⟨n, en⟩ := Int.eq_ofNat_of_zero_le (show 0 ≤ R.L by omega)
  have en' : R.L.toNat = n := by omega
  obtain ⟨G1, eG1⟩ : ∃ G1, G1 = h ++ [rrbB R.L fv wv] ++ [rrbB 0 (.slice none 0 0) (.slice none 0 0)] := ⟨_, rfl⟩
  have x1 : Ext h G1 := by rw [eG1]; exact .app (.app .refl)
  have l1 : G1.length = h.length + 1 + 1 := by rw [eG1]; simp
  have g0 : G1[h.length]? = some (rrbB R.L fv wv) := by rw [eG1]; exact get_app (get_eq rfl)
  have g1 : G1[h.length + 1]? = some (rrbB 0 (.slice none 0 0) (.slice none 0 0)) := by rw [eG1]; exact get_eq (by simp)
  obtain ⟨G, eG⟩ : ∃ G, G = G1 ++ [rrbB R.L (.slice none 0 0) wv] := ⟨_, rfl⟩
  have xG : Ext G1 G := by rw [eG]; exact .app .refl
  have lG : G.length = h.length + 3 := by rw [eG]; simp [l1]
  have g2 : G[G1.length]? = some (rrbB R.L (.slice none 0 0) wv) := by rw [eG]; exact get_eq rfl
  unfold rrbB at eG1 eG
  have g0' := g0
  unfold rrbB at g0'
  refine ret_raw func126 rfl (by kernel_rfl) ?_
  have hsp := @Nat.succ_ne_zero; repeat' (first | simp (disch := first | exact dschN37 | fail) only [go_sem, ↓reduceIte, hsp, ← eG1, g0', ← eG] | refine WP_drw ?_ | refine cnd_intro (fun hsp => ?_) fun hsp => ?_)
  refine WP_count [(6, 30)] 0 n (Nat.zero_le _) (fun _ i fr K => fr 6 = .int .i64 (i : Int) ∧ Ext G1 K ∧ G.length ≤ K.length ∧ ∃ w, K[G1.length]? = some (rrbB R.L w wv) ∧ Own encI 3 G.length K w (turN R u i)) ?_ ?_ ?_
  · exact ⟨by (simp (disch := first | exact dschN37 | fail) only [go_sem, ↓reduceIte, Int.natCast_zero]; first | done | rfl), xG, by omega, .slice none 0 0, g2, Own.nil⟩
  · rintro i fr K hi0 hi hAg ⟨r6, xK, lK, w, gK, oW⟩
    have q1 := hAg 1 rfl
    have q2 := hAg 2 rfl
    have q4 := hAg 4 rfl
    have q5 := hAg 5 rfl
    try simp (disch := first | exact dschN37 | fail) only [go_sem, ↓reduceIte] at q1 q2 q4 q5
    have hlt : ((i : Int) < R.L) = True := eq_true (by omega)
    have g0K := xK.get g0'
    have ow := oW.one
    have htl := turN_len (R := R) (u := u) (n := i)
    have hfa := fun base => run_fault (base := base) (u := (i : Int)) (hAe K (x1.trans xK)) (by omega)
    have hsuc := turN_succ (R := R) (u := u) (n := i)
    unfold rrbB at gK
    by_cases c1 : (i : Int) ∈ R.F
    · rw [decide_eq_true c1] at hfa hsuc
      by_cases c2 : (i : Int) = u
      · have t2 : ((i : Int) = u) = True := eq_true c2
        rw [decide_eq_true c2, if_neg (by simp), List.append_nil] at hsuc
        have hsp := @Nat.succ_ne_zero; repeat' (first | simp (disch := first | exact dschN37 | fail) only [go_sem, ↓reduceIte, hsp, r6, q1, q2, q4, q5, g0K, hlt, hfa, t2, nqB.1.1, nqB.1.2, nqB.2.1, nqB.2.2] | refine WP_drw ?_ | refine cnd_intro (fun hsp => ?_) fun hsp => ?_)
        exact ⟨by (repeat first | exact Agree.refl | assumption | refine Agree.put rfl ?_ | refine Agree.put0 ?_ | refine Agree.sub rfl (by assumption) ?_), by omega, xK, lK, w, gK, by rw [hsuc]; exact oW⟩
      · have t2 : ((i : Int) = u) = False := eq_false c2
        rw [decide_eq_false c2, if_pos (show (true != false) = true from rfl)] at hsuc
        obtain ⟨w', K2, ea, oW', lW, eW, oneW, kW⟩ := oW.append1X (P := prog) (y := (i : Int)) (a := .int .i64 (i : Int)) (base := base) (t := 22) rfl rfl Fc.el22 encI_sc (by omega) (by omega) (by omega)
        have kW : KeepO encI 3 K K2 := kW
        have gK5 := kW.box gK
        have hsp := @Nat.succ_ne_zero; repeat' (first | simp (disch := first | exact dschN37 | fail) only [go_sem, ↓reduceIte, hsp, r6, q1, q2, q4, q5, g0K, hlt, hfa, t2, nqB.1.1, nqB.1.2, nqB.2.1, nqB.2.2, gK, ea, gK5] | refine WP_drw ?_ | refine cnd_intro (fun hsp => ?_) fun hsp => ?_)
        exact ⟨by (repeat first | exact Agree.refl | assumption | refine Agree.put rfl ?_ | refine Agree.put0 ?_ | refine Agree.sub rfl (by assumption) ?_), by omega, (eW G1 (by omega) xK).set (by omega), by omega, w', rfl, by rw [hsuc]; exact oW'.setBox gK5⟩
    · rw [decide_eq_false c1] at hfa hsuc
      by_cases c2 : (i : Int) = u
      · have t2 : ((i : Int) = u) = True := eq_true c2
        rw [decide_eq_true c2, if_pos (show (false != true) = true from rfl)] at hsuc
        obtain ⟨w', K2, ea, oW', lW, eW, oneW, kW⟩ := oW.append1X (P := prog) (y := (i : Int)) (a := .int .i64 (i : Int)) (base := base) (t := 22) rfl rfl Fc.el22 encI_sc (by omega) (by omega) (by omega)
        have kW : KeepO encI 3 K K2 := kW
        have gK5 := kW.box gK
        have hsp := @Nat.succ_ne_zero; repeat' (first | simp (disch := first | exact dschN37 | fail) only [go_sem, ↓reduceIte, hsp, r6, q1, q2, q4, q5, g0K, hlt, hfa, t2, nqB.1.1, nqB.1.2, nqB.2.1, nqB.2.2, gK, ea, gK5] | refine WP_drw ?_ | refine cnd_intro (fun hsp => ?_) fun hsp => ?_)
        exact ⟨by (repeat first | exact Agree.refl | assumption | refine Agree.put rfl ?_ | refine Agree.put0 ?_ | refine Agree.sub rfl (by assumption) ?_), by omega, (eW G1 (by omega) xK).set (by omega), by omega, w', rfl, by rw [hsuc]; exact oW'.setBox gK5⟩
      · have t2 : ((i : Int) = u) = False := eq_false c2
        rw [decide_eq_false c2, if_neg (by simp), List.append_nil] at hsuc
        have hsp := @Nat.succ_ne_zero; repeat' (first | simp (disch := first | exact dschN37 | fail) only [go_sem, ↓reduceIte, hsp, r6, q1, q2, q4, q5, g0K, hlt, hfa, t2, nqB.1.1, nqB.1.2, nqB.2.1, nqB.2.2] | refine WP_drw ?_ | refine cnd_intro (fun hsp => ?_) fun hsp => ?_)
        exact ⟨by (repeat first | exact Agree.refl | assumption | refine Agree.put rfl ?_ | refine Agree.put0 ?_ | refine Agree.sub rfl (by assumption) ?_), by omega, xK, lK, w, gK, by rw [hsuc]; exact oW⟩
  · rintro fr K hAg ⟨r6, xK, lK, w, gK, oW⟩
    have q1 := hAg 1 rfl
    have q2 := hAg 2 rfl
    have q4 := hAg 4 rfl
    have q5 := hAg 5 rfl
    try simp (disch := first | exact dschN37 | fail) only [go_sem, ↓reduceIte] at q1 q2 q4 q5
    have hlt : ((n : Int) < R.L) = False := eq_false (by omega)
    have g0K := xK.get g0'
    have g1K := xK.get g1
    have ow := oW.one
    unfold rrbB at gK g1K
    have hsp := @Nat.succ_ne_zero; repeat' (first | simp (disch := first | exact dschN37 | fail) only [go_sem, ↓reduceIte, hsp, r6, q1, q2, q4, q5, g0K, hlt, gK, g1K] | refine WP_drw ?_ | refine cnd_intro (fun hsp => ?_) fun hsp => ?_)
    have oW2 := oW.setBox (k := ⟨.cells [.int .i64 R.L, w, wv] 31 false false, 0⟩) g1K
    have xf : Ext h (K.set (h.length + 1) ⟨.cells [.int .i64 R.L, w, wv] 31 false false, 0⟩) := (x1.trans xK).set (by omega)
    have htl := turN_len (R := R) (u := u) (n := n)
    have etf : turF R u = turN R u n := by unfold turF turN; rw [en']
    refine ⟨xf, ⟨w, wv, rfl, ?_, hW.ext xf⟩, w, wv, rfl, ow, o2⟩
    show Ints _ w (turF R u)
    rw [etf]
    exact own_ints oW2 ⟨by omega, fun y hy => by have := turN_b y hy; omega⟩
end Go.AM
/-
  The reference: what a fault more, or less, changes (Changed, Damage, Mended).
-/
namespace Go.AM
open Go.Proofs.Try
theorem dschN38 {p : Prop} (h : p := by first | exact Nat.ne_of_beq_eq_false rfl | assumption | (apply asOne; (first | exact One.int | exact One.bool | assumption | exact Ints.one (by assumption) | exact Rows.one (by assumption) | exact Own.one (by assumption) | exact One.lit ⟨rfl, rfl, rfl⟩)) | (apply asInts; (repeat first | assumption | exact ints_nil | apply Ints.app); done) | (apply asRows; (repeat first | assumption | exact Rows.nil | apply Rows.app); done) | (apply asScal; (first | apply allS1 | apply allS2 | apply allS3 | apply allS4) <;> (first | exact One.int | exact One.bool | assumption | exact Ints.one (by assumption) | exact Rows.one (by assumption) | exact Own.one (by assumption) | exact One.lit ⟨rfl, rfl, rfl⟩)) | exact litT rfl | exact litF rfl | omega | (simp only [List.length_append, List.length_cons, List.length_nil, List.length_set, List.length_reverse]; first | done | omega) | fail) : p := h
attribute [-go_sem] put_ne put_same
attribute [local go_sem ↓] put_if
theorem tur_addR {R : Rib} (hR : RibOk R) {u : Int} (hu : 0 ≤ u ∧ u ≤ R.L - 1) (hn : u ∉ R.F) : turR R u = addR R u := by
  unfold turR addR; rw [tur_add hR hu hn]
theorem tur_delR {R : Rib} (hR : RibOk R) {u : Int} (hu : u ∈ R.F) : turR R u = delR R u := by
  unfold turR; rw [tur_del hR hu]; rfl
theorem val_b {R : Rib} (hR : RibOk R) : 0 ≤ valD R 0 ∧ valD R 0 ≤ 6000 := by
  have := folD_bd (b := false) (x := 0) hR
  rw [folD_e hR (by omega)] at this
  omega
set_option maxRecDepth 100000 in
set_option maxHeartbeats 4000000 in
theorem run_changed {base : Nat} {h : Heap} {v : AVal} {R : Rib} {u : Int} (hA : RibAt h v R) (hR : RibOk R) (hT : RibOk (turR R u)) :
    callL prog raw base (.fn 84 [] []) [v, .int .i64 u] h = some (.int .i64 (valD (turR R u) 0 - valD R 0), h) := by
  have hAe := fun H (e : Ext h H) => hA.ext e
  obtain ⟨fv, wv, rfl, hF, hW⟩ := hA
  have o1 := hF.one
  have o2 := hW.one
  obtain ⟨G0, eG0⟩ : ∃ G0, G0 = h ++ [rrbB R.L fv wv] := ⟨_, rfl⟩
  have x0 : Ext h G0 := by rw [eG0]; exact .app .refl
  have g0 : G0[h.length]? = some (rrbB R.L fv wv) := by rw [eG0]; exact get_eq rfl
  have l0 : G0.length = h.length + 1 := by rw [eG0]; simp
  have he := fun base => run_earned (base := base) (f := 0) (hAe G0 x0) hR (by omega)
  obtain ⟨_, G1, e1, x1, aT, fw, ww, rfl, ofw, oww⟩ := run_turned (base := h.length) (h := G0) (u := u) (by omega) (hAe G0 x0) hR
  have ht := fun base => run_earned (base := base) (f := 0) aT hT (by omega)
  rw [Int.natCast_zero] at he ht
  have g1 := x1.get g0
  have b1 := val_b hR
  have b2 := val_b hT
  obtain ⟨a, ea⟩ : ∃ a, a = valD (turR R u) 0 := ⟨_, rfl⟩
  obtain ⟨c, ec⟩ : ∃ c, c = valD R 0 := ⟨_, rfl⟩
  rw [← ea] at ht b2 ⊢
  rw [← ec] at he b1 ⊢
  unfold rrbB at eG0 g0 g1
  refine callL_run func84 rfl rfl ?_
  have hsp := @Nat.succ_ne_zero; repeat' (first | simp (disch := first | exact dschN38 | fail) only [go_sem, ↓reduceIte, hsp, ← eG0, g0, he, e1, g1, ht] | refine WP_drw ?_ | refine cnd_intro (fun hsp => ?_) fun hsp => ?_)
  exact fI rfl (x0.trans x1)
set_option maxRecDepth 100000 in
set_option maxHeartbeats 4000000 in
theorem run_rdamage {base : Nat} {h : Heap} {v : AVal} {R : Rib} {u : Int} (hA : RibAt h v R) (hR : RibOk R) :
    callL prog raw base (.fn 20 [] []) [v, .int .i64 u] h = some (.tuple [.int .i64 (dmgL R u).1, .int .i64 (dmgL R u).2], h) := by
  have hAe := fun H (e : Ext h H) => hA.ext e
  obtain ⟨fv, wv, rfl, hF, hW⟩ := hA
  have o1 := hF.one
  have o2 := hW.one
  have hL := hR.L
  have hnF := hR.nF
  obtain ⟨G0, eG0⟩ : ∃ G0, G0 = h ++ [rrbB R.L fv wv] := ⟨_, rfl⟩
  have x0 : Ext h G0 := by rw [eG0]; exact .app .refl
  have g0 : G0[h.length]? = some (rrbB R.L fv wv) := by rw [eG0]; exact get_eq rfl
  have hof := fun base => run_off (base := base) (h := G0) (n := u) (lo := 0) (hi := R.L - 1)
  have hfa := fun base => run_fault (base := base) (u := u) (hAe G0 x0) (by omega)
  have hn := lenI (hF.ext x0)
  unfold rrbB at eG0 g0
  refine callL_run func20 rfl rfl ?_
  by_cases c1 : 0 ≤ u ∧ u ≤ R.L - 1
  · rw [decide_eq_true c1] at hof
    by_cases c2 : u ∈ R.F
    · rw [decide_eq_true c2] at hfa
      rw [show dmgL R u = (0, 5) by unfold dmgL; rw [if_neg (fun q => q c1), if_pos c2]]
      have hsp := @Nat.succ_ne_zero; repeat' (first | simp (disch := first | exact dschN38 | fail) only [go_sem, ↓reduceIte, hsp, ← eG0, g0, hof, Bool.not_true, hfa] | refine WP_drw ?_ | refine cnd_intro (fun hsp => ?_) fun hsp => ?_)
      exact fin_pl rfl rfl x0
    · rw [decide_eq_false c2] at hfa
      by_cases c3 : (R.F.length : Int) = 12
      · have t3 : ((R.F.length : Int) = 12) = True := eq_true c3
        rw [show dmgL R u = (0, 9) by unfold dmgL; rw [if_neg (fun q => q c1), if_neg c2, if_pos c3]]
        have hsp := @Nat.succ_ne_zero; repeat' (first | simp (disch := first | exact dschN38 | fail) only [go_sem, ↓reduceIte, hsp, ← eG0, g0, hof, Bool.not_true, hfa, hn, t3] | refine WP_drw ?_ | refine cnd_intro (fun hsp => ?_) fun hsp => ?_)
        exact fin_pl rfl rfl x0
      · have t3 : ((R.F.length : Int) = 12) = False := eq_false c3
        have hT : RibOk (turR R u) := by rw [tur_addR hR c1 c2]; exact hR.add c1 c2 (by omega)
        have hch := fun base => run_changed (base := base) (u := u) (hAe G0 x0) hR hT
        have b1 := val_b hR
        have b2 := val_b hT
        rw [tur_addR hR c1 c2] at hch b2
        rw [show dmgL R u = (valD R 0 - valD (addR R u) 0, 0) by unfold dmgL; rw [if_neg (fun q => q c1), if_neg c2, if_neg c3]]
        obtain ⟨a, ea⟩ : ∃ a, a = valD (addR R u) 0 := ⟨_, rfl⟩
        obtain ⟨c, ec⟩ : ∃ c, c = valD R 0 := ⟨_, rfl⟩
        rw [← ea, ← ec] at hch
        rw [← ea] at b2 ⊢
        rw [← ec] at b1 ⊢
        have hsp := @Nat.succ_ne_zero; repeat' (first | simp (disch := first | exact dschN38 | fail) only [go_sem, ↓reduceIte, hsp, ← eG0, g0, hof, Bool.not_true, hfa, hn, t3, hch] | refine WP_drw ?_ | refine cnd_intro (fun hsp => ?_) fun hsp => ?_)
        exact fin_pl (by rw [show 0 - (a - c) = c - a by omega]) rfl x0
  · rw [decide_eq_false c1] at hof
    rw [show dmgL R u = (0, 1) by unfold dmgL; rw [if_pos c1]]
    have hsp := @Nat.succ_ne_zero; repeat' (first | simp (disch := first | exact dschN38 | fail) only [go_sem, ↓reduceIte, hsp, ← eG0, g0, hof, Bool.not_false] | refine WP_drw ?_ | refine cnd_intro (fun hsp => ?_) fun hsp => ?_)
    exact fin_pl rfl rfl x0
set_option maxRecDepth 100000 in
set_option maxHeartbeats 4000000 in
theorem run_rmended {base : Nat} {h : Heap} {v : AVal} {R : Rib} {u : Int} (hA : RibAt h v R) (hR : RibOk R) :
    callL prog raw base (.fn 21 [] []) [v, .int .i64 u] h = some (.tuple [.int .i64 (menL R u).1, .int .i64 (menL R u).2], h) := by
  have hAe := fun H (e : Ext h H) => hA.ext e
  obtain ⟨fv, wv, rfl, hF, hW⟩ := hA
  have o1 := hF.one
  have o2 := hW.one
  have hL := hR.L
  have hnF := hR.nF
  obtain ⟨G0, eG0⟩ : ∃ G0, G0 = h ++ [rrbB R.L fv wv] := ⟨_, rfl⟩
  have x0 : Ext h G0 := by rw [eG0]; exact .app .refl
  have g0 : G0[h.length]? = some (rrbB R.L fv wv) := by rw [eG0]; exact get_eq rfl
  have hof := fun base => run_off (base := base) (h := G0) (n := u) (lo := 0) (hi := R.L - 1)
  have hfa := fun base => run_fault (base := base) (u := u) (hAe G0 x0) (by omega)
  unfold rrbB at eG0 g0
  refine callL_run func21 rfl rfl ?_
  by_cases c1 : 0 ≤ u ∧ u ≤ R.L - 1
  · rw [decide_eq_true c1] at hof
    by_cases c2 : u ∈ R.F
    · rw [decide_eq_true c2] at hfa
      have hT : RibOk (turR R u) := by rw [tur_delR hR c2]; exact hR.del c2
      have hch := fun base => run_changed (base := base) (u := u) (hAe G0 x0) hR hT
      rw [tur_delR hR c2] at hch
      rw [show menL R u = (valD (delR R u) 0 - valD R 0, 0) by unfold menL; rw [if_neg (fun q => q c1), if_pos c2]]
      have hsp := @Nat.succ_ne_zero; repeat' (first | simp (disch := first | exact dschN38 | fail) only [go_sem, ↓reduceIte, hsp, ← eG0, g0, hof, Bool.not_true, hfa, hch] | refine WP_drw ?_ | refine cnd_intro (fun hsp => ?_) fun hsp => ?_)
      exact fin_pl rfl rfl x0
    · rw [decide_eq_false c2] at hfa
      rw [show menL R u = (0, 6) by unfold menL; rw [if_neg (fun q => q c1), if_neg c2]]
      have hsp := @Nat.succ_ne_zero; repeat' (first | simp (disch := first | exact dschN38 | fail) only [go_sem, ↓reduceIte, hsp, ← eG0, g0, hof, Bool.not_true, Bool.not_false, hfa] | refine WP_drw ?_ | refine cnd_intro (fun hsp => ?_) fun hsp => ?_)
      exact fin_pl rfl rfl x0
  · rw [decide_eq_false c1] at hof
    rw [show menL R u = (0, 1) by unfold menL; rw [if_pos c1]]
    have hsp := @Nat.succ_ne_zero; repeat' (first | simp (disch := first | exact dschN38 | fail) only [go_sem, ↓reduceIte, hsp, ← eG0, g0, hof, Bool.not_false] | refine WP_drw ?_ | refine cnd_intro (fun hsp => ?_) fun hsp => ?_)
    exact fin_pl rfl rfl x0
end Go.AM
/-
  CutFaults, walked.
-/
namespace Go.AM
open Go.Proofs.Try
theorem dschN39 {p : Prop} (h : p := by first | exact Nat.ne_of_beq_eq_false rfl | assumption | (apply asOne; (first | exact One.int | exact One.bool | assumption | exact Ints.one (by assumption) | exact Rows.one (by assumption) | exact Own.one (by assumption) | exact One.lit ⟨rfl, rfl, rfl⟩)) | (apply asInts; (repeat first | assumption | exact ints_nil | apply Ints.app); done) | (apply asRows; (repeat first | assumption | exact Rows.nil | apply Rows.app); done) | (apply asScal; (first | apply allS1 | apply allS2 | apply allS3 | apply allS4) <;> (first | exact One.int | exact One.bool | assumption | exact Ints.one (by assumption) | exact Rows.one (by assumption) | exact Own.one (by assumption) | exact One.lit ⟨rfl, rfl, rfl⟩)) | exact litT rfl | exact litF rfl | omega | (simp only [List.length_append, List.length_cons, List.length_nil, List.length_set, List.length_reverse]; first | done | omega) | fail) : p := h
attribute [-go_sem] put_ne put_same
attribute [local go_sem ↓] put_if
set_option maxRecDepth 100000 in
set_option maxHeartbeats 8000000 in
theorem run_CutFaults {base : Nat} {h : Heap} {v0 v1 : AVal} (hA0 : RibN 1048576 h v0) (hu0 : IntW h v1) :
    callL prog raw base (.fn 3 [] []) [v0, v1] h = some (.bool true, h) := by
  obtain ⟨R, hA, -, -⟩ := hA0
  obtain ⟨u, rfl, hu1, hu2⟩ := hu0
  have hAA := hA
  obtain ⟨fv, wv, rfl, hF, hW⟩ := hAA
  have o1 := hF.one
  have o2 := hW.one
  obtain ⟨G0, eG0⟩ : ∃ G0, G0 = h ++ [ribB R.L fv wv] := ⟨_, rfl⟩
  have x0 : Ext h G0 := by rw [eG0]; exact .app .refl
  have g0 : G0[h.length]? = some (ribB R.L fv wv) := by rw [eG0]; exact get_eq rfl
  have lG0 : G0.length = h.length + 1 := by rw [eG0]; simp
  have hg := fun base => run_wide (base := base) (m := 40) (hA.ext x0)
  have haw := fun base => run_awake (base := base) (h := G0)
  unfold ribB at eG0
  have g0' := g0
  unfold ribB at g0'
  refine callL_run func3 rfl rfl ?_
  rcases Bool.eq_false_or_eq_true (decide (20 < R.F.length ∨ 12 < R.W.length) || (decide (40 < R.L) && decide (R.L ≤ 60))) with cg | cg
  · rw [cg] at hg
    have hsp := @Nat.succ_ne_zero; repeat' (first | simp (disch := first | exact dschN39 | fail) only [go_sem, ↓reduceIte, hsp, ← eG0, g0', hg, haw] | refine WP_drw ?_ | refine cnd_intro (fun hsp => ?_) fun hsp => ?_)
    exact fB rfl x0
  · rw [cg] at hg
    simp only [Bool.or_eq_false_iff, Bool.and_eq_false_iff, decide_eq_false_iff_not] at cg
    obtain ⟨_, G1, e1, x1, fw, ww, rfl, oF, oW⟩ := run_own (base := h.length) (h := G0) (by omega) (hA.ext x0) (by omega) (by omega)
    have l1 := x1.len
    obtain ⟨_, G2, e2, x2, aT, fw2, ww2, rfl, of2, ow2⟩ := run_theirs (base := h.length) (h := G1) (by omega) (hA.ext (x0.trans x1)) (by omega) (by omega)
    have l2 := x2.len
    have ofw := oF.one
    have oww := oW.one
    obtain ⟨G4, eG4⟩ : ∃ G4, G4 = G2 ++ [ribB R.L fw ww] ++ [rrbB R.L fw2 ww2] := ⟨_, rfl⟩
    have x4 : Ext G2 G4 := by rw [eG4]; exact .app (.app .refl)
    have l4 : G4.length = G2.length + 2 := by rw [eG4]; simp
    have gO4 : G4[G2.length]? = some (ribB R.L fw ww) := by rw [eG4]; exact get_app (get_eq rfl)
    have gT4 : G4[G2.length + 1]? = some (rrbB R.L fw2 ww2) := by rw [eG4]; exact get_eq (by simp)
    have x14 := x2.trans x4
    have xh4 : Ext h G4 := (x0.trans x1).trans x14
    have aO4 : RibAt G4 (.agg [.int .i64 R.L, fw, ww]) R := ⟨fw, ww, rfl, (ownE_ints oF ⟨by omega, hF.1.2⟩).ext x14, (oW.rows (by omega)).ext x14⟩
    have aT4 : RibAt G4 (.agg [.int .i64 R.L, fw2, ww2]) R := aT.ext x4
    have gc4 : G4[h.length]? = some (ribB R.L fv wv) := (x1.trans x14).get g0
    have hck := fun base => run_rcheck (base := base) aT4 (by omega) (by omega)
    have g01 := x1.get g0'
    have cd := fun base => run_Damage (base := base) (u := u) aO4 (by omega) ⟨hu1, hu2⟩
    have cm := fun base => run_Mended (base := base) (u := u) aO4 (by omega)
    have q3 := fun base => run_same (base := base) aO4 (hA.ext xh4) (by omega)
    have q5 := fun base => run_awake (base := base) (h := G4)
    unfold ribB rrbB at eG4
    unfold rrbB at gT4
    unfold ribB at gO4 gc4
    by_cases c : chkR R = 0
    · have hok := chkR_iff.1 c
      rw [c] at hck
      have rd := fun base => run_rdamage (base := base) (u := u) aT4 hok
      have rm := fun base => run_rmended (base := base) (u := u) aT4 hok
      have ed : dmgE R u = dmgL R u := by unfold dmgE; rw [if_neg (fun q => q c)]
      have em : menE R u = menL R u := by unfold menE; rw [if_neg (fun q => q c)]
      rw [ed] at cd
      rw [em] at cm
      have hsp := @Nat.succ_ne_zero; repeat' (first | simp (disch := first | exact dschN39 | fail) only [go_sem, ↓reduceIte, hsp, ← eG0, g0', hg, e1, g01, e2, ← eG4, gT4, hck, eq_self, rd, rm, gO4, cd, cm, decide_true, gc4, q3, q5] | refine WP_drw ?_ | refine cnd_intro (fun hsp => ?_) fun hsp => ?_)
      exact fB rfl xh4
    · have tu : (chkR R = 0) = False := eq_false c
      have ed : dmgE R u = (0, chkR R) := by unfold dmgE; rw [if_pos c]
      have em : menE R u = (0, chkR R) := by unfold menE; rw [if_pos c]
      rw [ed] at cd
      rw [em] at cm
      have hsp := @Nat.succ_ne_zero; repeat' (first | simp (disch := first | exact dschN39 | fail) only [go_sem, ↓reduceIte, hsp, ← eG0, g0', hg, e1, g01, e2, ← eG4, gT4, hck, eq_self, tu, gO4, cd, cm, decide_true, gc4, q3, q5] | refine WP_drw ?_ | refine cnd_intro (fun hsp => ?_) fun hsp => ?_)
      exact fB rfl xh4
end Go.AM
