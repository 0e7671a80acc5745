/-
  The reference: the error of a ribbon, whether a unit is a fault, whether there is a want and a unit.
-/
import Derived.Test.YtikgghhceolaeaaU17
import Derived.Test.YtikgghhceolaeaaU11
import Derived.KernelRfl
set_option linter.unusedSimpArgs false
set_option linter.unusedVariables false
namespace Go.AM
open Go.Proofs.Try
theorem dschN23 {p : Prop} (h : p := by first | exact Nat.ne_of_beq_eq_false rfl | assumption | (apply asOne; (first | exact One.int | exact One.bool | assumption | exact Ints.one (by assumption) | exact Rows.one (by assumption) | exact Own.one (by assumption) | exact One.lit ⟨rfl, rfl, rfl⟩)) | (apply asInts; (repeat first | assumption | exact ints_nil | apply Ints.app); done) | (apply asRows; (repeat first | assumption | exact Rows.nil | apply Rows.app); done) | (apply asScal; apply allS5 <;> exact One.int)  | (apply asScal; (first | apply allS1 | apply allS2 | apply allS3 | apply allS4) <;> (first | exact One.int | exact One.bool | assumption | exact Ints.one (by assumption) | exact Rows.one (by assumption) | exact Own.one (by assumption) | exact One.lit ⟨rfl, rfl, rfl⟩)) | exact litT rfl | exact litF rfl | omega | (simp only [List.length_append, List.length_cons, List.length_nil, List.length_set, List.length_reverse]; first | done | omega) | fail) : p := h
attribute [-go_sem] put_ne put_same
attribute [local go_sem ↓] put_if
abbrev rrbB (L : Int) (fv wv : AVal) : ABlk := ⟨.cells [.int .i64 L, fv, wv] 31 false false, 0⟩
abbrev rwtB (w : Wnt) : ABlk := ⟨.cells [.int .i64 w.lg, .int .i64 w.pr, .int .i64 w.off, .int .i64 w.fl, .int .i64 w.jn] 118 false false, 0⟩
theorem run_off {base : Nat} {h : Heap} {n lo hi : Int} : callL prog raw base (.fn 82 [] []) [.int .i64 n, .int .i64 lo, .int .i64 hi] h = some (.bool (!decide (lo ≤ n ∧ n ≤ hi)), h) := by
  refine callL_run func82 rfl rfl ?_
  by_cases h1 : n < lo
  · have t1 : (n < lo) = True := eq_true h1
    have hsp := @Nat.succ_ne_zero; repeat' (first | simp (disch := first | exact dschN23 | fail) only [go_sem, ↓reduceIte, hsp, t1] | refine WP_drw ?_ | refine cnd_intro (fun hsp => ?_) fun hsp => ?_)
    refine fB ?_
    rw [decide_eq_false (by omega)]; rfl
  · have t1 : (n < lo) = False := eq_false h1
    have hsp := @Nat.succ_ne_zero; repeat' (first | simp (disch := first | exact dschN23 | fail) only [go_sem, ↓reduceIte, hsp, t1] | refine WP_drw ?_ | refine cnd_intro (fun hsp => ?_) fun hsp => ?_)
    refine fB ?_
    by_cases h2 : n > hi
    · rw [decide_eq_true h2, decide_eq_false (by omega)]; rfl
    · rw [decide_eq_false h2, decide_eq_true (by omega)]; rfl
section
variable {h : Heap} {wv : AVal} {W : List Wnt} {i : Nat} {w : Wnt}
theorem rwn_len (hR : Rows encW h wv W) : lenOpA prog h 29 wv = some (.int .i64 (W.length : Int)) := hR.len (P := prog) Fc.el29
theorem rwn_ad (hR : Rows encW h wv W) (hi : i < W.length) : indexAddrA prog 29 wv (.int .i64 (i : Int)) = some (elAdr wv encW.z i 0) := by
  have := hR.addr (P := prog) (i := (i : Int)) Fc.el29 Fc.ar29 (by omega) (by omega)
  rwa [Int.toNat_natCast] at this
theorem rwn_ld (hR : Rows encW h wv W) (hx : W[i]? = some w) : loadP prog h 118 (elAdr wv encW.z i 0) = some (.agg [.int .i64 w.lg, .int .i64 w.pr, .int .i64 w.off, .int .i64 w.fl, .int .i64 w.jn]) := hR.load (P := prog) Fc.ty118 hx
theorem rwn_f0 (hR : Rows encW h wv W) (hi : i < W.length) : fieldAddrA prog 118 (elAdr wv encW.z i 0) 0 = some (elAdr wv encW.z i 0) := elAdr_field (P := prog) (i := i) (o := 0) (off := 0) (q := false) (n := 1) hR hi (by kernel_rfl) (by decide)
theorem rwn_f1 (hR : Rows encW h wv W) (hi : i < W.length) : fieldAddrA prog 118 (elAdr wv encW.z i 0) 1 = some (elAdr wv encW.z i 1) := elAdr_field (P := prog) (i := i) (o := 0) (off := 1) (q := false) (n := 1) hR hi (by kernel_rfl) (by decide)
theorem rwn_l0 (hR : Rows encW h wv W) (hx : W[i]? = some w) : loadP prog h 3 (elAdr wv encW.z i 0) = some (.int .i64 w.lg) := hR.cell (P := prog) Fc.ty3 hx (o := 0) (a := .int .i64 w.lg) rfl
theorem rwn_l1 (hR : Rows encW h wv W) (hx : W[i]? = some w) : loadP prog h 3 (elAdr wv encW.z i 1) = some (.int .i64 w.pr) := hR.cell (P := prog) Fc.ty3 hx (o := 1) (a := .int .i64 w.pr) rfl
end
theorem take_succD {l : List Int} {i : Nat} (hi : i < l.length) : l.take (i + 1) = l.take i ++ [l.getD i 0] := by
  rw [List.take_add_one, getD_some (d := 0) hi]; rfl
theorem all_takeW {α : Type} {p : α → Bool} {l : List α} {n : Nat} {x : α} (hx : l[n]? = some x) (h : (l.take n).all p = true) (hp : p x = true) : (l.take (n + 1)).all p = true := by
  rw [List.take_add_one, hx]
  simp only [Option.toList, List.all_append, h, List.all_cons, hp, List.all_nil]
  rfl
theorem all_noW {α : Type} {p : α → Bool} {l : List α} {n : Nat} {x : α} (hx : l[n]? = some x) (hp : p x = false) : l.all p = false := by
  rw [Bool.eq_false_iff]
  intro h
  have := List.all_eq_true.1 h x (List.mem_of_getElem? hx)
  rw [hp] at this; cases this
set_option maxRecDepth 100000 in
set_option maxHeartbeats 4000000 in
theorem run_rcheck {base : Nat} {h : Heap} {v : AVal} {R : Rib} (hA : RibAt h v R) (hfl : R.F.length ≤ 1000) (hwl : R.W.length ≤ 1000) : callL prog raw base (.fn 19 [] []) [v] h = some (.int .i64 (chkR R), h) := by
  obtain ⟨fv, wv, rfl, hF, hW⟩ := hA
  have o1 := hF.one
  have o2 := hW.one
  obtain ⟨G, eG⟩ : ∃ G, G = h ++ [rrbB R.L fv wv] := ⟨_, rfl⟩
  have xG : Ext h G := by rw [eG]; exact .app .refl
  have g0 : G[h.length]? = some (rrbB R.L fv wv) := by rw [eG]; exact get_eq rfl
  have iF := hF.ext xG
  have iW := hW.ext xG
  have hn1 := lenI iF
  have hn2 := rwn_len iW
  have of0 := fun base => run_off (base := base) (h := G) (n := R.L) (lo := 1) (hi := 60)
  unfold rrbB at eG g0
  refine callL_run func19 rfl rfl ?_
  by_cases c0 : 1 ≤ R.L ∧ R.L ≤ 60
  · rw [decide_eq_true c0] at of0
    by_cases c1 : (R.F.length : Int) > 12
    · have t1 : ((R.F.length : Int) > 12) = True := eq_true c1
      have hsp := @Nat.succ_ne_zero; repeat' (first | simp (disch := first | exact dschN23 | fail) only [go_sem, ↓reduceIte, hsp, ← eG, g0, of0, Bool.not_true, hn1, t1] | refine WP_drw ?_ | refine cnd_intro (fun hsp => ?_) fun hsp => ?_)
      refine fI ?_ xG
      unfold chkR
      rw [if_pos (.inr (.inl c1))]
    · have t1 : ((R.F.length : Int) > 12) = False := eq_false c1
      by_cases c2 : (R.W.length : Int) > 6
      · have t2 : ((R.W.length : Int) > 6) = True := eq_true c2
        have hsp := @Nat.succ_ne_zero; repeat' (first | simp (disch := first | exact dschN23 | fail) only [go_sem, ↓reduceIte, hsp, ← eG, g0, of0, Bool.not_true, hn1, t1, hn2, t2] | refine WP_drw ?_ | refine cnd_intro (fun hsp => ?_) fun hsp => ?_)
        refine fI ?_ xG
        unfold chkR
        rw [if_pos (.inr (.inr c2))]
      · have t2 : ((R.W.length : Int) > 6) = False := eq_false c2
        have u0 : ¬ (¬ (1 ≤ R.L ∧ R.L ≤ 60) ∨ (R.F.length : Int) > 12 ∨ (R.W.length : Int) > 6) := by omega
        have hsp := @Nat.succ_ne_zero; repeat' (first | simp (disch := first | exact dschN23 | fail) only [go_sem, ↓reduceIte, hsp, ← eG, g0, of0, Bool.not_true, hn1, t1, hn2, t2] | refine WP_drw ?_ | refine cnd_intro (fun hsp => ?_) fun hsp => ?_)
        refine WP_count [(2, 56)] 0 R.W.length (Nat.zero_le _) (fun _ i fr H => fr 3 = .int .i64 (i : Int) ∧ Ext G H ∧ (R.W.take i).all wntB = true) ?_ ?_ ?_
        · exact ⟨by (simp (disch := first | exact dschN23 | fail) only [go_sem, ↓reduceIte, Int.natCast_zero]; first | done | rfl), .refl, by simp⟩
        · rintro i fr H hi0 hi hA ⟨r3, xH, ha⟩
          have q1 := hA 1 rfl
          try simp (disch := first | exact dschN23 | fail) only [go_sem, ↓reduceIte] at q1
          have hlt : ((i : Int) < (R.W.length : Int)) = True := eq_true (by omega)
          have iH := iW.ext xH
          have hnH := rwn_len iH
          obtain ⟨w, ew⟩ : ∃ w, w = R.W[i] := ⟨_, rfl⟩
          have hx : R.W[i]? = some w := by rw [ew]; exact List.getElem?_eq_getElem hi
          have a1 := rwn_ad iH hi
          have b1 := rwn_ld iH hx
          have gH := xH.get g0
          obtain ⟨K, eK⟩ : ∃ K, K = H ++ [rwtB w] := ⟨_, rfl⟩
          have xK : Ext H K := by rw [eK]; exact .app .refl
          have gK : K[H.length]? = some (rwtB w) := by rw [eK]; exact get_eq rfl
          have f1 := fun base => run_off (base := base) (h := K) (n := w.lg) (lo := 1) (hi := 60)
          have f2 := fun base => run_off (base := base) (h := K) (n := w.pr) (lo := 0) (hi := 100)
          have f3 := fun base => run_off (base := base) (h := K) (n := w.off) (lo := 0) (hi := 20)
          have f4 := fun base => run_off (base := base) (h := K) (n := w.fl) (lo := 0) (hi := 4)
          have f5 := fun base => run_off (base := base) (h := K) (n := w.jn) (lo := 0) (hi := 4)
          have xf := (xG.trans xH).trans xK
          have lGH := (xG.trans xH).len
          unfold rwtB at eK gK
          have bad : wntB w = false → chkR R = 3 := fun q => by unfold chkR; rw [if_neg u0, if_pos (by rw [all_noW hx q]; simp)]
          by_cases d1 : 1 ≤ w.lg ∧ w.lg ≤ 60
          · rw [decide_eq_true d1] at f1
            by_cases d2 : 0 ≤ w.pr ∧ w.pr ≤ 100
            · rw [decide_eq_true d2] at f2
              by_cases d3 : 0 ≤ w.off ∧ w.off ≤ 20
              · rw [decide_eq_true d3] at f3
                by_cases d4 : 0 ≤ w.fl ∧ w.fl ≤ 4
                · rw [decide_eq_true d4] at f4
                  by_cases d5 : 0 ≤ w.jn ∧ w.jn ≤ 4
                  · rw [decide_eq_true d5] at f5
                    have hsp := @Nat.succ_ne_zero; repeat' (first | simp (disch := first | exact dschN23 | fail) only [go_sem, ↓reduceIte, hsp, r3, q1, gH, hnH, hlt, a1, b1, ← eK, gK, f1, f2, f3, f4, f5, Bool.not_true] | refine WP_drw ?_ | refine cnd_intro (fun hsp => ?_) fun hsp => ?_)
                    exact ⟨by (repeat first | exact Agree.refl | assumption | refine Agree.put rfl ?_ | refine Agree.put0 ?_ | refine Agree.sub rfl (by assumption) ?_), by omega, xH.trans xK, all_takeW hx ha (wntB_iff.2 ⟨d1, d2, d3, d4, d5⟩)⟩
                  · rw [decide_eq_false d5] at f5
                    rw [bad (by unfold wntB; rw [decide_eq_false d5, Bool.and_false])]
                    have hsp := @Nat.succ_ne_zero; repeat' (first | simp (disch := first | exact dschN23 | fail) only [go_sem, ↓reduceIte, hsp, r3, q1, gH, hnH, hlt, a1, b1, ← eK, gK, f1, f2, f3, f4, f5, Bool.not_true, Bool.not_false] | refine WP_drw ?_ | refine cnd_intro (fun hsp => ?_) fun hsp => ?_)
                    exact fI rfl xf
                · rw [decide_eq_false d4] at f4
                  rw [bad (by unfold wntB; rw [decide_eq_false d4]; simp)]
                  have hsp := @Nat.succ_ne_zero; repeat' (first | simp (disch := first | exact dschN23 | fail) only [go_sem, ↓reduceIte, hsp, r3, q1, gH, hnH, hlt, a1, b1, ← eK, gK, f1, f2, f3, f4, Bool.not_true, Bool.not_false] | refine WP_drw ?_ | refine cnd_intro (fun hsp => ?_) fun hsp => ?_)
                  exact fI rfl xf
              · rw [decide_eq_false d3] at f3
                rw [bad (by unfold wntB; rw [decide_eq_false d3]; simp)]
                have hsp := @Nat.succ_ne_zero; repeat' (first | simp (disch := first | exact dschN23 | fail) only [go_sem, ↓reduceIte, hsp, r3, q1, gH, hnH, hlt, a1, b1, ← eK, gK, f1, f2, f3, Bool.not_true, Bool.not_false] | refine WP_drw ?_ | refine cnd_intro (fun hsp => ?_) fun hsp => ?_)
                exact fI rfl xf
            · rw [decide_eq_false d2] at f2
              rw [bad (by unfold wntB; rw [decide_eq_false d2]; simp)]
              have hsp := @Nat.succ_ne_zero; repeat' (first | simp (disch := first | exact dschN23 | fail) only [go_sem, ↓reduceIte, hsp, r3, q1, gH, hnH, hlt, a1, b1, ← eK, gK, f1, f2, Bool.not_true, Bool.not_false] | refine WP_drw ?_ | refine cnd_intro (fun hsp => ?_) fun hsp => ?_)
              exact fI rfl xf
          · rw [decide_eq_false d1] at f1
            rw [bad (by unfold wntB; rw [decide_eq_false d1]; simp)]
            have hsp := @Nat.succ_ne_zero; repeat' (first | simp (disch := first | exact dschN23 | fail) only [go_sem, ↓reduceIte, hsp, r3, q1, gH, hnH, hlt, a1, b1, ← eK, gK, f1, Bool.not_true, Bool.not_false] | refine WP_drw ?_ | refine cnd_intro (fun hsp => ?_) fun hsp => ?_)
            exact fI rfl xf
        · rintro fr H hA ⟨r3, xH, ha⟩
          have q1 := hA 1 rfl
          try simp (disch := first | exact dschN23 | fail) only [go_sem, ↓reduceIte] at q1
          have hlt : ((R.W.length : Int) < (R.W.length : Int)) = False := eq_false (by omega)
          rw [List.take_length] at ha
          have hnH := rwn_len (iW.ext xH)
          have gH := xH.get g0
          have iH := iF.ext xH
          have hnF := lenI iH
          have xh := xG.trans xH
          have u3 : ¬ ¬ R.W.all wntB = true := by rw [ha]; simp
          have hsp := @Nat.succ_ne_zero; repeat' (first | simp (disch := first | exact dschN23 | fail) only [go_sem, ↓reduceIte, hsp, r3, q1, gH, hnH, hlt] | refine WP_drw ?_ | refine cnd_intro (fun hsp => ?_) fun hsp => ?_)
          refine WP_count [(2, 72)] 0 R.F.length (Nat.zero_le _) (fun _ i fr K => fr 5 = .int .i64 (i : Int) ∧ K = H ∧ (R.F.take i).all (fun x => decide (0 ≤ x ∧ x ≤ R.L - 1)) = true) ?_ ?_ ?_
          · exact ⟨by (simp (disch := first | exact dschN23 | fail) only [go_sem, ↓reduceIte, Int.natCast_zero]; first | done | rfl), rfl, by simp⟩
          · rintro i fr2 K hi0 hi hA2 ⟨r5, rfl, hb⟩
            have d1 := hA2 1 rfl
            try simp (disch := first | exact dschN23 | fail) only [go_sem, ↓reduceIte, q1] at d1
            have hlt2 : ((i : Int) < (R.F.length : Int)) = True := eq_true (by omega)
            have ai := adrI (i := (i : Int)) (by omega) iH (by omega)
            rw [Int.toNat_natCast] at ai
            have li := loadI iH hi
            have hx : R.F[i]? = some (R.F.getD i 0) := getD_some hi
            have ho := fun base => run_off (base := base) (h := K) (n := R.F.getD i 0) (lo := 0) (hi := R.L - 1)
            by_cases e1 : 0 ≤ R.F.getD i 0 ∧ R.F.getD i 0 ≤ R.L - 1
            · rw [decide_eq_true e1] at ho
              have hsp := @Nat.succ_ne_zero; repeat' (first | simp (disch := first | exact dschN23 | fail) only [go_sem, ↓reduceIte, hsp, r5, d1, q1, gH, hnF, hlt2, ai, li, ho, Bool.not_true] | refine WP_drw ?_ | refine cnd_intro (fun hsp => ?_) fun hsp => ?_)
              exact ⟨by (repeat first | exact Agree.refl | assumption | refine Agree.put rfl ?_ | refine Agree.put0 ?_ | refine Agree.sub rfl (by assumption) ?_), by omega, all_takeW hx hb (decide_eq_true e1)⟩
            · rw [decide_eq_false e1] at ho
              have hsp := @Nat.succ_ne_zero; repeat' (first | simp (disch := first | exact dschN23 | fail) only [go_sem, ↓reduceIte, hsp, r5, d1, q1, gH, hnF, hlt2, ai, li, ho, Bool.not_false] | refine WP_drw ?_ | refine cnd_intro (fun hsp => ?_) fun hsp => ?_)
              refine fI ?_ xh
              unfold chkR
              rw [if_neg u0, if_neg u3, if_pos (by rw [all_noW hx (decide_eq_false e1)]; simp)]
          · rintro fr2 K hA2 ⟨r5, rfl, hb⟩
            have d1 := hA2 1 rfl
            try simp (disch := first | exact dschN23 | fail) only [go_sem, ↓reduceIte, q1] at d1
            have hlt2 : ((R.F.length : Int) < (R.F.length : Int)) = False := eq_false (by omega)
            rw [List.take_length] at hb
            have u4 : ¬ ¬ (R.F.all fun x => decide (0 ≤ x ∧ x ≤ R.L - 1)) = true := by rw [hb]; simp
            have hsp := @Nat.succ_ne_zero; repeat' (first | simp (disch := first | exact dschN23 | fail) only [go_sem, ↓reduceIte, hsp, r5, d1, q1, gH, hnF, hlt2] | refine WP_drw ?_ | refine cnd_intro (fun hsp => ?_) fun hsp => ?_)
            refine WP_count [(2, 91)] 1 (max 1 R.F.length) (by omega) (fun _ i fr K2 => fr 6 = .int .i64 (i : Int) ∧ K2 = K ∧ ∀ j, 0 < j → j < i → R.F.getD (j - 1) 0 < R.F.getD j 0) ?_ ?_ ?_
            · exact ⟨by (simp (disch := first | exact dschN23 | fail) only [go_sem, ↓reduceIte, Int.natCast_zero]; first | done | rfl), rfl, fun j h1 h2 => by omega⟩
            · rintro i fr3 K2 hi0 hi hA3 ⟨r6, rfl, hs⟩
              have f1 := hA3 1 rfl
              try simp (disch := first | exact dschN23 | fail) only [go_sem, ↓reduceIte, d1] at f1
              have hil : i < R.F.length := by omega
              have hlt3 : ((i : Int) < (R.F.length : Int)) = True := eq_true (by omega)
              have ai := adrI (i := (i : Int)) (by omega) iH (by omega)
              rw [Int.toNat_natCast] at ai
              have li := loadI iH hil
              have ei : ((i : Int) - 1).toNat = i - 1 := by omega
              have aj := adrI (i := (i : Int) - 1) (by omega) iH (by omega)
              rw [ei] at aj
              have lj := loadI iH (i := i - 1) (by omega)
              by_cases e1 : R.F.getD i 0 ≤ R.F.getD (i - 1) 0
              · have t3 : (R.F.getD i 0 ≤ R.F.getD (i - 1) 0) = True := eq_true e1
                have hsp := @Nat.succ_ne_zero; repeat' (first | simp (disch := first | exact dschN23 | fail) only [go_sem, ↓reduceIte, hsp, r6, f1, d1, q1, gH, hnF, hlt3, ai, li, aj, lj, t3] | refine WP_drw ?_ | refine cnd_intro (fun hsp => ?_) fun hsp => ?_)
                refine fI ?_ xh
                unfold chkR
                rw [if_neg u0, if_neg u3, if_neg u4, if_pos]
                intro hp
                have hp := of_decide_eq_true (rise_iff.2 hp) i hil (by omega)
                omega
              · have t3 : (R.F.getD i 0 ≤ R.F.getD (i - 1) 0) = False := eq_false e1
                have hsp := @Nat.succ_ne_zero; repeat' (first | simp (disch := first | exact dschN23 | fail) only [go_sem, ↓reduceIte, hsp, r6, f1, d1, q1, gH, hnF, hlt3, ai, li, aj, lj, t3] | refine WP_drw ?_ | refine cnd_intro (fun hsp => ?_) fun hsp => ?_)
                refine ⟨by (repeat first | exact Agree.refl | assumption | refine Agree.put rfl ?_ | refine Agree.put0 ?_ | refine Agree.sub rfl (by assumption) ?_), by omega, fun j h1 h2 => ?_⟩
                by_cases ej : j = i
                · rw [ej]; omega
                · exact hs j h1 (by omega)
            · rintro fr3 K2 hA3 ⟨r6, rfl, hs⟩
              have f1 := hA3 1 rfl
              try simp (disch := first | exact dschN23 | fail) only [go_sem, ↓reduceIte, d1] at f1
              have hlt3 : (((max 1 R.F.length : Nat) : Int) < (R.F.length : Int)) = False := eq_false (by omega)
              have hsp := @Nat.succ_ne_zero; repeat' (first | simp (disch := first | exact dschN23 | fail) only [go_sem, ↓reduceIte, hsp, r6, f1, d1, q1, gH, hnF, hlt3] | refine WP_drw ?_ | refine cnd_intro (fun hsp => ?_) fun hsp => ?_)
              refine fI ?_ xh
              unfold chkR
              rw [if_neg u0, if_neg u3, if_neg u4, if_neg]
              intro hq
              exact hq (rise_iff.1 (decide_eq_true fun i h1 h2 => hs i h2 (by omega)))
  · rw [decide_eq_false c0] at of0
    have hsp := @Nat.succ_ne_zero; repeat' (first | simp (disch := first | exact dschN23 | fail) only [go_sem, ↓reduceIte, hsp, ← eG, g0, of0, Bool.not_false] | refine WP_drw ?_ | refine cnd_intro (fun hsp => ?_) fun hsp => ?_)
    refine fI ?_ xG
    unfold chkR
    rw [if_pos (.inl c0)]
end Go.AM
/-
  Plain: the flaws of what a cut takes, one by one.
-/
namespace Go.AM
def flC (bad : Nat → Bool) (j : Bool) (l : List Int) (i : Nat) : Bool := (!j && bad (l.getD i 0).toNat) || (j && (decide (0 < i) && decide (l.getD i 0 > l.getD (i - 1) 0 + 1)))
def flN (bad : Nat → Bool) (j : Bool) (l : List Int) : Nat → Int
  | 0 => 0
  | n + 1 => flN bad j l n + if flC bad j l n = true then 1 else 0
section
variable {bad : Nat → Bool} {j : Bool} {lg : Int}
theorem getD_appL {l m : List Int} {i : Nat} (h : i < l.length) : (l ++ m).getD i 0 = l.getD i 0 := by
  rw [List.getD_eq_getElem?_getD, List.getD_eq_getElem?_getD, List.getElem?_append_left h]
theorem getD_appE {l : List Int} {x : Int} : (l ++ [x]).getD l.length 0 = x := by
  rw [List.getD_eq_getElem?_getD, List.getElem?_append_right (Nat.le_refl _)]; simp
theorem flN_app {l m : List Int} : ∀ {n}, n ≤ l.length → flN bad j (l ++ m) n = flN bad j l n
  | 0, _ => rfl
  | n + 1, h => by
    rw [flN, flN, flN_app (by omega)]
    have : flC bad j (l ++ m) n = flC bad j l n := by
      unfold flC
      rw [getD_appL (by omega)]
      by_cases h0 : 0 < n
      · rw [getD_appL (show n - 1 < l.length by omega)]
      · rw [decide_eq_false h0]; simp
    rw [this]
theorem flN_b {l : List Int} : ∀ {n}, 0 ≤ flN bad j l n ∧ flN bad j l n ≤ n
  | 0 => by simp [flN]
  | n + 1 => by
    have := flN_b (l := l) (n := n)
    rw [flN]; split <;> omega
theorem unL_fl {n x : Nat} : (unL bad j lg n x [] 0).2 = flN bad j (unL bad j lg n x [] 0).1 (unL bad j lg n x [] 0).1.length := by
  obtain ⟨u, _, _, h, _⟩ := unL_inv (bad := bad) (j := j) (lg := lg) (I := fun _ o f => f = flN bad j o o.length) (fun u o f h _ => by
    unfold unS
    by_cases c : (j && bad u) = true
    · rw [if_pos c]; exact h
    · rw [if_neg c]
      simp only [List.length_append, List.length_cons, List.length_nil, Nat.zero_add]
      rw [flN, flN_app (Nat.le_refl _), ← h]
      have e : flC bad j (o ++ [(u : Int)]) o.length = (j && gapB o u || bad u) := by
        unfold flC gapB
        rw [getD_appE]
        cases j with
        | false => simp
        | true =>
          have hb : bad u = false := by simpa using c
          rw [hb]
          by_cases h0 : 0 < o.length
          · rw [getD_appL (show o.length - 1 < o.length by omega)]
            simp only [Bool.not_true, Bool.false_and, Bool.false_or, Bool.true_and, Bool.or_false]
            congr 1
            exact decide_eq_decide.2 (by omega)
          · rw [decide_eq_false h0]; simp
      rw [e]
      split <;> omega) n x [] 0 rfl
  exact h
theorem unL_pre : ∀ (n u : Nat) (o : List Int) (f : Int), ∃ m, (unL bad j lg n u o f).1 = o ++ m
  | 0, u, o, f => ⟨[], by simp [unL]⟩
  | n + 1, u, o, f => by
    unfold unL
    split
    · obtain ⟨m, hm⟩ := unL_pre n (u + 1) (unS bad j u o f).1 (unS bad j u o f).2
      rw [hm]
      unfold unS
      split
      · exact ⟨m, rfl⟩
      · exact ⟨(u : Int) :: m, by simp⟩
    · exact ⟨[], by simp⟩
end
/-- The first unit that a cut takes. -/
theorem uniP_head {R : Rib} {w : Wnt} {x : Nat} {j : Bool} (hw : WntOk w) (hx : x < R.L.toNat) (h : (j && badF R x) = false) : (uniP R w x j).1.getD 0 0 = (x : Int) ∧ 0 < (uniP R w x j).1.length := by
  have h0 := hw.lg
  unfold uniP
  rw [show R.L.toNat - x = (R.L.toNat - (x + 1)) + 1 by omega, unL, if_pos (by simp; omega)]
  obtain ⟨m, hm⟩ := unL_pre (bad := badF R) (j := j) (lg := w.lg) (R.L.toNat - (x + 1)) (x + 1) (unS (badF R) j x [] 0).1 (unS (badF R) j x [] 0).2
  rw [hm]
  unfold unS
  rw [if_neg (by rw [h]; simp)]
  simp
theorem uniP_bad {R : Rib} {w : Wnt} {x : Nat} (hw : WntOk w) (hx : x < R.L.toNat) (h : badF R x = true) : ∀ y ∈ (uniP R w x true).1, (x : Int) < y := by
  have h0 := hw.lg
  unfold uniP
  rw [show R.L.toNat - x = (R.L.toNat - (x + 1)) + 1 by omega, unL, if_pos (by simp; omega)]
  have e : unS (badF R) true x [] 0 = ([], 0) := by unfold unS; rw [h]; rfl
  rw [e]
  obtain ⟨u, _, _, hk, _⟩ := unL_inv (bad := badF R) (j := true) (lg := w.lg) (I := UnK (x + 1) 0 w.lg) (fun u o f h hl => h.step hl) (R.L.toNat - (x + 1)) (x + 1) [] 0 UnK.start
  intro y hy
  have := hk.b y hy; omega
end Go.AM
/-
  The reference: faults, what a cut takes, whether it is allowed.
-/
namespace Go.AM
open Go.Proofs.Try
theorem dschN24 {p : Prop} (h : p := by first | exact Nat.ne_of_beq_eq_false rfl | assumption | (apply asOne; (first | exact One.int | exact One.bool | assumption | exact Ints.one (by assumption) | exact Rows.one (by assumption) | exact Own.one (by assumption) | exact One.lit ⟨rfl, rfl, rfl⟩)) | (apply asInts; (repeat first | assumption | exact ints_nil | apply Ints.app); done) | (apply asRows; (repeat first | assumption | exact Rows.nil | apply Rows.app); done) | (apply asScal; apply allS5 <;> exact One.int)  | (apply asScal; (first | apply allS1 | apply allS2 | apply allS3 | apply allS4) <;> (first | exact One.int | exact One.bool | assumption | exact Ints.one (by assumption) | exact Rows.one (by assumption) | exact Own.one (by assumption) | exact One.lit ⟨rfl, rfl, rfl⟩)) | exact litT rfl | exact litF rfl | omega | (simp only [List.length_append, List.length_cons, List.length_nil, List.length_set, List.length_reverse]; first | done | omega) | fail) : p := h
attribute [-go_sem] put_ne put_same
attribute [local go_sem ↓] put_if
abbrev rctB (c : Ct) : ABlk := ⟨.cells [.int .i64 c.w, .int .i64 c.f, .bool c.j] 80 false false, 0⟩
theorem run_fault {base : Nat} {h : Heap} {v : AVal} {R : Rib} {u : Int} (hA : RibAt h v R) (hfl : R.F.length ≤ 1000) : callL prog raw base (.fn 83 [] []) [v, .int .i64 u] h = some (.bool (decide (u ∈ R.F)), h) := by
  obtain ⟨fv, wv, rfl, hF, hW⟩ := hA
  have o1 := hF.one
  have o2 := hW.one
  obtain ⟨G, eG⟩ : ∃ G, G = h ++ [rrbB R.L fv wv] := ⟨_, rfl⟩
  have xG : Ext h G := by rw [eG]; exact .app .refl
  have g0 : G[h.length]? = some (rrbB R.L fv wv) := by rw [eG]; exact get_eq rfl
  have iF := hF.ext xG
  have hn1 := lenI iF
  unfold rrbB at eG g0
  refine callL_run func83 rfl rfl ?_
  have hsp := @Nat.succ_ne_zero; repeat' (first | simp (disch := first | exact dschN24 | fail) only [go_sem, ↓reduceIte, hsp, ← eG] | refine WP_drw ?_ | refine cnd_intro (fun hsp => ?_) fun hsp => ?_)
  refine WP_count [(4, 19)] 0 R.F.length (Nat.zero_le _) (fun _ i fr H => fr 5 = .int .i64 (i : Int) ∧ H = G ∧ u ∉ R.F.take i) ?_ ?_ ?_
  · exact ⟨by (simp (disch := first | exact dschN24 | fail) only [go_sem, ↓reduceIte, Int.natCast_zero]; first | done | rfl), rfl, by simp⟩
  · rintro i fr H hi0 hi hA ⟨r5, rfl, hno⟩
    have q1 := hA 1 rfl
    have q2 := hA 2 rfl
    try simp (disch := first | exact dschN24 | fail) only [go_sem, ↓reduceIte] at q1 q2
    have hlt : ((i : Int) < (R.F.length : Int)) = True := eq_true (by omega)
    have ai := adrI (i := (i : Int)) (by omega) iF (by omega)
    rw [Int.toNat_natCast] at ai
    have li := loadI iF hi
    by_cases c : R.F.getD i 0 = u
    · have t1 : (R.F.getD i 0 = u) = True := eq_true c
      have hsp := @Nat.succ_ne_zero; repeat' (first | simp (disch := first | exact dschN24 | fail) only [go_sem, ↓reduceIte, hsp, r5, q1, q2, g0, hn1, hlt, ai, li, t1] | refine WP_drw ?_ | refine cnd_intro (fun hsp => ?_) fun hsp => ?_)
      exact fB (decide_eq_true (by rw [← c]; exact getD_mem' hi)).symm xG
    · have t1 : (R.F.getD i 0 = u) = False := eq_false c
      have hsp := @Nat.succ_ne_zero; repeat' (first | simp (disch := first | exact dschN24 | fail) only [go_sem, ↓reduceIte, hsp, r5, q1, q2, g0, hn1, hlt, ai, li, t1] | refine WP_drw ?_ | refine cnd_intro (fun hsp => ?_) fun hsp => ?_)
      refine ⟨by (repeat first | exact Agree.refl | assumption | refine Agree.put rfl ?_ | refine Agree.put0 ?_ | refine Agree.sub rfl (by assumption) ?_), by omega, ?_⟩
      rw [take_succD hi, List.mem_append]
      rintro (z | z)
      · exact hno z
      · simp at z; exact c z.symm
  · rintro fr H hA ⟨r5, rfl, hno⟩
    have q1 := hA 1 rfl
    have q2 := hA 2 rfl
    try simp (disch := first | exact dschN24 | fail) only [go_sem, ↓reduceIte] at q1 q2
    have hlt : ((R.F.length : Int) < (R.F.length : Int)) = False := eq_false (by omega)
    rw [List.take_length] at hno
    have hsp := @Nat.succ_ne_zero; repeat' (first | simp (disch := first | exact dschN24 | fail) only [go_sem, ↓reduceIte, hsp, r5, q1, q2, g0, hn1, hlt] | refine WP_drw ?_ | refine cnd_intro (fun hsp => ?_) fun hsp => ?_)
    exact fB (decide_eq_false hno).symm xG
set_option maxRecDepth 100000 in
set_option maxHeartbeats 4000000 in
theorem run_takes {base : Nat} {h : Heap} {v : AVal} {R : Rib} {k x : Nat} {j : Bool} {w : Wnt} (hb : base ≤ h.length) (hA : RibAt h v R) (hR : RibOk R) (hw : R.W[k]? = some w) (hx : x < R.L.toNat) :
    Ret prog raw base (.fn 94 [] []) [v, .agg [.int .i64 (k : Int), .int .i64 (x : Int), .bool j]] h (fun u H => Ext h H ∧ Own encI 3 h.length H u (uniP R w x j).1) := by
  have hAe := fun H (e : Ext h H) => hA.ext e
  obtain ⟨fv, wv, rfl, hF, hW⟩ := hA
  have o1 := hF.one
  have o2 := hW.one
  have hL := hR.L
  have hnF := hR.nF
  have hk := (List.getElem?_eq_some_iff.1 hw).1
  have hlg := (hR.W w (List.mem_of_getElem? hw)).lg
  obtain ⟨G, eG⟩ : ∃ G, G = h ++ [rrbB R.L fv wv] ++ [rctB ⟨k, x, j⟩] := ⟨_, rfl⟩
  have xG : Ext h G := by rw [eG]; exact .app (.app .refl)
  have g0 : G[h.length]? = some (rrbB R.L fv wv) := by rw [eG]; exact get_app (get_eq rfl)
  have g1 : G[h.length + 1]? = some (rctB ⟨k, x, j⟩) := by rw [eG]; exact get_eq (by simp)
  have lG : G.length = h.length + 2 := by rw [eG]; simp
  unfold rrbB at eG g0
  unfold rctB at eG g1
  refine ret_raw func94 rfl (by kernel_rfl) ?_
  have hsp := @Nat.succ_ne_zero; repeat' (first | simp (disch := first | exact dschN24 | fail) only [go_sem, ↓reduceIte, hsp, eG.symm, g1] | refine WP_drw ?_ | refine cnd_intro (fun hsp => ?_) fun hsp => ?_)
  refine WP_cmeet [(5, 39)] x R.L.toNat (Nat.le_of_lt hx) (fun _ i fr H => fr 6 = .int .i64 (i : Int) ∧ ∃ ov o f, fr 5 = ov ∧ Ext G H ∧ Own encI 3 G.length H ov o ∧ unL (badF R) j w.lg (R.L.toNat - i) i o f = uniP R w x j ∧ UnK x 0 w.lg i o f) (fun fr H => ∃ ov, fr 5 = ov ∧ Ext G H ∧ Own encI 3 G.length H ov (uniP R w x j).1) ?_ ?_ ?_ ?_
  · exact ⟨by (simp (disch := first | exact dschN24 | fail) only [go_sem, ↓reduceIte, Int.natCast_zero]; first | done | rfl), _, _, _, by simp (disch := first | exact dschN24 | fail) only [go_sem, ↓reduceIte], .refl, Own.nil, rfl, UnK.start⟩
  · rintro i fr H hi0 hi hA ⟨r6, ov, o, f, r5, xH, hO, hun, hK⟩
    have p2 := hA 2 rfl
    have p3 := hA 3 rfl
    have p4 := hA 4 rfl
    try simp (disch := first | exact dschN24 | fail) only [go_sem, ↓reduceIte] at p2 p3 p4
    have g0H := xH.get g0
    have g1H := xH.get g1
    have lH := xH.len
    have hsm := unK_small hK (by omega)
    have hno := lenI (own_ints hO hsm)
    have oO := hO.one
    have iW := hW.ext (xG.trans xH)
    have a1 := rwn_ad iW hk
    have a2 := rwn_f0 iW hk
    have a3 := rwn_l0 iW hw
    have hlt : ((i : Int) < R.L) = True := eq_true (by omega)
    have hfa := fun base => run_fault (base := base) (u := (i : Int)) (hAe H (xG.trans xH)) (by omega)
    rw [show decide ((i : Int) ∈ R.F) = badF R i from rfl] at hfa
    by_cases c1 : (o.length : Int) < w.lg
    · have t1 : ((o.length : Int) < w.lg) = True := eq_true c1
      have hK2 := hK.step (j := j) (bad := badF R) c1
      rw [unL_at hi, if_pos c1] at hun
      have hol := hK.n
      obtain ⟨ov', H', ea, oO', l', e', on'⟩ := hO.append1 (P := prog) (y := (i : Int)) (a := .int .i64 (i : Int)) (base := base) (t := 22) rfl rfl Fc.el22 encI_sc (show base ≤ G.length by omega) lH (by omega)
      have xH2 := e' G (Nat.le_refl _) xH
      cases j with
      | false =>
        have eS : (unS (badF R) false i o f).1 = o ++ [(i : Int)] := by unfold unS; rfl
        rw [eS] at hun hK2
        have hsp := @Nat.succ_ne_zero; repeat' (first | simp (disch := first | exact dschN24 | fail) only [go_sem, ↓reduceIte, hsp, r6, r5, p2, p3, p4, g0H, g1H, hlt, hno, a1, a2, a3, t1, ea] | refine WP_drw ?_ | refine cnd_intro (fun hsp => ?_) fun hsp => ?_)
        exact ⟨by (repeat first | exact Agree.refl | assumption | refine Agree.put rfl ?_ | refine Agree.put0 ?_ | refine Agree.sub rfl (by assumption) ?_), by omega, ov', _, _, rfl, xH2, oO', hun, hK2⟩
      | true =>
        rcases Bool.eq_false_or_eq_true (badF R i) with qb | qb
        · rw [qb] at hfa
          have eS : unS (badF R) true i o f = (o, f) := by unfold unS; rw [qb]; rfl
          rw [eS] at hun hK2
          have hsp := @Nat.succ_ne_zero; repeat' (first | simp (disch := first | exact dschN24 | fail) only [go_sem, ↓reduceIte, hsp, r6, r5, p2, p3, p4, g0H, g1H, hlt, hno, a1, a2, a3, t1, hfa] | refine WP_drw ?_ | refine cnd_intro (fun hsp => ?_) fun hsp => ?_)
          exact ⟨by (repeat first | exact Agree.refl | assumption | refine Agree.put rfl ?_ | refine Agree.put0 ?_ | refine Agree.sub rfl (by assumption) ?_), by omega, ov, o, f, rfl, xH, hO, hun, hK2⟩
        · rw [qb] at hfa
          have eS : (unS (badF R) true i o f).1 = o ++ [(i : Int)] := by unfold unS; rw [qb]; rfl
          rw [eS] at hun hK2
          have hsp := @Nat.succ_ne_zero; repeat' (first | simp (disch := first | exact dschN24 | fail) only [go_sem, ↓reduceIte, hsp, r6, r5, p2, p3, p4, g0H, g1H, hlt, hno, a1, a2, a3, t1, hfa, ea] | refine WP_drw ?_ | refine cnd_intro (fun hsp => ?_) fun hsp => ?_)
          exact ⟨by (repeat first | exact Agree.refl | assumption | refine Agree.put rfl ?_ | refine Agree.put0 ?_ | refine Agree.sub rfl (by assumption) ?_), by omega, ov', _, _, rfl, xH2, oO', hun, hK2⟩
    · have t1 : ((o.length : Int) < w.lg) = False := eq_false c1
      rw [unL_at hi, if_neg c1] at hun
      have hsp := @Nat.succ_ne_zero; repeat' (first | simp (disch := first | exact dschN24 | fail) only [go_sem, ↓reduceIte, hsp, r6, r5, p2, p3, p4, g0H, g1H, hlt, hno, a1, a2, a3, t1] | refine WP_drw ?_ | refine cnd_intro (fun hsp => ?_) fun hsp => ?_)
      rw [← hun]
      exact ⟨by (repeat first | exact Agree.refl | assumption | refine Agree.put rfl ?_ | refine Agree.put0 ?_ | refine Agree.sub rfl (by assumption) ?_), ov, rfl, xH, hO⟩
  · rintro fr H hA ⟨r6, ov, o, f, r5, xH, hO, hun, hK⟩
    have p2 := hA 2 rfl
    have p3 := hA 3 rfl
    have p4 := hA 4 rfl
    try simp (disch := first | exact dschN24 | fail) only [go_sem, ↓reduceIte] at p2 p3 p4
    have g0H := xH.get g0
    have hlt : (((R.L.toNat : Nat) : Int) < R.L) = False := eq_false (by omega)
    rw [Nat.sub_self, unL] at hun
    have oO := hO.one
    have hsp := @Nat.succ_ne_zero; repeat' (first | simp (disch := first | exact dschN24 | fail) only [go_sem, ↓reduceIte, hsp, r6, r5, p2, p3, p4, g0H, hlt] | refine WP_drw ?_ | refine cnd_intro (fun hsp => ?_) fun hsp => ?_)
    rw [← hun]
    exact ⟨by (repeat first | exact Agree.refl | assumption | refine Agree.put rfl ?_ | refine Agree.put0 ?_ | refine Agree.sub rfl (by assumption) ?_), ov, rfl, xH, hO⟩
  · rintro fr H hA ⟨ov, r5, xH, hO⟩
    have p2 := hA 2 rfl
    have p3 := hA 3 rfl
    have p4 := hA 4 rfl
    try simp (disch := first | exact dschN24 | fail) only [go_sem, ↓reduceIte] at p2 p3 p4
    have oO := hO.one
    have hsp := @Nat.succ_ne_zero; repeat' (first | simp (disch := first | exact dschN24 | fail) only [go_sem, ↓reduceIte, hsp, r5, p2, p3, p4] | refine WP_drw ?_ | refine cnd_intro (fun hsp => ?_) fun hsp => ?_)
    exact ⟨xG.trans xH, hO.low (by omega)⟩
end Go.AM
/-
  The reference: whether a cut is allowed.
-/
namespace Go.AM
open Go.Proofs.Try
theorem dschN25 {p : Prop} (h : p := by first | exact Nat.ne_of_beq_eq_false rfl | assumption | (apply asOne; (first | exact One.int | exact One.bool | assumption | exact Ints.one (by assumption) | exact Rows.one (by assumption) | exact Own.one (by assumption) | exact One.lit ⟨rfl, rfl, rfl⟩)) | (apply asInts; (repeat first | assumption | exact ints_nil | apply Ints.app); done) | (apply asRows; (repeat first | assumption | exact Rows.nil | apply Rows.app); done) | (apply asScal; apply allS5 <;> exact One.int)  | (apply asScal; (first | apply allS1 | apply allS2 | apply allS3 | apply allS4) <;> (first | exact One.int | exact One.bool | assumption | exact Ints.one (by assumption) | exact Rows.one (by assumption) | exact Own.one (by assumption) | exact One.lit ⟨rfl, rfl, rfl⟩)) | exact litT rfl | exact litF rfl | omega | (simp only [List.length_append, List.length_cons, List.length_nil, List.length_set, List.length_reverse]; first | done | omega) | fail) : p := h
attribute [-go_sem] put_ne put_same
attribute [local go_sem ↓] put_if
def allV : Option (Int × Int) → AVal
  | some e => .tuple [.int .i64 e.1, .int .i64 e.2, .bool true]
  | none => .tuple [.int .i64 0, .int .i64 0, .bool false]
set_option maxRecDepth 100000 in
set_option maxHeartbeats 4000000 in
theorem run_allowed {base : Nat} {h : Heap} {v : AVal} {R : Rib} {k x : Nat} {j : Bool} {w : Wnt} (hA : RibAt h v R) (hR : RibOk R) (hw : R.W[k]? = some w) (hx : x < R.L.toNat) :
    callL prog raw base (.fn 44 [] []) [v, .agg [.int .i64 (k : Int), .int .i64 (x : Int), .bool j]] h = some (allV (takL R w x j), h) := by
  have hAe := fun H (e : Ext h H) => hA.ext e
  obtain ⟨fv, wv, rfl, hF, hW⟩ := hA
  have o1 := hF.one
  have o2 := hW.one
  have hL := hR.L
  have hnF := hR.nF
  have hk := (List.getElem?_eq_some_iff.1 hw).1
  have hwo := hR.W w (List.mem_of_getElem? hw)
  have hlg := hwo.lg
  have hpr := hwo.pr
  have hof := hwo.off
  have hfl4 := hwo.fl
  have hjn4 := hwo.jn
  obtain ⟨G, eG⟩ : ∃ G, G = h ++ [rrbB R.L fv wv] ++ [rctB ⟨k, x, j⟩] := ⟨_, rfl⟩
  have xG : Ext h G := by rw [eG]; exact .app (.app .refl)
  have g0 : G[h.length]? = some (rrbB R.L fv wv) := by rw [eG]; exact get_app (get_eq rfl)
  have g1 : G[h.length + 1]? = some (rctB ⟨k, x, j⟩) := by rw [eG]; exact get_eq (by simp)
  have lG : G.length = h.length + 2 := by rw [eG]; simp
  obtain ⟨H1, eH1⟩ : ∃ H1, H1 = G ++ [rwtB w] := ⟨_, rfl⟩
  have x1 : Ext G H1 := by rw [eH1]; exact .app .refl
  have g01 := x1.get g0
  have g11 := x1.get g1
  have g21 : H1[G.length]? = some (rwtB w) := by rw [eH1]; exact get_eq rfl
  have l1 : H1.length = h.length + 3 := by rw [eH1]; simp [lG]
  obtain ⟨lv, H2, e2, x2, oV⟩ := run_takes (base := h.length) (k := k) (x := x) (j := j) (by omega) (hAe H1 (xG.trans x1)) hR hw hx
  have g02 := x2.get g01
  have g12 := x2.get g11
  have g22 := x2.get g21
  have l2 := x2.len
  have xh := (xG.trans x1).trans x2
  obtain ⟨u0, hu1, hu2, hUK0, hful⟩ := uniP_k (w := w) (j := j) hR hx
  have hUK : UnK x 0 w.lg R.L.toNat (uniP R w x j).1 (uniP R w x j).2 := hUK0.mono hu2
  have hfu : (uniP R w x j).2 = flN (badF R) j (uniP R w x j).1 (uniP R w x j).1.length := unL_fl
  have hhd := fun q => uniP_head (j := j) hwo hx q
  have hbd := fun (e : j = true) (q : badF R x = true) => uniP_bad hwo hx q
  obtain ⟨l, el0⟩ : ∃ l, l = (uniP R w x j).1 := ⟨_, rfl⟩
  obtain ⟨f, ef0⟩ : ∃ f, f = (uniP R w x j).2 := ⟨_, rfl⟩
  rw [← el0, ← ef0] at hUK hfu
  rw [← el0] at oV hhd
  have hlsm := unK_small hUK (by omega)
  have iL := own_ints oV hlsm
  have hnl := lenI iL
  have olv := oV.one
  have hg := hUK.g
  have hf := hUK.f
  have hn' := hUK.n
  have hmul : 0 ≤ w.off * f ∧ w.off * f ≤ 1200 := ⟨Int.mul_nonneg hof.1 hf.1, by
    have := Int.mul_le_mul hof.2 (show f ≤ 60 by omega) hf.1 (by omega : (0 : Int) ≤ 20)
    omega⟩
  have hfa := fun base (u : Int) => run_fault (base := base) (u := u) (hAe H2 xh) (by omega)
  have hfal := hful
  rw [← el0] at hfal
  have a1 := rwn_ad (hW.ext xG) hk
  have a2 := rwn_ld (hW.ext xG) hw
  unfold rrbB at eG g0 g01 g02
  unfold rctB at eG g1 g11 g12
  unfold rwtB at eH1 g21 g22
  refine callL_run func44 rfl rfl ?_
  by_cases c1 : (l.length : Int) < w.lg
  · have t1 : ((l.length : Int) < w.lg) = True := eq_true c1
    have et : takL R w x j = none := by
      unfold takL
      rw [if_neg]
      rintro ⟨q, _⟩
      unfold okT at q
      rw [← el0, Bool.and_eq_true, decide_eq_true_eq] at q
      omega
    rw [et]
    have hsp := @Nat.succ_ne_zero; repeat' (first | simp (disch := first | exact dschN25 | fail) only [go_sem, ↓reduceIte, hsp, eG.symm, g0, g1, a1, a2, ← eH1, g01, g11, e2, hnl, g22, t1] | refine WP_drw ?_ | refine cnd_intro (fun hsp => ?_) fun hsp => ?_)
    exact fin_pl rfl rfl xh
  · have t1 : ((l.length : Int) < w.lg) = False := eq_false c1
    have hlen : (l.length : Int) = w.lg := by omega
    have a0 := adrI (i := 0) (by omega) iL (by omega)
    have l0' := loadI iL (i := 0) (by omega)
    rcases Bool.eq_false_or_eq_true (j && badF R x) with hj | hj
    · obtain ⟨rfl, hbx⟩ := Bool.and_eq_true_iff.1 hj
      have hne := hbd rfl hbx (l.getD 0 0) (by rw [← el0]; exact getD_mem' (by omega))
      have t2 : (l.getD 0 0 = (x : Int)) = False := eq_false (by omega)
      have et : takL R w x true = none := by
        unfold takL okT
        rw [hj, if_neg (fun q => by simp at q)]
      rw [et]
      have hsp := @Nat.succ_ne_zero; repeat' (first | simp (disch := first | exact dschN25 | fail) only [go_sem, ↓reduceIte, hsp, eG.symm, g0, g1, a1, a2, ← eH1, g01, g11, e2, hnl, g22, t1, a0, l0', g12, t2] | refine WP_drw ?_ | refine cnd_intro (fun hsp => ?_) fun hsp => ?_)
      exact fin_pl rfl rfl xh
    · have t2 : (l.getD 0 0 = (x : Int)) = True := eq_true (hhd hj).1
      have hok : okT R w x j = true := by unfold okT; rw [hj, ← el0, decide_eq_true hlen]; rfl
      cases j with
      | false =>
        have hsp := @Nat.succ_ne_zero; repeat' (first | simp (disch := first | exact dschN25 | fail) only [go_sem, ↓reduceIte, hsp, eG.symm, g0, g1, a1, a2, ← eH1, g01, g11, e2, hnl, g22, t1, a0, l0', g12, t2] | refine WP_drw ?_ | refine cnd_intro (fun hsp => ?_) fun hsp => ?_)
        refine WP_count [(9, 9), (11, 79)] 0 l.length (Nat.zero_le _) (fun _ i fr H => fr 11 = .int .i64 (i : Int) ∧ H = H2 ∧ fr 9 = .int .i64 (flN (badF R) false l i)) ?_ ?_ ?_
        · exact ⟨by (simp (disch := first | exact dschN25 | fail) only [go_sem, ↓reduceIte, Int.natCast_zero]; first | done | rfl), rfl, by simp (disch := first | exact dschN25 | fail) only [go_sem, ↓reduceIte]; rfl⟩
        · rintro i fr H hi0 hi hA ⟨r11, rfl, r9⟩
          have p2 := hA 2 rfl
          have p3 := hA 3 rfl
          have p4 := hA 4 rfl
          have p5 := hA 5 rfl
          have p6 := hA 6 rfl
          have p7 := hA 7 rfl
          have p8 := hA 8 rfl
          have p10 := hA 10 rfl
          try simp (disch := first | exact dschN25 | fail) only [go_sem, ↓reduceIte] at p2 p3 p4 p5 p6 p7 p8 p10
          have hlt : ((i : Int) < (l.length : Int)) = True := eq_true (by omega)
          have ai := adrI (i := (i : Int)) (by omega) iL (by omega)
          rw [Int.toNat_natCast] at ai
          have li := loadI iL hi
          have hfl := flN_b (bad := badF R) (j := false) (l := l) (n := i)
          have hst : flN (badF R) false l (i + 1) = flN (badF R) false l i + if flC (badF R) false l i = true then 1 else 0 := rfl
          have hyb := hUK.b _ (getD_mem' (l := l) (d := 0) hi)
          rcases Bool.eq_false_or_eq_true (badF R (l.getD i 0).toNat) with qb | qb
          · have hfi := fun base => hfa base (l.getD i 0)
            rw [show decide (l.getD i 0 ∈ R.F) = true by rw [← qb]; unfold badF; congr 2; omega] at hfi
            have hc : flC (badF R) false l i = true := by unfold flC; rw [qb]; rfl
            rw [hc, if_pos rfl] at hst
            have hsp := @Nat.succ_ne_zero; repeat' (first | simp (disch := first | exact dschN25 | fail) only [go_sem, ↓reduceIte, hsp, r11, r9, p2, p3, p4, p5, p6, p7, p8, p10, hnl, hlt, ai, li, g12, g02, hfi] | refine WP_drw ?_ | refine cnd_intro (fun hsp => ?_) fun hsp => ?_)
            exact ⟨by (repeat first | exact Agree.refl | assumption | refine Agree.put rfl ?_ | refine Agree.put0 ?_ | refine Agree.sub rfl (by assumption) ?_), by omega, by rw [hst]⟩
          · have hfi := fun base => hfa base (l.getD i 0)
            rw [show decide (l.getD i 0 ∈ R.F) = false by rw [← qb]; unfold badF; congr 2; omega] at hfi
            have hc : flC (badF R) false l i = false := by unfold flC; rw [qb]; rfl
            rw [hc, if_neg (by simp), Int.add_zero] at hst
            have hsp := @Nat.succ_ne_zero; repeat' (first | simp (disch := first | exact dschN25 | fail) only [go_sem, ↓reduceIte, hsp, r11, r9, p2, p3, p4, p5, p6, p7, p8, p10, hnl, hlt, ai, li, g12, g02, hfi] | refine WP_drw ?_ | refine cnd_intro (fun hsp => ?_) fun hsp => ?_)
            exact ⟨by (repeat first | exact Agree.refl | assumption | refine Agree.put rfl ?_ | refine Agree.put0 ?_ | refine Agree.sub rfl (by assumption) ?_), by omega, by rw [hst]⟩
        · rintro fr H hA ⟨r11, rfl, r9⟩
          have p2 := hA 2 rfl
          have p3 := hA 3 rfl
          have p4 := hA 4 rfl
          have p5 := hA 5 rfl
          have p6 := hA 6 rfl
          have p7 := hA 7 rfl
          have p8 := hA 8 rfl
          have p10 := hA 10 rfl
          try simp (disch := first | exact dschN25 | fail) only [go_sem, ↓reduceIte] at p2 p3 p4 p5 p6 p7 p8 p10
          have hlt : ((l.length : Int) < (l.length : Int)) = False := eq_false (by omega)
          rw [← hfu] at r9
          have el : ((l.length : Int) - 1).toNat = l.length - 1 := by omega
          have al := adrI (i := (l.length : Int) - 1) (by omega) iL (by omega)
          rw [el] at al
          have ll := loadI iL (i := l.length - 1) (by omega)
          have hlb := hUK.b _ (getD_mem' (l := l) (d := 0) (i := l.length - 1) (by omega))
          by_cases hlim : f ≤ limW w false
          · have et : takL R w x false = some (l.getD (l.length - 1) 0 + 1, max 0 (w.pr - w.off * f)) := by
              unfold takL; rw [← el0, ← ef0, if_pos ⟨hok, hlim⟩]
            rw [et]
            have tl : (f > w.fl) = False := eq_false (by simp only [limW, if_true, Bool.false_eq_true, if_false] at hlim; omega)
            have hsp := @Nat.succ_ne_zero; repeat' (first | simp (disch := first | exact dschN25 | fail) only [go_sem, ↓reduceIte, hsp, r11, r9, p2, p3, p4, p5, p6, p7, p8, p10, hnl, hlt, tl, al, ll, g22] | refine WP_drw ?_ | refine cnd_intro (fun hsp => ?_) fun hsp => ?_)
            exact fin_pl rfl rfl xh
          · have et : takL R w x false = none := by
              unfold takL; rw [← ef0, if_neg (fun q => hlim q.2)]
            rw [et]
            have tl : (f > w.fl) = True := eq_true (by simp only [limW, if_true, Bool.false_eq_true, if_false] at hlim; omega)
            have hsp := @Nat.succ_ne_zero; repeat' (first | simp (disch := first | exact dschN25 | fail) only [go_sem, ↓reduceIte, hsp, r11, r9, p2, p3, p4, p5, p6, p7, p8, p10, hnl, hlt, tl] | refine WP_drw ?_ | refine cnd_intro (fun hsp => ?_) fun hsp => ?_)
            exact fin_pl rfl rfl xh
      | true =>
        have hsp := @Nat.succ_ne_zero; repeat' (first | simp (disch := first | exact dschN25 | fail) only [go_sem, ↓reduceIte, hsp, eG.symm, g0, g1, a1, a2, ← eH1, g01, g11, e2, hnl, g22, t1, a0, l0', g12, t2] | refine WP_drw ?_ | refine cnd_intro (fun hsp => ?_) fun hsp => ?_)
        refine WP_count [(9, 9), (11, 79)] 0 l.length (Nat.zero_le _) (fun _ i fr H => fr 11 = .int .i64 (i : Int) ∧ H = H2 ∧ fr 9 = .int .i64 (flN (badF R) true l i)) ?_ ?_ ?_
        · exact ⟨by (simp (disch := first | exact dschN25 | fail) only [go_sem, ↓reduceIte, Int.natCast_zero]; first | done | rfl), rfl, by simp (disch := first | exact dschN25 | fail) only [go_sem, ↓reduceIte]; rfl⟩
        · rintro i fr H hi0 hi hA ⟨r11, rfl, r9⟩
          have p2 := hA 2 rfl
          have p3 := hA 3 rfl
          have p4 := hA 4 rfl
          have p5 := hA 5 rfl
          have p6 := hA 6 rfl
          have p7 := hA 7 rfl
          have p8 := hA 8 rfl
          have p10 := hA 10 rfl
          try simp (disch := first | exact dschN25 | fail) only [go_sem, ↓reduceIte] at p2 p3 p4 p5 p6 p7 p8 p10
          have hlt : ((i : Int) < (l.length : Int)) = True := eq_true (by omega)
          have ai := adrI (i := (i : Int)) (by omega) iL (by omega)
          rw [Int.toNat_natCast] at ai
          have li := loadI iL hi
          have hfl := flN_b (bad := badF R) (j := true) (l := l) (n := i)
          have hst : flN (badF R) true l (i + 1) = flN (badF R) true l i + if flC (badF R) true l i = true then 1 else 0 := rfl
          have hyb := hUK.b _ (getD_mem' (l := l) (d := 0) hi)
          by_cases c3 : 0 < i
          · have t3 : ((i : Int) > 0) = True := eq_true (by omega)
            have ei : ((i : Int) - 1).toNat = i - 1 := by omega
            have aj := adrI (i := (i : Int) - 1) (by omega) iL (by omega)
            rw [ei] at aj
            have lj := loadI iL (i := i - 1) (by omega)
            have hyj := hUK.b _ (getD_mem' (l := l) (d := 0) (i := i - 1) (by omega))
            by_cases c4 : l.getD i 0 > l.getD (i - 1) 0 + 1
            · have t4 : (l.getD i 0 > l.getD (i - 1) 0 + 1) = True := eq_true c4
              have hc : flC (badF R) true l i = true := by unfold flC; rw [decide_eq_true c3, decide_eq_true c4]; rfl
              rw [hc, if_pos rfl] at hst
              have hsp := @Nat.succ_ne_zero; repeat' (first | simp (disch := first | exact dschN25 | fail) only [go_sem, ↓reduceIte, hsp, r11, r9, p2, p3, p4, p5, p6, p7, p8, p10, hnl, hlt, ai, li, g12, t3, aj, lj, t4] | refine WP_drw ?_ | refine cnd_intro (fun hsp => ?_) fun hsp => ?_)
              exact ⟨by (repeat first | exact Agree.refl | assumption | refine Agree.put rfl ?_ | refine Agree.put0 ?_ | refine Agree.sub rfl (by assumption) ?_), by omega, by rw [hst]⟩
            · have t4 : (l.getD i 0 > l.getD (i - 1) 0 + 1) = False := eq_false c4
              have hc : flC (badF R) true l i = false := by unfold flC; rw [decide_eq_false c4, Bool.and_false]; rfl
              rw [hc, if_neg (by simp), Int.add_zero] at hst
              have hsp := @Nat.succ_ne_zero; repeat' (first | simp (disch := first | exact dschN25 | fail) only [go_sem, ↓reduceIte, hsp, r11, r9, p2, p3, p4, p5, p6, p7, p8, p10, hnl, hlt, ai, li, g12, t3, aj, lj, t4] | refine WP_drw ?_ | refine cnd_intro (fun hsp => ?_) fun hsp => ?_)
              exact ⟨by (repeat first | exact Agree.refl | assumption | refine Agree.put rfl ?_ | refine Agree.put0 ?_ | refine Agree.sub rfl (by assumption) ?_), by omega, by rw [hst]⟩
          · have t3 : ((i : Int) > 0) = False := eq_false (by omega)
            have hc : flC (badF R) true l i = false := by unfold flC; rw [decide_eq_false c3]; rfl
            rw [hc, if_neg (by simp), Int.add_zero] at hst
            have hsp := @Nat.succ_ne_zero; repeat' (first | simp (disch := first | exact dschN25 | fail) only [go_sem, ↓reduceIte, hsp, r11, r9, p2, p3, p4, p5, p6, p7, p8, p10, hnl, hlt, ai, li, g12, t3] | refine WP_drw ?_ | refine cnd_intro (fun hsp => ?_) fun hsp => ?_)
            exact ⟨by (repeat first | exact Agree.refl | assumption | refine Agree.put rfl ?_ | refine Agree.put0 ?_ | refine Agree.sub rfl (by assumption) ?_), by omega, by rw [hst]⟩
        · rintro fr H hA ⟨r11, rfl, r9⟩
          have p2 := hA 2 rfl
          have p3 := hA 3 rfl
          have p4 := hA 4 rfl
          have p5 := hA 5 rfl
          have p6 := hA 6 rfl
          have p7 := hA 7 rfl
          have p8 := hA 8 rfl
          have p10 := hA 10 rfl
          try simp (disch := first | exact dschN25 | fail) only [go_sem, ↓reduceIte] at p2 p3 p4 p5 p6 p7 p8 p10
          have hlt : ((l.length : Int) < (l.length : Int)) = False := eq_false (by omega)
          rw [← hfu] at r9
          have el : ((l.length : Int) - 1).toNat = l.length - 1 := by omega
          have al := adrI (i := (l.length : Int) - 1) (by omega) iL (by omega)
          rw [el] at al
          have ll := loadI iL (i := l.length - 1) (by omega)
          have hlb := hUK.b _ (getD_mem' (l := l) (d := 0) (i := l.length - 1) (by omega))
          by_cases hlim : f ≤ limW w true
          · have et : takL R w x true = some (l.getD (l.length - 1) 0 + 1, max 0 (w.pr - w.off * f)) := by
              unfold takL; rw [← el0, ← ef0, if_pos ⟨hok, hlim⟩]
            rw [et]
            have tl : (f > w.jn) = False := eq_false (by simp only [limW, if_true, Bool.false_eq_true, if_false] at hlim; omega)
            have hsp := @Nat.succ_ne_zero; repeat' (first | simp (disch := first | exact dschN25 | fail) only [go_sem, ↓reduceIte, hsp, r11, r9, p2, p3, p4, p5, p6, p7, p8, p10, hnl, hlt, tl, al, ll, g22] | refine WP_drw ?_ | refine cnd_intro (fun hsp => ?_) fun hsp => ?_)
            exact fin_pl rfl rfl xh
          · have et : takL R w x true = none := by
              unfold takL; rw [← ef0, if_neg (fun q => hlim q.2)]
            rw [et]
            have tl : (f > w.jn) = True := eq_true (by simp only [limW, if_true, Bool.false_eq_true, if_false] at hlim; omega)
            have hsp := @Nat.succ_ne_zero; repeat' (first | simp (disch := first | exact dschN25 | fail) only [go_sem, ↓reduceIte, hsp, r11, r9, p2, p3, p4, p5, p6, p7, p8, p10, hnl, hlt, tl] | refine WP_drw ?_ | refine cnd_intro (fun hsp => ?_) fun hsp => ?_)
            exact fin_pl rfl rfl xh
end Go.AM
/-
  The example of the chapter, by calculation.
-/
namespace Go.AM
def tenR : Rib := ⟨10, [3, 5], [⟨4, 10, 3, 1, 1⟩, ⟨3, 6, 1, 0, 2⟩]⟩
theorem ten_chk : chkR tenR = 0 := by kernel_rfl
theorem ten_ok : RibOk tenR := chkR_iff.1 ten_chk
theorem ten_t1 : takE tenR ⟨0, 0, true⟩ = (5, 7, 0) := by kernel_rfl
theorem ten_t2 : takE tenR ⟨0, 2, false⟩ = (0, 0, 6) := by kernel_rfl
theorem ten_madl : (madE tenR).length = 11 := by kernel_rfl
theorem ten_mad0 : (madE tenR).getD 0 0 = 17 := by kernel_rfl
theorem ten_mad6 : (madE tenR).getD 6 0 = 10 := by kernel_rfl
theorem ten_mad7 : (madE tenR).getD 7 0 = 6 := by kernel_rfl
theorem ten_all : allE tenR = 17 := by kernel_rfl
theorem ten_bst : (bstE false tenR).length = 2 := by kernel_rfl
theorem ten_rst : rstE tenR [⟨0, 0, true⟩, ⟨0, 6, false⟩] = ([(3, 3), (5, 5)], 0) := by kernel_rfl
theorem ten_usd : usdE tenR = [0] := by kernel_rfl
theorem ten_dmg : dmgE tenR 8 = (3, 0) := by kernel_rfl
theorem ten_men : menE tenR 3 = (3, 0) := by kernel_rfl
theorem ten_rse : rseE tenR 1 = (7, 0) := by kernel_rfl
end Go.AM
/-
  Contracts: the chapter's example is as it should be (Ten, awake).
-/
namespace Go.AM
open Go.Proofs.Try
theorem dschN22 {p : Prop} (h : p := by first | exact Nat.ne_of_beq_eq_false rfl | assumption | (apply asOne; (first | exact One.int | exact One.bool | assumption | exact Ints.one (by assumption) | exact Rows.one (by assumption) | exact Own.one (by assumption) | exact One.lit ⟨rfl, rfl, rfl⟩)) | (apply asInts; (repeat first | assumption | exact ints_nil | apply Ints.app); done) | (apply asRows; (repeat first | assumption | exact Rows.nil | apply Rows.app); done) | (apply asScal; (first | apply allS1 | apply allS2 | apply allS3 | apply allS4) <;> (first | exact One.int | exact One.bool | assumption | exact Ints.one (by assumption) | exact Rows.one (by assumption) | exact Own.one (by assumption) | exact One.lit ⟨rfl, rfl, rfl⟩)) | exact litT rfl | exact litF rfl | omega | (simp only [List.length_append, List.length_cons, List.length_nil, List.length_set, List.length_reverse]; first | done | omega) | fail) : p := h
attribute [-go_sem] put_ne put_same
attribute [local go_sem ↓] put_if
theorem bs2I {lit : Bool} {H : Heap} {a b : Int} (hl : lit = false) : bsA prog lit H 22 2 [(0, .int .i64 a), (1, .int .i64 b)] = some (.slice (some ⟨H.length, 0, 0⟩) 2 2, H ++ [rowB [a, b] 0]) := by
  subst hl; simp [bsA, rowOf, Fc.el22, fillA, repCells, AVal.isN, AVal.cells, splice, rowB, ints]
theorem bs2W {lit : Bool} {H : Heap} {a b : Wnt} : bsA prog lit H 23 2 [(0, .agg [.int .i64 a.lg, .int .i64 a.pr, .int .i64 a.off, .int .i64 a.fl, .int .i64 a.jn]), (1, .agg [.int .i64 b.lg, .int .i64 b.pr, .int .i64 b.off, .int .i64 b.fl, .int .i64 b.jn])] = some (.slice (some ⟨H.length, 0, 0⟩) 2 2, H ++ [rowE encW 49 [a, b] 0]) := by
  simp [bsA, rowOf, Fc.el23, fillA, repCells, AVal.isN, AVal.cells, splice, rowE, flat, encW]
theorem bs2C {lit : Bool} {H : Heap} {a b : Ct} : bsA prog lit H 43 2 [(0, .agg [.int .i64 a.w, .int .i64 a.f, .bool a.j]), (1, .agg [.int .i64 b.w, .int .i64 b.f, .bool b.j])] = some (.slice (some ⟨H.length, 0, 0⟩) 2 2, H ++ [rowE encC 58 [a, b] 0]) := by
  simp [bsA, rowOf, Fc.el43, fillA, repCells, AVal.isN, AVal.cells, splice, rowE, flat, encC]
theorem bs2S {lit : Bool} {H : Heap} {a b : Int × Int} : bsA prog lit H 59 2 [(0, .agg [.int .i64 a.1, .int .i64 a.2]), (1, .agg [.int .i64 b.1, .int .i64 b.2])] = some (.slice (some ⟨H.length, 0, 0⟩) 2 2, H ++ [rowE encS 69 [a, b] 0]) := by
  simp [bsA, rowOf, Fc.el59, fillA, repCells, AVal.isN, AVal.cells, splice, rowE, flat, encS]
theorem app_non {base id : Nat} {H : Heap} {l : List Int} {n : Nat} (hg : H[id]? = some (rowB l 0)) (hn : n = l.length) : appendA prog base H 22 (.slice (some ⟨id, 0, 0⟩) n n) (.slice none 0 0) = some (.slice (some ⟨id, 0, 0⟩) n n, H) := by
  subst hn
  have hst : storeN base H (ARef.add ⟨id, 0, 0⟩ l.length) [] = some H := by
    unfold storeN
    simp only [ARef.add, hg, rowB]
    rw [if_pos ⟨trivial, by simp [ints_length], rfl, .inr rfl⟩]
    simp only [splice]
    rw [show (⟨.cells (ints l) 3 true false, 0⟩ : ABlk) = rowB l 0 from rfl, set_id hg]
  simp [appendA, Fc.el22, lenA, firstN, hst]
theorem run_Ten {base : Nat} {h : Heap} (hb : base ≤ h.length) : Ret prog raw base (.fn 80 [] []) [.slice none 0 0] h (fun w H => Ext h H ∧ RibAt H w tenR) := by
  obtain ⟨G, eG⟩ : ∃ G, G = h ++ [ribB 0 (.slice none 0 0) (.slice none 0 0)] := ⟨_, rfl⟩
  have xG : Ext h G := by rw [eG]; exact .app .refl
  have gG : G[h.length]? = some (ribB 0 (.slice none 0 0) (.slice none 0 0)) := by rw [eG]; exact get_eq rfl
  have lG : G.length = h.length + 1 := by rw [eG]; simp
  obtain ⟨H1, eH1⟩ : ∃ H1, H1 = G ++ [rowB [3, 5] 0] := ⟨_, rfl⟩
  have x1 : Ext G H1 := by rw [eH1]; exact .app .refl
  have g1 : H1[G.length]? = some (rowB [3, 5] 0) := by rw [eH1]; exact get_eq rfl
  have l1 : H1.length = h.length + 2 := by rw [eH1]; simp [lG]
  obtain ⟨H2, eH2⟩ : ∃ H2, H2 = H1 ++ [rowE encW 49 [⟨4, 10, 3, 1, 1⟩, ⟨3, 6, 1, 0, 2⟩] 0] := ⟨_, rfl⟩
  have x2 : Ext H1 H2 := by rw [eH2]; exact .app .refl
  have g2 : H2[H1.length]? = some (rowE encW 49 [⟨4, 10, 3, 1, 1⟩, ⟨3, 6, 1, 0, 2⟩] 0) := by rw [eH2]; exact get_eq rfl
  have l2 : H2.length = h.length + 3 := by rw [eH2]; simp [l1]
  have g02 := (x1.trans x2).get gG
  have b1 := fun lit (hl : lit = false) => bs2I (lit := lit) (H := G) (a := 3) (b := 5) hl
  rw [← eH1] at b1
  have b2 := fun lit => bs2W (lit := lit) (H := H1) (a := ⟨4, 10, 3, 1, 1⟩) (b := ⟨3, 6, 1, 0, 2⟩)
  rw [← eH2] at b2
  have ap := app_non (base := base) (id := G.length) (n := 2) (H := H1) g1 rfl
  unfold ribB at eG gG g02
  refine ret_raw func80 rfl (by kernel_rfl) ?_
  have hsp := @Nat.succ_ne_zero; repeat' (first | simp (disch := first | exact dschN22 | fail) only [go_sem, ↓reduceIte, hsp, ← eG, b1, ap, b2, g02] | refine WP_drw ?_ | refine cnd_intro (fun hsp => ?_) fun hsp => ?_)
  have xf : Ext h (H2.set h.length (ribB 10 (.slice (some ⟨G.length, 0, 0⟩) 2 2) (.slice (some ⟨H1.length, 0, 0⟩) 2 2))) := Ext.set ((xG.trans x1).trans x2) (Nat.le_refl _)
  refine ⟨xf, _, _, rfl, ints_rowB (l := [3, 5]) ?_ ⟨by simp, fun y hy => ?_⟩ rfl, Rows.own (l := ([⟨4, 10, 3, 1, 1⟩, ⟨3, 6, 1, 0, 2⟩] : List Wnt)) (e := 49) ?_ rfl (by simp)⟩
  · rw [List.getElem?_set_ne (by omega)]; exact x2.get g1
  · simp at hy; omega
  · rw [List.getElem?_set_ne (by omega)]; exact g2
set_option maxRecDepth 100000 in
set_option maxHeartbeats 4000000 in
theorem run_awake {base : Nat} {h : Heap} : callL prog raw base (.fn 16 [] []) [] h = some (.bool true, h) := by
  have hsm : tenR.F.length ≤ 1048576 := by decide
  obtain ⟨v1, A1, e1, x1, T1⟩ := run_Ten (base := h.length) (h := h) (Nat.le_refl _)
  have k1 := fun base => run_Take (base := base) (c := ⟨0, 0, true⟩) T1 hsm
  rw [ten_t1] at k1
  have l1 := x1.len
  obtain ⟨v2, A2, e2, x2, T2⟩ := run_Ten (base := h.length) (h := A1) l1
  have k2 := fun base => run_Take (base := base) (c := ⟨0, 2, false⟩) T2 hsm
  rw [ten_t2] at k2
  have l2 := x2.len
  obtain ⟨v3, A3, e3, x3, T3⟩ := run_Ten (base := h.length) (h := A2) (by omega)
  have l3 := x3.len
  obtain ⟨w3, B3, f3, y3, u3, rfl, O3⟩ := run_Best (base := h.length) (by omega) T3 hsm
  have m3 := y3.len
  obtain ⟨v4, A4, e4, x4, T4⟩ := run_Ten (base := h.length) (h := B3) (by omega)
  have l4 := x4.len
  obtain ⟨w4, B4, f4, y4, u4, rfl, O4⟩ := run_Made (base := h.length) (by omega) T4 hsm
  have m4 := y4.len
  obtain ⟨v5, A5, e5, x5, T5⟩ := run_Ten (base := h.length) (h := B4) (by omega)
  have l5 := x5.len
  obtain ⟨A5', eA5⟩ : ∃ A5', A5' = A5 ++ [rowE encC 58 [⟨0, 0, true⟩, ⟨0, 6, false⟩] 0] := ⟨_, rfl⟩
  have x5' : Ext A5 A5' := by rw [eA5]; exact .app .refl
  have P5 : Rows encC A5' (.slice (some ⟨A5.length, 0, 0⟩) 2 2) [⟨0, 0, true⟩, ⟨0, 6, false⟩] := Rows.own (by rw [eA5]; exact get_eq rfl) rfl (by simp)
  have l5' := x5'.len
  have bs5 := fun lit => bs2C (lit := lit) (H := A5) (a := ⟨0, 0, true⟩) (b := ⟨0, 6, false⟩)
  rw [← eA5] at bs5
  obtain ⟨w5, B5, f5, y5, u5, rfl, O5⟩ := run_Rest (base := h.length) (by omega) (T5.ext x5') hsm P5
  rw [ten_rst] at f5 O5
  have m5 := y5.len
  obtain ⟨v6, A6, e6, x6, T6⟩ := run_Ten (base := h.length) (h := B5) (by omega)
  have l6 := x6.len
  obtain ⟨w6, B6, f6, y6, u6, rfl, O6⟩ := run_Used (base := h.length) (by omega) T6 hsm
  rw [ten_usd] at O6
  have m6 := y6.len
  obtain ⟨v7, A7, e7, x7, T7⟩ := run_Ten (base := h.length) (h := B6) (by omega)
  have k7 := fun base => run_Raise (base := base) (want := 1) T7 hsm
  rw [ten_rse] at k7
  have l7 := x7.len
  obtain ⟨v8, A8, e8, x8, T8⟩ := run_Ten (base := h.length) (h := A7) (by omega)
  have k8 := fun base => run_Damage (base := base) (u := 8) T8 hsm (by omega)
  rw [ten_dmg] at k8
  have l8 := x8.len
  obtain ⟨v9, A9, e9, x9, T9⟩ := run_Ten (base := h.length) (h := A8) (by omega)
  have k9 := fun base => run_Mended (base := base) (u := 3) T9 hsm
  rw [ten_men] at k9
  rw [ten_chk, ten_all] at f3
  rw [ten_chk] at f4 f6
  simp only at k1 k2 k7 k8 k9 f5
  have z4 := x4.trans y4
  have n3 := own_len (O3.ext z4) Fc.el43 (by rw [ten_bst]; decide)
  rw [ten_bst] at n3
  have I4 := ownE_ints O4 (by unfold madE; rw [if_neg (by simp [ten_chk])]; exact val_small ten_ok (by decide))
  have n4 := lenI I4
  have a40 := adrI (i := 0) (by omega) I4 (by rw [ten_madl]; omega)
  have a46 := adrI (i := 6) (by omega) I4 (by rw [ten_madl]; omega)
  have a47 := adrI (i := 7) (by omega) I4 (by rw [ten_madl]; omega)
  have d40 := loadI I4 (i := 0) (by rw [ten_madl]; omega)
  have d46 := loadI I4 (i := 6) (by rw [ten_madl]; omega)
  have d47 := loadI I4 (i := 7) (by rw [ten_madl]; omega)
  rw [ten_madl] at n4
  rw [ten_mad0] at d40
  rw [ten_mad6] at d46
  rw [ten_mad7] at d47
  have z69 : Ext B6 A9 := (x7.trans x8).trans x9
  have z59 : Ext B5 A9 := (x6.trans y6).trans z69
  have l9 := x9.len
  obtain ⟨C1, eC1⟩ : ∃ C1, C1 = A9 ++ [rowE encS 69 [(3, 3), (5, 5)] 0] := ⟨_, rfl⟩
  have xc1 : Ext A9 C1 := by rw [eC1]; exact .app .refl
  have bs6 := fun lit => bs2S (lit := lit) (H := A9) (a := (3, 3)) (b := (5, 5))
  rw [← eC1] at bs6
  simp only at bs6
  have q5 := fun base => run_eqS (base := base) ((O5.rows (by simp)).ext (z59.trans xc1)) (Rows.own (E := encS) (e := 69) (id := A9.length) (ver := 0) (n := 2) (l := [(3, 3), (5, 5)]) (by rw [eC1]; exact get_eq rfl) rfl (by simp)) (by simp)
  obtain ⟨C2, eC2⟩ : ∃ C2, C2 = C1 ++ [rowB [0] 0] := ⟨_, rfl⟩
  have xc2 : Ext C1 C2 := by rw [eC2]; exact .app .refl
  have s0 : Small [(0 : Int)] := ⟨by simp, fun y hy => by simp at hy; omega⟩
  have I6 := own_ints (O6.ext ((z69.trans xc1).trans xc2)) s0
  have I6' : Ints C2 (.slice (some ⟨C1.length, 0, 0⟩) 1 1) [0] := ints_rowB (by rw [eC2]; exact get_eq rfl) s0 rfl
  have q6 := fun base => run_eqI (base := base) I6 I6'
  have o3 := O3.one
  have o4 := O4.one
  have o5 := O5.one
  have o6 := O6.one
  have xf : Ext h C2 := (((((((x1.trans x2).trans x3).trans y3).trans z4).trans x5).trans x5').trans y5).trans ((z59.trans xc1).trans xc2)
  refine callL_run func16 rfl rfl ?_
  have hsp := @Nat.succ_ne_zero; repeat' (first | simp (disch := first | exact dschN22 | fail) only [go_sem, ↓reduceIte, hsp, e1, k1, e2, k2, e3, f3, e4, f4, n3, n4, a40, a46, a47, d40, d46, d47, e5, bs5, f5, e6, f6, e7, k7, e8, k8, e9, k9, bs6, ← eC1, q5, ← eC2, q6, decide_true] | refine WP_drw ?_ | refine cnd_intro (fun hsp => ?_) fun hsp => ?_)
  exact fB rfl xf
end Go.AM
