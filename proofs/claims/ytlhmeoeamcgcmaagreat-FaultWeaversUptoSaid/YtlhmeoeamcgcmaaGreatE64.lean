/-
  Contracts: the sights that are the weaver's in all truths, as the reference says it.
-/
import Derived.Test.YtlhmeoeamcgcmaaGreatE63
set_option linter.unusedSimpArgs false
set_option linter.unusedVariables false
namespace Go.AM
open Go.Proofs.Tryz
theorem dschE64 {p : Prop} (h : p := by first | exact Nat.ne_of_beq_eq_false rfl | assumption | (apply asOne; (first | exact One.int | exact One.bool | assumption | exact Ints.one (by assumption) | exact Rows.one (by assumption) | exact Own.one (by assumption) | exact One.lit ⟨rfl, rfl, rfl⟩)) | (apply asInts; (repeat first | assumption | exact ints_nil | apply Ints.app); done) | (apply asRows; (repeat first | assumption | exact Rows.nil | apply Rows.app); done) | (apply asScal; (first | apply allS1 | apply allS2 | apply allS3 | apply allS4) <;> (first | exact One.int | exact One.bool | assumption | exact Ints.one (by assumption) | exact Rows.one (by assumption) | exact Own.one (by assumption) | exact One.lit ⟨rfl, rfl, rfl⟩)) | exact litT rfl | exact litF rfl | omega | (simp only [List.length_append, List.length_cons, List.length_nil, List.length_set, List.length_reverse]; first | done | omega) | fail) : p := h
attribute [-go_sem] put_ne put_same
attribute [local go_sem ↓] put_if

def wvsB (L : Lom) (ts : List (List Brk)) (s : Sgt) : Bool := s.bad && ts.all fun t => wvB L t s
def wvsR (L : Lom) (ts : List (List Brk)) (n : Nat) : List Int := (upto n).filter fun i => wvsB L ts (L.ss.getD i.toNat sgt0)
theorem wvsR_succ {L : Lom} {ts : List (List Brk)} {n : Nat} : wvsR L ts (n + 1) = wvsR L ts n ++ (if wvsB L ts (L.ss.getD n sgt0) = true then [(n : Int)] else []) := by
  unfold wvsR
  rw [upto_succ, List.filter_append]
  congr 1
  simp only [List.filter_cons, List.filter_nil, Int.toNat_natCast]
theorem wvsR_len {L : Lom} {ts : List (List Brk)} {n : Nat} : (wvsR L ts n).length ≤ n := by
  have := List.length_filter_le (fun i : Int => wvsB L ts (L.ss.getD i.toNat sgt0)) (upto n)
  rw [upto_len] at this
  exact this
theorem all_take_succ {α : Type} (f : α → Bool) {l : List α} {n : Nat} {x : α} (h : l[n]? = some x) : (l.take (n + 1)).all f = ((l.take n).all f && f x) := by
  rw [List.take_add_one, h, List.all_append]
  simp
theorem all_take_no {α : Type} (f : α → Bool) {l : List α} {n : Nat} (h : (l.take n).all f = false) : l.all f = false := by
  rw [Bool.eq_false_iff] at h ⊢
  exact fun q => h (List.all_eq_true.2 fun x hx => List.all_eq_true.1 q x (List.mem_of_mem_take hx))
set_option maxHeartbeats 4000000 in
theorem run_weaversR {base : Nat} {h : Heap} {L : Lom} {pv sv av : AVal} {ts : List (List Brk)} (hb : base ≤ h.length) (hP : Parts h pv L.ps) (hS : Rows encS h sv L.ss) (hc : chkM L = 0) (hr : ∀ p ∈ L.ps, p.rib.length ≤ 1000) (hA0 : AllAt 0 h av ts) (hl : ts.length ≤ 3000) (ht : ∀ t ∈ ts, (∀ b ∈ t, brkOk L b) ∧ t.length ≤ 6) :
    Ret prog raw base (.fn 37 [] []) [lomV L.R L.T pv sv, av] h (fun v H => Ext h H ∧ Own encI 3 h.length H v (wvsR L ts L.ss.length)) := by
  have ho := hP.one
  have ho2 := hS.one
  have ho3 := hA0.one
  obtain ⟨k1, k2, k3, k4, k5, k6⟩ := chkM_ok hc
  obtain ⟨G, eG⟩ : ∃ G, G = h ++ [(⟨.cells [.int .i64 L.R, .int .i64 L.T, pv, sv] 32 false false, 0⟩ : ABlk)] := ⟨_, rfl⟩
  have xG : Ext h G := by rw [eG]; exact .app .refl
  have hG := xG.len
  have g1 : G[h.length]? = some ⟨.cells [.int .i64 L.R, .int .i64 L.T, pv, sv] 32 false false, 0⟩ := by rw [eG]; exact get_eq rfl
  refine ret_raw func37 rfl (by kernel_rfl) ?_
  have hsp := @Nat.succ_ne_zero; repeat' (first | simp (disch := first | exact dschE64 | fail) only [go_sem, ↓reduceIte, hsp, ← eG] | refine WP_drw ?_ | refine cnd_intro (fun hsp => ?_) fun hsp => ?_)
  refine WP_count [(5, 42)] 0 L.ss.length (Nat.zero_le _) (fun _ i fr h' => fr 6 = .int .i64 (i : Int) ∧ Ext G h' ∧ ∃ v, fr 5 = v ∧ Own encI 3 G.length h' v (wvsR L ts i)) ?_ ?_ ?_
  · exact ⟨by (simp (disch := first | exact dschE64 | fail) only [go_sem, ↓reduceIte, Int.natCast_zero]; first | done | rfl), .refl, .slice none 0 0, by simp (disch := first | exact dschE64 | fail) only [go_sem, ↓reduceIte], by simp only [wvsR, upto, lst]; exact Own.nil⟩
  · rintro i fr K hi0 hi hA ⟨r6, xK, v, r5, hO⟩
    have p1 := hA 1 rfl
    have p2 := hA 2 rfl
    have p4 := hA 4 rfl
    try simp (disch := first | exact dschE64 | fail) only [go_sem, ↓reduceIte] at p1 p2 p4
    have pr1 := hA 1 rfl
    simp (disch := first | exact dschE64 | fail) only [go_sem, ↓reduceIte] at pr1
    have hlt : ((i : Int) < (L.ss.length : Int)) = True := eq_true (by omega)
    have xh := xG.trans xK
    have hhK := xh.len
    have hKl := xK.len
    have g1K := xK.get g1
    have l4 : lenOpA prog K 30 sv = some (.int .i64 (L.ss.length : Int)) := (hS.ext xh).len Fc.el30
    obtain ⟨s, es⟩ : ∃ s, s = L.ss.getD i sgt0 := ⟨_, rfl⟩
    have hs : L.ss[i]? = some s := by rw [es]; exact getD_some hi
    have ad := (hS.ext xh).addr (P := prog) (i := (i : Int)) Fc.el30 Fc.ar30 (by omega) (by omega)
    rw [Int.toNat_natCast] at ad
    have s3 : fieldAddrA prog 126 (elAdr sv encS.z i 0) 2 = some (elAdr sv encS.z i 3) := elAdr_field (P := prog) (i := i) (o := 0) (off := 3) (q := false) (n := 1) (hS.ext xh) (by omega) (by kernel_rfl) (by decide)
    have s4 : loadP prog K 4 (elAdr sv encS.z i 3) = some (.bool s.bad) := (hS.ext xh).cell (P := prog) Fc.ty4 hs (o := 3) (a := .bool s.bad) rfl
    have hnK := (hA0.ext xh).len (show ts.length < 2 ^ 60 by omega)
    have hel := wvsR_len (L := L) (ts := ts) (n := i)
    have hsp := @Nat.succ_ne_zero; repeat' (first | simp (disch := first | exact dschE64 | fail) only [go_sem, ↓reduceIte, hsp, r6, r5, pr1, p1, p2, p4, hlt, g1K, l4, ad, s3, s4] | refine WP_drw ?_ | refine cnd_intro (fun hsp => ?_) fun hsp => ?_)
    refine WP_count [(7, 37)] 0 ts.length (Nat.zero_le _) (fun _ k fr h' => fr 8 = .int .i64 (k : Int) ∧ h' = K ∧ ∃ x, fr 7 = .bool x ∧ x = (s.bad && (ts.take k).all fun t => wvB L t s)) ?_ ?_ ?_
    · exact ⟨by (simp (disch := first | exact dschE64 | fail) only [go_sem, ↓reduceIte, Int.natCast_zero]; first | done | rfl), rfl, s.bad, by simp (disch := first | exact dschE64 | fail) only [go_sem, ↓reduceIte], by simp⟩
    · rintro k fr2 K' hk0 hk hA2 ⟨r8, eK, x, r7, ex⟩
      subst eK
      have d1 := hA2 1 rfl
      have d2 := hA2 2 rfl
      have d4 := hA2 4 rfl
      have d5 := hA2 5 rfl
      have d6 := hA2 6 rfl
      try simp (disch := first | exact dschE64 | fail) only [go_sem, ↓reduceIte, p1, p2, p4] at d1 d2 d4 d5 d6
      have d6 := hA2 6 rfl
      simp (disch := first | exact dschE64 | fail) only [go_sem, ↓reduceIte, r6] at d6
      have d5 := hA2 5 rfl
      simp (disch := first | exact dschE64 | fail) only [go_sem, ↓reduceIte, r5] at d5
      have d1 := hA2 1 rfl
      simp (disch := first | exact dschE64 | fail) only [go_sem, ↓reduceIte, pr1] at d1
      have hlt2 : ((k : Int) < (ts.length : Int)) = True := eq_true (by omega)
      obtain ⟨y, ey⟩ : ∃ y, y = ts[k] := ⟨_, rfl⟩
      have hy : ts[k]? = some y := by rw [ey]; exact List.getElem?_eq_getElem hk
      obtain ⟨hy1, hy2⟩ := ht y (List.mem_of_getElem? hy)
      obtain ⟨a, w, adw, ld, oW⟩ := (hA0.ext xh).at (show ts.length < 2 ^ 60 by omega) hy
      have hw := oW.one
      have ld0 := ld _ .refl
      have e := fun base => run_weaverR (base := base) (hP.ext xh) (hS.ext xh) hc hr (oW.rows (by omega)) (by omega) hy1 hs
      rcases Bool.eq_false_or_eq_true x with qx | qx
      · rw [qx] at r7 ex
        have hsp := @Nat.succ_ne_zero; repeat' (first | simp (disch := first | exact dschE64 | fail) only [go_sem, ↓reduceIte, hsp, r8, r7, d1, d5, d6, d1, d2, d4, d5, d6, p1, p2, p4, hlt2, hnK, g1K, adw, ld0, e] | refine WP_drw ?_ | refine cnd_intro (fun hsp => ?_) fun hsp => ?_)
        refine ⟨by (repeat first | exact Agree.refl | assumption | refine Agree.put rfl ?_ | refine Agree.put0 ?_ | refine Agree.sub rfl (by assumption) ?_), by omega, ?_⟩
        rw [all_take_succ _ hy, ← Bool.and_assoc, ← ex, Bool.true_and]
        exact ⟨_, rfl, rfl⟩
      · rw [qx] at r7 ex
        have r : wvsB L ts s = false := by
          unfold wvsB
          rcases Bool.eq_false_or_eq_true s.bad with qb | qb
          · rw [qb, Bool.true_and] at ex ⊢
            exact all_take_no _ ex.symm
          · rw [qb]; rfl
        have hsp := @Nat.succ_ne_zero; repeat' (first | simp (disch := first | exact dschE64 | fail) only [go_sem, ↓reduceIte, hsp, r8, r7, d1, d5, d6, d1, d2, d4, d5, d6, p1, p2, p4, hlt2, hnK] | refine WP_drw ?_ | refine cnd_intro (fun hsp => ?_) fun hsp => ?_)
        refine ⟨by (repeat first | exact Agree.refl | assumption | refine Agree.put rfl ?_ | refine Agree.put0 ?_ | refine Agree.sub rfl (by assumption) ?_), by omega, xK, v, rfl, ?_⟩
        rw [wvsR_succ, ← es, if_neg (by rw [r]; decide), List.append_nil]
        exact hO
    · rintro fr2 K' hA2 ⟨r8, eK, x, r7, ex⟩
      subst eK
      have d1 := hA2 1 rfl
      have d2 := hA2 2 rfl
      have d4 := hA2 4 rfl
      have d5 := hA2 5 rfl
      have d6 := hA2 6 rfl
      try simp (disch := first | exact dschE64 | fail) only [go_sem, ↓reduceIte, p1, p2, p4] at d1 d2 d4 d5 d6
      have d6 := hA2 6 rfl
      simp (disch := first | exact dschE64 | fail) only [go_sem, ↓reduceIte, r6] at d6
      have d5 := hA2 5 rfl
      simp (disch := first | exact dschE64 | fail) only [go_sem, ↓reduceIte, r5] at d5
      have d1 := hA2 1 rfl
      simp (disch := first | exact dschE64 | fail) only [go_sem, ↓reduceIte, pr1] at d1
      have hlt2 : ((ts.length : Int) < (ts.length : Int)) = False := eq_false (by omega)
      rw [List.take_length] at ex
      rcases Bool.eq_false_or_eq_true x with qx | qx
      · rw [qx] at r7 ex
        obtain ⟨v', h', ea, hO', hle, hE, h1'⟩ := hO.append1 (y := (i : Int)) (base := base) (t := 36) rfl rfl Fc.el36 encI_sc (by omega) hKl (by omega)
        have hsp := @Nat.succ_ne_zero; repeat' (first | simp (disch := first | exact dschE64 | fail) only [go_sem, ↓reduceIte, hsp, r8, r7, d1, d5, d6, d1, d2, d4, d5, d6, p1, p2, p4, hlt2, hnK, ea] | refine WP_drw ?_ | refine cnd_intro (fun hsp => ?_) fun hsp => ?_)
        refine ⟨by (repeat first | exact Agree.refl | assumption | refine Agree.put rfl ?_ | refine Agree.put0 ?_ | refine Agree.sub rfl (by assumption) ?_), by omega, hE _ (Nat.le_refl _) xK, v', rfl, ?_⟩
        rw [wvsR_succ, ← es, if_pos (show wvsB L ts s = true from ex.symm)]
        exact hO'
      · rw [qx] at r7 ex
        have hsp := @Nat.succ_ne_zero; repeat' (first | simp (disch := first | exact dschE64 | fail) only [go_sem, ↓reduceIte, hsp, r8, r7, d1, d5, d6, d1, d2, d4, d5, d6, p1, p2, p4, hlt2, hnK] | refine WP_drw ?_ | refine cnd_intro (fun hsp => ?_) fun hsp => ?_)
        refine ⟨by (repeat first | exact Agree.refl | assumption | refine Agree.put rfl ?_ | refine Agree.put0 ?_ | refine Agree.sub rfl (by assumption) ?_), by omega, xK, v, rfl, ?_⟩
        rw [wvsR_succ, ← es, if_neg (by rw [show wvsB L ts s = false from ex.symm]; decide), List.append_nil]
        exact hO
  · rintro fr K hA ⟨r6, xK, v, r5, hO⟩
    have p1 := hA 1 rfl
    have p2 := hA 2 rfl
    have p4 := hA 4 rfl
    try simp (disch := first | exact dschE64 | fail) only [go_sem, ↓reduceIte] at p1 p2 p4
    have hlt : ((L.ss.length : Int) < (L.ss.length : Int)) = False := eq_false (by omega)
    have g1K := xK.get g1
    have l4 : lenOpA prog K 30 sv = some (.int .i64 (L.ss.length : Int)) := (hS.ext (xG.trans xK)).len Fc.el30
    have hsp := @Nat.succ_ne_zero; repeat' (first | simp (disch := first | exact dschE64 | fail) only [go_sem, ↓reduceIte, hsp, r6, r5, p1, p2, p4, hlt, g1K, l4] | refine WP_drw ?_ | refine cnd_intro (fun hsp => ?_) fun hsp => ?_)
    exact ⟨xG.trans xK, hO.low hG⟩
end Go.AM
