/-
  Contracts: the reference's truths (Touches, bad, Left, Truth).
-/
import Derived.Test.YtlhmeoeamcgcmaaGreatE54
import Derived.Test.YtlhmeoeamcgcmaaGreatW9
set_option linter.unusedSimpArgs false
set_option linter.unusedVariables false
namespace Go.AM
open Go.Proofs.Tryz
theorem dschE58 {p : Prop} (h : p := by first | exact Nat.ne_of_beq_eq_false rfl | assumption | (apply asOne; (first | exact One.int | exact One.bool | assumption | exact Ints.one (by assumption) | exact Rows.one (by assumption) | exact Own.one (by assumption) | exact One.lit ⟨rfl, rfl, rfl⟩)) | (apply asInts; (repeat first | assumption | exact ints_nil | apply Ints.app); done) | (apply asRows; (repeat first | assumption | exact Rows.nil | apply Rows.app); done) | (apply asScal; (first | apply allS1 | apply allS2 | apply allS3 | apply allS4) <;> (first | exact One.int | exact One.bool | assumption | exact Ints.one (by assumption) | exact Rows.one (by assumption) | exact Own.one (by assumption) | exact One.lit ⟨rfl, rfl, rfl⟩)) | exact litT rfl | exact litF rfl | omega | (simp only [List.length_append, List.length_cons, List.length_nil, List.length_set, List.length_reverse]; first | done | omega) | fail) : p := h
attribute [-go_sem] put_ne put_same
attribute [local go_sem ↓] put_if
theorem splB_splR {L : Lom} {b : Brk} {s : Sgt} (hb : brkOk L b) : splB L b s = true ↔ ∃ t : Int, s.lo ≤ t ∧ t ≤ s.hi ∧ splR L b (s.rib, t) = true := by
  rw [splB_iff hb]
  unfold tch splR wks
  simp only [Bool.and_eq_true, decide_eq_true_eq]
  constructor
  · rintro ⟨h1, t, h2, h3, h4, h5, h6⟩; exact ⟨t, h4, h5, ⟨h2, h3⟩, h6, h1⟩
  · rintro ⟨t, h4, h5, ⟨h2, h3⟩, h6, h1⟩; exact ⟨h1, t, h2, h3, h4, h5, h6⟩
def sgR (s : Sgt) : Prop := 0 ≤ s.lo ∧ s.lo ≤ 1000 ∧ s.hi ≤ 1000
set_option maxHeartbeats 1000000 in
theorem run_touches {base : Nat} {h : Heap} {L : Lom} {pv sv : AVal} {b : Brk} {s : Sgt} (hP : Parts h pv L.ps) (hS : One sv) (hc : chkM L = 0) (hr : ∀ p ∈ L.ps, p.rib.length ≤ 1000) (hb : brkOk L b) (hs : sgR s) :
    callL prog raw base (.fn 91 [] []) [lomV L.R L.T pv sv, .agg (encB.cells b), .agg (encS.cells s)] h = some (.bool (splB L b s), h) := by
  have ho := hP.one
  obtain ⟨s1, s2, s3⟩ := hs
  obtain ⟨a, ea⟩ := Int.eq_ofNat_of_zero_le s1
  obtain ⟨n, en⟩ : ∃ n : Nat, n = (s.hi + 1 - s.lo).toNat := ⟨_, rfl⟩
  have hn : n ≤ 1001 := by omega
  have sp : ∀ {base : Nat} {H : Heap} {r t : Int}, Ext h H → 0 ≤ t ∧ t ≤ 1000 → callL prog raw base (.fn 143 [] []) [lomV L.R L.T pv sv, .agg (encB.cells b), .agg [.int .i64 r, .int .i64 t]] H = some (.bool (splR L b (r, t)), H) := fun e ht => run_spoilsR (hP.ext e) hS hc hr ⟨hb.1, hb.2.1⟩ ht
  simp only [encB, encS] at sp ⊢
  refine callL_run func91 rfl rfl ?_
  have hsp := @Nat.succ_ne_zero; repeat' (first | simp (disch := first | exact dschE58 | fail) only [go_sem, ↓reduceIte, hsp] | refine WP_drw ?_ | refine cnd_intro (fun hsp => ?_) fun hsp => ?_)
  obtain ⟨G, eG⟩ : ∃ G, G = h ++ [(⟨.cells [.int .i64 L.R, .int .i64 L.T, pv, sv] 32 false false, 0⟩ : ABlk)] ++ [(⟨.cells [.int .i64 b.1, .int .i64 b.2.1, .int .i64 b.2.2] 128 false false, 0⟩ : ABlk)] ++ [(⟨.cells [.int .i64 s.rib, .int .i64 s.lo, .int .i64 s.hi, .bool s.bad] 126 false false, 0⟩ : ABlk)] := ⟨_, rfl⟩
  rw [← eG]
  have xG : Ext h G := by rw [eG]; exact .app (.app (.app .refl))
  have g1 : G[h.length]? = some ⟨.cells [.int .i64 L.R, .int .i64 L.T, pv, sv] 32 false false, 0⟩ := by rw [eG]; exact get_app (get_app (get_eq rfl))
  have g2 : G[h.length + 1]? = some ⟨.cells [.int .i64 b.1, .int .i64 b.2.1, .int .i64 b.2.2] 128 false false, 0⟩ := by rw [eG]; exact get_app (get_eq (by simp))
  have g3 : G[h.length + 1 + 1]? = some ⟨.cells [.int .i64 s.rib, .int .i64 s.lo, .int .i64 s.hi, .bool s.bad] 126 false false, 0⟩ := by rw [eG]; exact get_eq (by simp)
  refine WP_count [(6, 24)] 0 n (Nat.zero_le _) (fun _ j fr h' => fr 7 = .int .i64 ((a + j : Nat) : Int) ∧ h' = G ∧ ∀ i : Nat, i < j → splR L b (s.rib, ((a + i : Nat) : Int)) = false) ?_ ?_ ?_
  · exact ⟨by (simp (disch := first | exact dschE58 | fail) only [go_sem, ↓reduceIte, ea]; first | done | rfl), rfl, fun i hi => by omega⟩
  · rintro j fr H hj0 hj hA ⟨r7, eH, hno⟩
    subst eH
    have p3 := hA 3 rfl
    have p4 := hA 4 rfl
    have p5 := hA 5 rfl
    try simp (disch := first | exact dschE58 | fail) only [go_sem, ↓reduceIte] at p3 p4 p5
    have hlt : (((a + j : Nat) : Int) ≤ s.hi) = True := eq_true (by omega)
    have e := fun base => sp (base := base) (r := s.rib) (t := ((a + j : Nat) : Int)) xG (by omega)
    rcases Bool.eq_false_or_eq_true (splR L b (s.rib, ((a + j : Nat) : Int))) with c1 | c1
    · rw [c1] at e
      have r : splB L b s = true := (splB_splR hb).2 ⟨_, by omega, by omega, c1⟩
      rw [r]
      have hsp := @Nat.succ_ne_zero; repeat' (first | simp (disch := first | exact dschE58 | fail) only [go_sem, ↓reduceIte, hsp, r7, p3, p4, p5, g1, g2, g3, hlt, e] | refine WP_drw ?_ | refine cnd_intro (fun hsp => ?_) fun hsp => ?_)
      exact fB rfl xG
    · rw [c1] at e
      have hsp := @Nat.succ_ne_zero; repeat' (first | simp (disch := first | exact dschE58 | fail) only [go_sem, ↓reduceIte, hsp, r7, p3, p4, p5, g1, g2, g3, hlt, e] | refine WP_drw ?_ | refine cnd_intro (fun hsp => ?_) fun hsp => ?_)
      refine ⟨by (repeat first | exact Agree.refl | assumption | refine Agree.put rfl ?_ | refine Agree.put0 ?_ | refine Agree.sub rfl (by assumption) ?_), by omega, fun i hi => ?_⟩
      by_cases q : i = j
      · subst q; exact c1
      · exact hno i (by omega)
  · rintro fr H hA ⟨r7, eH, hno⟩
    subst eH
    have p3 := hA 3 rfl
    have p4 := hA 4 rfl
    have p5 := hA 5 rfl
    try simp (disch := first | exact dschE58 | fail) only [go_sem, ↓reduceIte] at p3 p4 p5
    have hlt : (((a + n : Nat) : Int) ≤ s.hi) = False := eq_false (by omega)
    have r : splB L b s = false := by
      rw [Bool.eq_false_iff]
      intro q
      obtain ⟨t, h1, h2, h3⟩ := (splB_splR hb).1 q
      have := hno (t - a).toNat (by omega)
      rw [show ((a + (t - a).toNat : Nat) : Int) = t by omega, h3] at this
      cases this
    rw [r]
    have hsp := @Nat.succ_ne_zero; repeat' (first | simp (disch := first | exact dschE58 | fail) only [go_sem, ↓reduceIte, hsp, r7, p3, p4, p5, g1, g2, g3, hlt] | refine WP_drw ?_ | refine cnd_intro (fun hsp => ?_) fun hsp => ?_)
    exact fB rfl xG
theorem brkLoad {h : Heap} {tv : AVal} {t : List Brk} {i : Nat} {x : Brk} (hT : Rows encB h tv t) (hx : t[i]? = some x) : loadP prog h 128 (elAdr tv encB.z i 0) = some (.agg [.int .i64 x.1, .int .i64 x.2.1, .int .i64 x.2.2]) := hT.load (P := prog) Fc.ty128 hx
theorem brkAddr {h : Heap} {tv : AVal} {t : List Brk} {i : Nat} (hT : Rows encB h tv t) (hi : i < t.length) : indexAddrA prog 66 tv (.int .i64 (i : Int)) = some (elAdr tv encB.z i 0) := by
  have := hT.addr (P := prog) (i := (i : Int)) Fc.el66 Fc.ar66 (by omega) (by omega)
  rwa [Int.toNat_natCast] at this
set_option maxHeartbeats 1000000 in
theorem run_badR {base : Nat} {h : Heap} {L : Lom} {pv sv tv : AVal} {t : List Brk} {s : Sgt} (hP : Parts h pv L.ps) (hS : One sv) (hc : chkM L = 0) (hr : ∀ p ∈ L.ps, p.rib.length ≤ 1000) (hT : Rows encB h tv t) (htl : t.length ≤ 1000) (ht : ∀ b ∈ t, brkOk L b) (hs : sgR s) :
    callL prog raw base (.fn 102 [] []) [lomV L.R L.T pv sv, tv, .agg (encS.cells s)] h = some (.bool (badB L t s), h) := by
  have ho := hP.one
  have ho3 := hT.one
  obtain ⟨G, eG⟩ : ∃ G, G = h ++ [(⟨.cells [.int .i64 L.R, .int .i64 L.T, pv, sv] 32 false false, 0⟩ : ABlk)] ++ [(⟨.cells [.int .i64 s.rib, .int .i64 s.lo, .int .i64 s.hi, .bool s.bad] 126 false false, 0⟩ : ABlk)] := ⟨_, rfl⟩
  have xG : Ext h G := by rw [eG]; exact .app (.app .refl)
  have g1 : G[h.length]? = some ⟨.cells [.int .i64 L.R, .int .i64 L.T, pv, sv] 32 false false, 0⟩ := by rw [eG]; exact get_app (get_eq rfl)
  have g2 : G[h.length + 1]? = some ⟨.cells [.int .i64 s.rib, .int .i64 s.lo, .int .i64 s.hi, .bool s.bad] 126 false false, 0⟩ := by rw [eG]; exact get_eq (by simp)
  have tc := fun (base : Nat) (b : Brk) (hb : b ∈ t) => run_touches (base := base) (s := s) (hP.ext xG) hS hc hr (ht b hb) hs
  have hl := (hT.ext xG).len (P := prog) Fc.el66
  simp only [encB, encS] at tc ⊢
  refine callL_run func102 rfl rfl ?_
  have hsp := @Nat.succ_ne_zero; repeat' (first | simp (disch := first | exact dschE58 | fail) only [go_sem, ↓reduceIte, hsp, ← eG] | refine WP_drw ?_ | refine cnd_intro (fun hsp => ?_) fun hsp => ?_)
  refine WP_count [(6, 20)] 0 t.length (Nat.zero_le _) (fun _ i fr h' => fr 7 = .int .i64 (i : Int) ∧ h' = G ∧ ((t.take i).any fun b => splB L b s) = false) ?_ ?_ ?_
  · exact ⟨by (simp (disch := first | exact dschE58 | fail) only [go_sem, ↓reduceIte, Int.natCast_zero]; first | done | rfl), rfl, by simp⟩
  · rintro i fr H hi0 hi hA ⟨r7, eH, hno⟩
    subst eH
    have p1 := hA 1 rfl
    have p3 := hA 3 rfl
    have p5 := hA 5 rfl
    try simp (disch := first | exact dschE58 | fail) only [go_sem, ↓reduceIte] at p1 p3 p5
    have hlt : ((i : Int) < (t.length : Int)) = True := eq_true (by omega)
    obtain ⟨x, ex⟩ : ∃ x, x = t.getD i brk0 := ⟨_, rfl⟩
    have hx : t[i]? = some x := by rw [ex]; exact getD_some hi
    have ad := brkAddr (hT.ext xG) hi
    have d1 := brkLoad (hT.ext xG) hx
    have e := fun base => tc base x (List.mem_of_getElem? hx)
    rcases Bool.eq_false_or_eq_true (splB L x s) with c1 | c1
    · rw [c1] at e
      have r : badB L t s = true := List.any_eq_true.2 ⟨x, List.mem_of_getElem? hx, c1⟩
      rw [r]
      have hsp := @Nat.succ_ne_zero; repeat' (first | simp (disch := first | exact dschE58 | fail) only [go_sem, ↓reduceIte, hsp, r7, p1, p3, p5, hlt, hl, g1, g2, ad, d1, e] | refine WP_drw ?_ | refine cnd_intro (fun hsp => ?_) fun hsp => ?_)
      exact fB rfl xG
    · rw [c1] at e
      have hsp := @Nat.succ_ne_zero; repeat' (first | simp (disch := first | exact dschE58 | fail) only [go_sem, ↓reduceIte, hsp, r7, p1, p3, p5, hlt, hl, g1, g2, ad, d1, e] | refine WP_drw ?_ | refine cnd_intro (fun hsp => ?_) fun hsp => ?_)
      exact ⟨by (repeat first | exact Agree.refl | assumption | refine Agree.put rfl ?_ | refine Agree.put0 ?_ | refine Agree.sub rfl (by assumption) ?_), by omega, by rw [any_take_succ _ hx, hno, c1]; rfl⟩
  · rintro fr H hA ⟨r7, eH, hno⟩
    subst eH
    have p1 := hA 1 rfl
    have p3 := hA 3 rfl
    have p5 := hA 5 rfl
    try simp (disch := first | exact dschE58 | fail) only [go_sem, ↓reduceIte] at p1 p3 p5
    have hlt : ((t.length : Int) < (t.length : Int)) = False := eq_false (by omega)
    rw [List.take_length] at hno
    have r : badB L t s = false := hno
    rw [r]
    have hsp := @Nat.succ_ne_zero; repeat' (first | simp (disch := first | exact dschE58 | fail) only [go_sem, ↓reduceIte, hsp, r7, p1, p3, p5, hlt, hl] | refine WP_drw ?_ | refine cnd_intro (fun hsp => ?_) fun hsp => ?_)
    exact fB rfl xG
/-! ### Left -/
def lefR (L : Lom) (t : List Brk) (n : Nat) : List Int := (upto n).filter fun i => badB L t (L.ss.getD i.toNat sgt0) != (L.ss.getD i.toNat sgt0).bad
theorem lefR_succ {L : Lom} {t : List Brk} {n : Nat} : lefR L t (n + 1) = lefR L t n ++ (if (badB L t (L.ss.getD n sgt0) != (L.ss.getD n sgt0).bad) = true then [(n : Int)] else []) := by
  unfold lefR
  rw [upto_succ, List.filter_append]
  congr 1
  simp only [List.filter_cons, List.filter_nil, Int.toNat_natCast]
theorem lefR_len {L : Lom} {t : List Brk} {n : Nat} : (lefR L t n).length ≤ n := by
  have := List.length_filter_le (fun i : Int => badB L t (L.ss.getD i.toNat sgt0) != (L.ss.getD i.toNat sgt0).bad) (upto n)
  rw [upto_len] at this
  exact this
theorem lefR_eq {L : Lom} {t : List Brk} (hc : chkM L = 0) (ht : truM L t = 0) : lefR L t L.ss.length = (lftM L t).1 := by
  have hto := truM_iff.1 ht
  have e : lftM L t = (lftN (spoS L t t.length) L.ss L.ss.length, 0) := by
    unfold lftM
    rw [if_neg (by simp [hc]), if_neg (by simp [ht])]
  rw [e]
  refine pair_ext ((upto_sorted _).filter _) ((upto_sorted _).filter _) fun x => ?_
  show x ∈ lefR L t L.ss.length ↔ x ∈ lftN (spoS L t t.length) L.ss L.ss.length
  rw [lftN_mem hto]
  unfold lefR
  rw [List.mem_filter, upto_mem]
  refine and_congr_right fun hx => ?_
  rw [← badB_iff hto.2]
  unfold badI
  rw [show sgtI L x = L.ss.getD x.toNat sgt0 from rfl, ← Bool.eq_iff_iff]
  simp
set_option maxHeartbeats 1000000 in
theorem run_leftR {base : Nat} {h : Heap} {L : Lom} {pv sv tv : AVal} {t : List Brk} (hb : base ≤ h.length) (hP : Parts h pv L.ps) (hS : Rows encS h sv L.ss) (hc : chkM L = 0) (hr : ∀ p ∈ L.ps, p.rib.length ≤ 1000) (hT : Rows encB h tv t) (htl : t.length ≤ 1000) (ht : truM L t = 0) :
    Ret prog raw base (.fn 36 [] []) [lomV L.R L.T pv sv, tv] h (fun v H => Ext h H ∧ Own encI 3 h.length H v (lftM L t).1) := by
  have ho := hP.one
  have ho2 := hS.one
  have ho3 := hT.one
  have hto := truM_iff.1 ht
  obtain ⟨k1, k2, k3, k4, k5, k6⟩ := chkM_ok hc
  rw [← lefR_eq hc ht]
  obtain ⟨G, eG⟩ : ∃ G, G = h ++ [(⟨.cells [.int .i64 L.R, .int .i64 L.T, pv, sv] 32 false false, 0⟩ : ABlk)] := ⟨_, rfl⟩
  have xG : Ext h G := by rw [eG]; exact .app .refl
  have hG := xG.len
  have g1 : G[h.length]? = some ⟨.cells [.int .i64 L.R, .int .i64 L.T, pv, sv] 32 false false, 0⟩ := by rw [eG]; exact get_eq rfl
  refine ret_raw func36 rfl (by kernel_rfl) ?_
  have hsp := @Nat.succ_ne_zero; repeat' (first | simp (disch := first | exact dschE58 | fail) only [go_sem, ↓reduceIte, hsp, ← eG] | refine WP_drw ?_ | refine cnd_intro (fun hsp => ?_) fun hsp => ?_)
  refine WP_count [(5, 32)] 0 L.ss.length (Nat.zero_le _) (fun _ i fr h' => fr 6 = .int .i64 (i : Int) ∧ Ext G h' ∧ ∃ v, fr 5 = v ∧ Own encI 3 G.length h' v (lefR L t i)) ?_ ?_ ?_
  · exact ⟨by (simp (disch := first | exact dschE58 | fail) only [go_sem, ↓reduceIte, Int.natCast_zero]; first | done | rfl), .refl, .slice none 0 0, by simp (disch := first | exact dschE58 | fail) only [go_sem, ↓reduceIte], by simp only [lefR, upto, lst]; exact Own.nil⟩
  · rintro i fr K hi0 hi hA ⟨r6, xK, v, r5, hO⟩
    have p1 := hA 1 rfl
    have p2 := hA 2 rfl
    have p4 := hA 4 rfl
    try simp (disch := first | exact dschE58 | fail) only [go_sem, ↓reduceIte] at p1 p2 p4
    have hlt : ((i : Int) < (L.ss.length : Int)) = True := eq_true (by omega)
    have xh := xG.trans xK
    have g1K := xK.get g1
    have l4 : lenOpA prog K 30 sv = some (.int .i64 (L.ss.length : Int)) := (hS.ext xh).len Fc.el30
    obtain ⟨s, es⟩ : ∃ s, s = L.ss.getD i sgt0 := ⟨_, rfl⟩
    have hs : L.ss[i]? = some s := by rw [es]; exact getD_some hi
    have k6s := k6 s (List.mem_of_getElem? hs)
    have ad := (hS.ext xh).addr (P := prog) (i := (i : Int)) Fc.el30 Fc.ar30 (by omega) (by omega)
    rw [Int.toNat_natCast] at ad
    have s1 : loadP prog K 126 (elAdr sv encS.z i 0) = some (.agg [.int .i64 s.rib, .int .i64 s.lo, .int .i64 s.hi, .bool s.bad]) := (hS.ext xh).load (P := prog) Fc.ty126 hs
    have e := fun base => run_badR (base := base) (s := s) (hP.ext xh) ho2 hc hr (hT.ext xh) htl hto.2 ⟨by omega, by omega, by omega⟩
    simp only [encS] at e
    have s3 : fieldAddrA prog 126 (elAdr sv encS.z i 0) 2 = some (elAdr sv encS.z i 3) := elAdr_field (P := prog) (i := i) (o := 0) (off := 3) (q := false) (n := 1) (hS.ext xh) (by omega) (by kernel_rfl) (by decide)
    have s4 : loadP prog K 4 (elAdr sv encS.z i 3) = some (.bool s.bad) := (hS.ext xh).cell (P := prog) Fc.ty4 hs (o := 3) (a := .bool s.bad) rfl
    have hel := lefR_len (L := L) (t := t) (n := i)
    have hKl := xK.len
    by_cases c1 : badB L t s = s.bad
    · have t1 : (badB L t s = s.bad) = True := eq_true c1
      have hsp := @Nat.succ_ne_zero; repeat' (first | simp (disch := first | exact dschE58 | fail) only [go_sem, ↓reduceIte, hsp, r6, r5, p1, p2, p4, hlt, g1K, l4, ad, s1, s3, s4, e, t1, neB, not_true, decide_false, Bool.false_eq_true] | refine WP_drw ?_ | refine cnd_intro (fun hsp => ?_) fun hsp => ?_)
      refine ⟨by (repeat first | exact Agree.refl | assumption | refine Agree.put rfl ?_ | refine Agree.put0 ?_ | refine Agree.sub rfl (by assumption) ?_), by omega, xK, v, rfl, ?_⟩
      rw [lefR_succ, ← es, if_neg (by simp [c1]), List.append_nil]
      exact hO
    · have t1 : (badB L t s = s.bad) = False := eq_false c1
      obtain ⟨v', h', ea, hO', hle, hE, h1'⟩ := hO.append1 (y := (i : Int)) (base := base) (t := 36) rfl rfl Fc.el36 encI_sc (by omega) hKl (by omega)
      have hsp := @Nat.succ_ne_zero; repeat' (first | simp (disch := first | exact dschE58 | fail) only [go_sem, ↓reduceIte, hsp, r6, r5, p1, p2, p4, hlt, g1K, l4, ad, s1, s3, s4, e, t1, neB, not_false_iff, decide_true, ea] | refine WP_drw ?_ | refine cnd_intro (fun hsp => ?_) fun hsp => ?_)
      refine ⟨by (repeat first | exact Agree.refl | assumption | refine Agree.put rfl ?_ | refine Agree.put0 ?_ | refine Agree.sub rfl (by assumption) ?_), by omega, hE _ (Nat.le_refl _) xK, v', rfl, ?_⟩
      rw [lefR_succ, ← es, if_pos (by simp [c1])]
      exact hO'
  · rintro fr K hA ⟨r6, xK, v, r5, hO⟩
    have p1 := hA 1 rfl
    have p2 := hA 2 rfl
    have p4 := hA 4 rfl
    try simp (disch := first | exact dschE58 | fail) only [go_sem, ↓reduceIte] at p1 p2 p4
    have hlt : ((L.ss.length : Int) < (L.ss.length : Int)) = False := eq_false (by omega)
    have g1K := xK.get g1
    have l4 : lenOpA prog K 30 sv = some (.int .i64 (L.ss.length : Int)) := (hS.ext (xG.trans xK)).len Fc.el30
    have hsp := @Nat.succ_ne_zero; repeat' (first | simp (disch := first | exact dschE58 | fail) only [go_sem, ↓reduceIte, hsp, r6, r5, p1, p2, p4, hlt, g1K, l4] | refine WP_drw ?_ | refine cnd_intro (fun hsp => ?_) fun hsp => ?_)
    exact ⟨xG.trans xK, hO.low hG⟩
end Go.AM
