/-
  Looms of some of the sights; sights that are turned in memory.
-/
import Derived.Test.YtlhmeoeamcgcmaaE44
import Derived.Test.YtlhmeoeamcgcmaaE39
set_option linter.unusedSimpArgs false
set_option linter.unusedVariables false
namespace Go.AM
open Go.Proofs.Try

theorem run_startS {base : Nat} {h : Heap} {v : AVal} {silk : List Int} {T0 P0 S0 : Int} (hb : base ≤ h.length) (hB : Bytes h v silk) (hT0 : 1 ≤ T0 ∧ T0 ≤ 12) (hP0 : 1 ≤ P0 ∧ P0 ≤ 6) (hS0 : 0 ≤ S0 ∧ S0 ≤ 10) :
    ∃ H L t pv sv tv, callL prog raw base (.fn 9 [] []) [.ptr (some ⟨h.length, 0, 0⟩), .int .i64 T0, .int .i64 P0, .int .i64 S0] (h ++ [spB v silk 0]) = some (.tuple [lomV L.R L.T pv sv, tv], H) ∧ Ext h H ∧ MadeAt H L t pv sv tv ∧ OwnP h.length H pv L.ps ∧ Own encS 39 h.length H sv L.ss ∧ L.R ≤ 4 ∧ L.T ≤ T0 ∧ L.ps.length ≤ P0 ∧ L.ss.length ≤ S0 := by
  have hS : SpAt (h ++ [spB v silk 0]) h.length v silk 0 := SpAt.new hB rfl
  obtain ⟨w, H, e, L, t, k', pv, sv, tv, hk, xH, rfl, oP, oS, oT, hc, hx, b1, b2, b3, b4⟩ := run_made (base := base) (T0 := T0) (P0 := P0) (S0 := S0) (by simp; omega) hS (by omega) hT0 hP0 hS0
  have ok := lomOk_of hc
  have htl := truth_len hx.1
  refine ⟨H, L, t, pv, sv, tv, e, ?_, ⟨oP.parts (by omega) ok.1, oS.rows (by omega), oT.rows (by omega), oT.low (Nat.zero_le _), hc, ok, hx⟩, oP.low (by simp), oS.low (by simp), b1, b2, b3, b4⟩
  unfold SpE at xH
  rw [List.set_append_right _ _ (Nat.le_refl _)] at xH
  exact (Ext.app .refl).trans xH

/-! ### A row is set -/
theorem Own.setRow {α β : Type} {E : Enc α} {E2 : Enc β} {e e2 b ver i : Nat} {H : Heap} {v : AVal} {l : List α} {l2 : List β} {k : ABlk} (x : Own E e b H v l) (hg : H[i]? = some (rowE E2 e2 l2 ver)) (hne : e ≠ e2) : Own E e b (H.set i k) v l := by
  rcases x with q | ⟨id, ver', e1, g, e3, e4⟩
  · exact .inl q
  · have hn : i ≠ id := by
      rintro rfl
      rw [hg] at g
      have := Option.some.inj g
      simp [rowE] at this
      exact hne this.1.2.symm
    exact .inr ⟨id, ver', e1, by rw [List.getElem?_set_ne hn]; exact g, e3, e4⟩
theorem OwnP.setRow {β : Type} {E2 : Enc β} {e2 b ver i : Nat} {H : Heap} {pv : AVal} {ps : List Prt} {l2 : List β} {k : ABlk} (x : OwnP b H pv ps) (hg : H[i]? = some (rowE E2 e2 l2 ver)) (h1 : 55 ≠ e2) (h2 : 3 ≠ e2) : OwnP b (H.set i k) pv ps :=
  x.mapH (fun _ _ y => y.setRow hg h1) fun _ _ y => y.setRow hg h2
/-- One cell of a sight is set. -/
theorem flatS_set {ss : List Sgt} {j : Nat} {s : Sgt} {b : Bool} (hg : ss[j]? = some s) : (flat encS ss).set (j * 4 + 3) (.bool b) = flat encS (ss.set j ⟨s.rib, s.lo, s.hi, b⟩) := by
  have hj := (List.getElem?_eq_some_iff.1 hg).1
  have he : ss[j] = s := (List.getElem?_eq_some_iff.1 hg).2
  have h1 : ss = ss.take j ++ s :: ss.drop (j + 1) := by rw [← he, ← List.drop_eq_getElem_cons hj, List.take_append_drop]
  have hl : (ss.take j).length = j := by rw [List.length_take]; omega
  have hf : (flat encS (ss.take j)).length = j * 4 := by rw [flat_len, hl]; rfl
  have h2 : ss.set j ⟨s.rib, s.lo, s.hi, b⟩ = ss.take j ++ ⟨s.rib, s.lo, s.hi, b⟩ :: ss.drop (j + 1) := by
    conv => lhs; rw [h1]
    rw [List.set_append_right _ _ (by omega), hl, Nat.sub_self, List.set_cons_zero]
  rw [h2, flat_app, flat_cons]
  conv => lhs; rw [h1, flat_app, flat_cons]
  rw [List.set_append_right _ _ (by omega), hf, show j * 4 + 3 - j * 4 = 3 by omega]
  rfl

/-! ### Some of the sights -/
def subL (L : Lom) (l : List Int) : Lom := ⟨L.R, L.T, L.ps, l.map (sgtI L)⟩
theorem sgtI_sub {L : Lom} {l : List Int} {i : Nat} (hi : i < l.length) : sgtI (subL L l) (i : Int) = sgtI L l[i] := by
  rw [sgtI_nat]
  unfold subL
  simp only
  rw [getD_at (by rw [List.length_map]; exact hi), List.getElem_map]
theorem badI_sub {L : Lom} {l : List Int} {i : Nat} (hi : i < l.length) : badI (subL L l) (i : Int) = badI L l[i] := congrArg (·.bad) (sgtI_sub (L := L) hi)
theorem xpA_sub {L : Lom} {l : List Int} {t : List Brk} : XpA (subL L l) t ↔ Xp L l t := by
  have hl : (subL L l).ss.length = l.length := by simp [subL]
  constructor
  · rintro ⟨h1, h2⟩
    refine ⟨h1, fun i hi => ?_⟩
    obtain ⟨j, hj, rfl⟩ := List.getElem_of_mem hi
    have := h2 (j : Int) (upto_mem.2 (by rw [hl]; omega))
    rw [sgtI_sub hj, badI_sub hj] at this
    exact this
  · rintro ⟨h1, h2⟩
    refine ⟨h1, fun i hi => ?_⟩
    have hi' := upto_mem.1 hi
    rw [hl] at hi'
    obtain ⟨j, rfl⟩ := Int.eq_ofNat_of_zero_le hi'.1
    have hj : j < l.length := by omega
    rw [sgtI_sub hj, badI_sub hj]
    exact h2 _ (List.getElem_mem hj)
theorem chkM_sub {L : Lom} {l : List Int} (hc : chkM L = 0) (hl : l.length ≤ 10) (hi : ∀ i ∈ l, 0 ≤ i ∧ i < (L.ss.length : Int)) : chkM (subL L l) = 0 := by
  obtain ⟨k1, k2, k3, k4, k5, k6⟩ := chkM_ok hc
  refine chkM_of k1 k2 k3 (by simp [subL]; omega) k5 fun x hx => ?_
  obtain ⟨i, hi', rfl⟩ := List.mem_map.1 hx
  exact k6 _ (sgtI_mem (hi i hi'))
/-- All but one. -/
def skipL (l : List Int) (lv : Int) : Nat → List Int
  | 0 => []
  | n + 1 => if (n : Int) ≠ lv then skipL l lv n ++ [l.getD n 0] else skipL l lv n
theorem skipL_sub {l : List Int} {lv : Int} : ∀ n, n ≤ l.length → (skipL l lv n).Sublist (l.take n)
  | 0, _ => by simp [skipL]
  | n + 1, h => by
    have ih := skipL_sub (l := l) (lv := lv) n (by omega)
    rw [skipL, List.take_add_one, List.getElem?_eq_getElem (by omega), getD_at (by omega)]
    split
    · exact ih.append (List.Sublist.refl _)
    · exact ih.trans (List.sublist_append_left _ _)
theorem skipL_all {l : List Int} : ∀ n, n ≤ l.length → skipL l (-1) n = l.take n
  | 0, _ => by simp [skipL]
  | n + 1, h => by
    rw [skipL, if_pos (by omega), skipL_all n (by omega), List.take_add_one, List.getElem?_eq_getElem (by omega), getD_at (by omega)]
    rfl
theorem skipL_len {l : List Int} {lv : Int} : ∀ n, n ≤ l.length → (skipL l lv n).length = if 0 ≤ lv ∧ lv < (n : Int) then n - 1 else n
  | 0, _ => by simp [skipL]
  | n + 1, h => by
    have ih := skipL_len (l := l) (lv := lv) n (by omega)
    rw [skipL]
    by_cases c : (n : Int) = lv
    · rw [if_neg (fun q => q c), ih, if_neg (by omega), if_pos (by omega)]; rfl
    · rw [if_pos c, List.length_append, ih, List.length_singleton]
      by_cases d : 0 ≤ lv ∧ lv < (n : Int)
      · rw [if_pos d, if_pos (by omega)]; omega
      · rw [if_neg d, if_neg (by omega)]
end Go.AM
/-
  Contracts: a loom of some of the sights (FaultClashed's part).
-/
namespace Go.AM
open Go.Proofs.Try
theorem dschE50 {p : Prop} (h : p := by first | exact Nat.ne_of_beq_eq_false rfl | assumption | (apply asOne; (first | exact One.int | exact One.bool | assumption | exact Ints.one (by assumption) | exact Rows.one (by assumption) | exact Own.one (by assumption) | exact One.lit ⟨rfl, rfl, rfl⟩)) | (apply asInts; (repeat first | assumption | exact ints_nil | apply Ints.app); done) | (apply asRows; (repeat first | assumption | exact Rows.nil | apply Rows.app); done) | (apply asScal; (first | apply allS1 | apply allS2 | apply allS3 | apply allS4) <;> (first | exact One.int | exact One.bool | assumption | exact Ints.one (by assumption) | exact Rows.one (by assumption) | exact Own.one (by assumption) | exact One.lit ⟨rfl, rfl, rfl⟩)) | exact litT rfl | exact litF rfl | omega | (simp only [List.length_append, List.length_cons, List.length_nil, List.length_set, List.length_reverse]; first | done | omega) | fail) : p := h
attribute [-go_sem] put_ne put_same
attribute [local go_sem ↓] put_if

set_option maxHeartbeats 2000000 in
theorem run_part1 {base lid cid : Nat} {h : Heap} {L : Lom} {pv sv cv : AVal} {cl : List Int} {lv : Int} (hb : base ≤ h.length) (gl : h[lid]? = some (lmB L.R L.T pv sv)) (gc : h[cid]? = some ⟨.cells [cv] 32 false false, 0⟩) (hP : Parts h pv L.ps) (hS : Rows encS h sv L.ss) (hC : Ints h cv cl) (hc : chkM L = 0) (hin : ∀ i ∈ cl, 0 ≤ i ∧ i < (L.ss.length : Int)) (hup : cl.Pairwise (· < ·)) (hcl : cl.length ≤ 10) :
    Ret prog raw base (.fn 14 [] [.ptr (some ⟨lid, 0, 0⟩), .ptr (some ⟨cid, 0, 0⟩)]) [.int .i64 lv] h (fun w H => Ext h H ∧ ∃ qv rv, w = .tuple [lomV L.R L.T qv rv, .bool true] ∧ Parts H qv L.ps ∧ Rows encS H rv ((skipL cl lv cl.length).map (sgtI L))) := by
  have ok := lomOk_of hc
  obtain ⟨k1, k2, k3, k4, k5, k6⟩ := chkM_ok hc
  have o1 := hP.one
  have o2 := hS.one
  have o3 := hC.one
  have hL : LomAt h (lomV L.R L.T pv sv) L := ⟨pv, sv, rfl, hP, hS⟩
  have xr : Ext h (h ++ [lmB 0 0 (.slice none 0 0) (.slice none 0 0)]) := .app .refl
  obtain ⟨w1, H1, e1, x1, qv, rv0, rfl, oQ, oR0⟩ := run_own (base := base) (h := h ++ [lmB 0 0 (.slice none 0 0) (.slice none 0 0)]) (by simp; omega) (hL.ext xr) (by omega) (by omega) ok.2.2.2.2
  have q1 := oQ.one
  have q2 := oR0.one
  have gr1 : H1[h.length]? = some (lmB 0 0 (.slice none 0 0) (.slice none 0 0)) := x1.get (get_eq rfl)
  have xh1 := xr.trans x1
  have hl1 := xh1.len
  have hl1' := x1.len
  simp only [List.length_append, List.length_cons, List.length_nil] at hl1'
  have hbH1 : base ≤ H1.length := by omega
  have hC1 := hC.ext xh1
  have glr : (h ++ [lmB 0 0 (.slice none 0 0) (.slice none 0 0)])[lid]? = some (lmB L.R L.T pv sv) := get_app gl
  have gl1 : ∀ {T : Heap}, (H1 ++ T)[lid]? = some (lmB L.R L.T pv sv) := fun {T} => get_app (xh1.get gl)
  have gc1 : ∀ {T : Heap}, (H1 ++ T)[cid]? = some ⟨.cells [cv] 32 false false, 0⟩ := fun {T} => get_app (xh1.get gc)
  have hlc := lt_of_get gl
  have hcc := lt_of_get gc
  refine ret_raw func14 rfl (by kernel_rfl) ?_
  have e1' := e1
  have hsp := @Nat.succ_ne_zero; repeat' (first | simp (disch := first | exact dschE50 | fail) only [go_sem, ↓reduceIte, hsp, glr, e1', gl1, gc1] | refine WP_drw ?_ | refine cnd_intro (fun hsp => ?_) fun hsp => ?_)
  refine WP_count [(5, 5), (7, 8), (14, 55)] 0 cl.length (Nat.zero_le _) (fun _ n fr h' => fr 14 = .int .i64 (n : Int) ∧ Ext H1 h' ∧ ∃ rv, h'[H1.length]? = some (lmB L.R L.T qv rv) ∧ Own encS 39 (H1.length + 1) h' rv ((skipL cl lv n).map (sgtI L))) ?_ ?_ ?_
  · exact ⟨by (simp (disch := first | exact dschE50 | fail) only [go_sem, ↓reduceIte, Int.natCast_zero]; first | done | rfl), .app .refl, .slice none 0 0, get_eq rfl, by rw [skipL]; exact Own.nil⟩
  · rintro n fr H hn0 hn hA ⟨r14, xH, rv, gN, oR⟩
    have p0 := hA 0 rfl
    have p1 := hA 1 rfl
    have p2 := hA 2 rfl
    have p4 := hA 4 rfl
    have p6 := hA 6 rfl
    have p12 := hA 12 rfl
    have p13 := hA 13 rfl
    try simp (disch := first | exact dschE50 | fail) only [go_sem, ↓reduceIte] at p0 p1 p2 p4 p6 p12 p13
    have hlt : ((n : Int) < (cl.length : Int)) = True := eq_true (by omega)
    have xh := xh1.trans xH
    have hCH := hC.ext xh
    have hSH := hS.ext xh
    have r1 := oR.one
    have hHl := xh.len
    have hNl := lt_of_get gN
    have glH := xh.get gl
    have gcH := xh.get gc
    obtain ⟨k, ek⟩ : ∃ k, k = cl.getD n 0 := ⟨_, rfl⟩
    have hkm : k ∈ cl := by rw [ek]; exact getD_mem hn
    have hk := hin k hkm
    have hlS : lenOpA prog H 24 sv = some (.int .i64 (L.ss.length : Int)) := hSH.len Fc.el24
    have t1 : (k < 0) = False := eq_false (by omega)
    have t2 : (k ≥ (L.ss.length : Int)) = False := eq_false (by omega)
    have hprev : ∀ {j : Nat}, 0 < n → j = n - 1 → (k ≤ cl.getD j 0) = False := fun {j} h0 ej => eq_false (by
      subst ej
      rw [ek, getD_at hn, getD_at (show n - 1 < cl.length by omega)]
      have := List.pairwise_iff_getElem.1 hup (n - 1) n (by omega) hn (by omega)
      omega)
    have hg := getD_some (d := sgt0) (show k.toNat < L.ss.length by omega)
    have hads := hSH.addr (P := prog) (i := k) Fc.el24 Fc.ar24 (by omega) (by omega)
    obtain ⟨x, ex⟩ : ∃ x, x = L.ss.getD k.toNat sgt0 := ⟨_, rfl⟩
    have hlds : loadP prog H 39 (elAdr sv encS.z k.toNat 0) = some (.agg [.int .i64 x.rib, .int .i64 x.lo, .int .i64 x.hi, .bool x.bad]) := by rw [ex]; exact hSH.load (P := prog) Fc.ty39 hg
    have bs1 : ∀ {lit : Bool} {A : Heap}, bsA prog lit A 24 1 [(0, .agg [.int .i64 x.rib, .int .i64 x.lo, .int .i64 x.hi, .bool x.bad])] = some (.slice (some ⟨A.length, 0, 0⟩) 1 1, A ++ [rowE encS 39 [x] 0]) := fun {lit A} => bsS1 (s := x)
    have hll := skipL_len (l := cl) (lv := lv) n (by omega)
    obtain ⟨v', h', a1, a2, a3, a4, a5, a6⟩ := (oR.app (T := [rowE encS 39 [x] 0])).appendRX (P := prog) (x := .slice (some ⟨H.length, 0, 0⟩) 1 1) (m := [x]) (base := base) (t := 24) (Rows.own (get_eq rfl) rfl (by simp)) Fc.el24 encS_sc (by omega) (by simp; omega) (by simp) (by simp [hll]; split <;> omega)
    have kp : KeepO encS 39 _ h' := a6
    have gN2 := kp.box (i := H1.length) (get_app gN)
    simp only [List.length_append, List.length_cons, List.length_nil] at a3
    have hmap : (skipL cl lv n).map (sgtI L) ++ [x] = ((skipL cl lv n) ++ [cl.getD n 0]).map (sgtI L) := by
      rw [List.map_append, ← ek, ex]; rfl
    rw [hmap] at a2
    by_cases c0 : n = 0
    · have t3 : ((n : Int) > 0) = False := eq_false (by omega)
      by_cases c1 : (n : Int) = lv
      · have t4 : ((n : Int) = lv) = True := eq_true c1
        have hsp := @Nat.succ_ne_zero; repeat' (first | simp (disch := first | exact dschE50 | fail) only [go_sem, ↓reduceIte, hsp, r14, p0, p1, p2, p4, p6, p12, p13, hlt, ← ek, glH, gcH, hlS, t1, t2, t3, t4, not_true, not_false_iff, decide_true, decide_false] | refine WP_drw ?_ | refine cnd_intro (fun hsp => ?_) fun hsp => ?_)
        exact ⟨by (repeat first | exact Agree.refl | assumption | refine Agree.put rfl ?_ | refine Agree.put0 ?_ | refine Agree.sub rfl (by assumption) ?_), by omega, xH, rv, gN, by rw [skipL, if_neg (fun q => q c1)]; exact oR⟩
      · have t4 : ((n : Int) = lv) = False := eq_false c1
        have hsp := @Nat.succ_ne_zero; repeat' (first | simp (disch := first | exact dschE50 | fail) only [go_sem, ↓reduceIte, hsp, r14, p0, p1, p2, p4, p6, p12, p13, hlt, ← ek, glH, gcH, hlS, t1, t2, t3, t4, not_true, not_false_iff, decide_true, decide_false, gN, hads, hlds, bs1, a1, gN2] | refine WP_drw ?_ | refine cnd_intro (fun hsp => ?_) fun hsp => ?_)
        exact ⟨by (repeat first | exact Agree.refl | assumption | refine Agree.put rfl ?_ | refine Agree.put0 ?_ | refine Agree.sub rfl (by assumption) ?_), by omega, (a4 _ (by omega) (xH.trans (.app .refl))).set (Nat.le_refl _), v', rfl, by rw [skipL, if_pos c1]; exact a2.setBox gN2⟩
    · have t3 : ((n : Int) > 0) = True := eq_true (by omega)
      have tn : ((n : Int) - 1).toNat = n - 1 := by omega
      have t5 := hprev (j := n - 1) (by omega) rfl
      by_cases c1 : (n : Int) = lv
      · have t4 : ((n : Int) = lv) = True := eq_true c1
        have hsp := @Nat.succ_ne_zero; repeat' (first | simp (disch := first | exact dschE50 | fail) only [go_sem, ↓reduceIte, hsp, r14, p0, p1, p2, p4, p6, p12, p13, hlt, ← ek, glH, gcH, hlS, t1, t2, t3, t4, tn, t5, not_true, not_false_iff, decide_true, decide_false] | refine WP_drw ?_ | refine cnd_intro (fun hsp => ?_) fun hsp => ?_)
        exact ⟨by (repeat first | exact Agree.refl | assumption | refine Agree.put rfl ?_ | refine Agree.put0 ?_ | refine Agree.sub rfl (by assumption) ?_), by omega, xH, rv, gN, by rw [skipL, if_neg (fun q => q c1)]; exact oR⟩
      · have t4 : ((n : Int) = lv) = False := eq_false c1
        have hsp := @Nat.succ_ne_zero; repeat' (first | simp (disch := first | exact dschE50 | fail) only [go_sem, ↓reduceIte, hsp, r14, p0, p1, p2, p4, p6, p12, p13, hlt, ← ek, glH, gcH, hlS, t1, t2, t3, t4, tn, t5, not_true, not_false_iff, decide_true, decide_false, gN, hads, hlds, bs1, a1, gN2] | refine WP_drw ?_ | refine cnd_intro (fun hsp => ?_) fun hsp => ?_)
        exact ⟨by (repeat first | exact Agree.refl | assumption | refine Agree.put rfl ?_ | refine Agree.put0 ?_ | refine Agree.sub rfl (by assumption) ?_), by omega, (a4 _ (by omega) (xH.trans (.app .refl))).set (Nat.le_refl _), v', rfl, by rw [skipL, if_pos c1]; exact a2.setBox gN2⟩
  · rintro fr H hA ⟨r14, xH, rv, gN, oR⟩
    have p0 := hA 0 rfl
    have p1 := hA 1 rfl
    have p2 := hA 2 rfl
    have p4 := hA 4 rfl
    have p6 := hA 6 rfl
    have p12 := hA 12 rfl
    have p13 := hA 13 rfl
    try simp (disch := first | exact dschE50 | fail) only [go_sem, ↓reduceIte] at p0 p1 p2 p4 p6 p12 p13
    have hlt : ((cl.length : Int) < (cl.length : Int)) = False := eq_false (by omega)
    have r1 := oR.one
    have xh := xh1.trans xH
    have hHl := xH.len
    have gR := xH.get gr1
    have hb3 : h.length < H.length := by omega
    have hsp := @Nat.succ_ne_zero; repeat' (first | simp (disch := first | exact dschE50 | fail) only [go_sem, ↓reduceIte, hsp, r14, p0, p1, p2, p4, p6, p12, p13, hlt, gN, gR] | refine WP_drw ?_ | refine cnd_intro (fun hsp => ?_) fun hsp => ?_)
    have hll := skipL_len (l := cl) (lv := lv) cl.length (Nat.le_refl _)
    exact ⟨xh.set (Nat.le_refl _), qv, rv, rfl, ((oQ.ext xH).setBox gR).parts (by omega) ok.1, (oR.setBox gR).rows (by rw [List.length_map, hll]; split <;> omega)⟩
end Go.AM
