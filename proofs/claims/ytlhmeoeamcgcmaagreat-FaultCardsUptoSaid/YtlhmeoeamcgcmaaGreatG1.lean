/-
  Contracts: the desk (worked). UNDER WAY.
-/
import Derived.Test.YtlhmeoeamcgcmaaGreatG0
set_option linter.unusedSimpArgs false
set_option linter.unusedVariables false
namespace Go.AM
open Go.Proofs.Tryz
theorem dschE12 {p : Prop} (h : p := by first | exact Nat.ne_of_beq_eq_false rfl | assumption | (apply asOne; (first | exact One.int | exact One.bool | assumption | exact Ints.one (by assumption) | exact Rows.one (by assumption) | exact Own.one (by assumption) | exact One.lit ⟨rfl, rfl, rfl⟩)) | (apply asInts; (repeat first | assumption | exact ints_nil | apply Ints.app); done) | (apply asRows; (repeat first | assumption | exact Rows.nil | apply Rows.app); done) | (apply asScal; (first | apply allS1 | apply allS2 | apply allS3 | apply allS4) <;> (first | exact One.int | exact One.bool | assumption | exact Ints.one (by assumption) | exact Rows.one (by assumption) | exact Own.one (by assumption) | exact One.lit ⟨rfl, rfl, rfl⟩)) | exact litT rfl | exact litF rfl | omega | (simp only [List.length_append, List.length_cons, List.length_nil, List.length_set, List.length_reverse]; first | done | omega) | fail) : p := h
attribute [-go_sem] put_ne put_same
attribute [local go_sem ↓] put_if
theorem make_full {P : Program} {t : TypeId} {h : Heap} {zs : List AVal} {e : TypeId} {z : Nat} {n : Nat} (ht : elS P t = some (e, z, zs)) (h0 : 0 < n) (h1 : n < 4294967296) :
    makeSliceA P h t (.int .i64 (n : Int)) (.int .i64 (n : Int)) = some (.slice (some ⟨h.length, 0, 0⟩) n n, h ++ [⟨.cells (repCells zs n) e true false, 0⟩]) := by
  simp only [makeSliceA, ht]
  rw [if_pos ⟨by omega, Int.le_refl _, by omega⟩, if_neg (by omega)]
  rfl
/-- The cells of the marks of one part, and of all. -/
def encM : Enc (List Bool) := ⟨12, fun m => [.bool (m.getD 0 false), .bool (m.getD 1 false), .bool (m.getD 2 false), .bool (m.getD 3 false), .bool (m.getD 4 false), .bool (m.getD 5 false), .bool (m.getD 6 false), .bool (m.getD 7 false), .bool (m.getD 8 false), .bool (m.getD 9 false), .bool (m.getD 10 false), .bool (m.getD 11 false)], fun _ => rfl, by decide⟩
theorem rep_flat {α : Type} {E : Enc α} {x : α} : ∀ n, repCells (E.cells x) n = flat E (List.replicate n x)
  | 0 => rfl
  | n + 1 => by
    have := rep_flat (E := E) (x := x) n
    simp [repCells, flat, List.replicate_succ] at this ⊢
    exact this
theorem list12 {l : List Bool} (h : l.length = 12) : l = [l.getD 0 false, l.getD 1 false, l.getD 2 false, l.getD 3 false, l.getD 4 false, l.getD 5 false, l.getD 6 false, l.getD 7 false, l.getD 8 false, l.getD 9 false, l.getD 10 false, l.getD 11 false] := by
  match l, h with
  | [a, b, c, d, e, f, g, i, j, k, m, n], _ => rfl
theorem encM_cells {l : List Bool} (h : l.length = 12) : encM.cells l = l.map .bool := by
  match l, h with
  | [a, b, c, d, e, f, g, i, j, k, m, n], _ => rfl
theorem flatM_set {ms : List (List Bool)} {m : List Bool} {k t : Nat} {b : Bool} (hg : ms[k]? = some m) (hm : m.length = 12) (ht : t < 12) : (flat encM ms).set (k * 12 + t) (.bool b) = flat encM (ms.set k (m.set t b)) := by
  have hk := (List.getElem?_eq_some_iff.1 hg).1
  have hf := flat_get encM hg
  have e := flat_set encM (x := m.set t b) hk
  rw [e]
  have hz : encM.z = 12 := rfl
  rw [hz] at hf ⊢
  have hle := flat_len encM ms
  rw [hz] at hle
  have hkl : (k + 1) * 12 ≤ ms.length * 12 := Nat.mul_le_mul_right _ hk
  have hc2 : (m.map AVal.bool).length = 12 := by rw [List.length_map]; exact hm
  have hc3 : ((m.set t b).map AVal.bool).length = 12 := by rw [List.length_map, List.length_set]; exact hm
  have hc1 : ((flat encM ms).take (k * 12)).length = k * 12 := by rw [List.length_take]; omega
  rw [encM_cells (by rw [List.length_set]; exact hm)]
  rw [encM_cells hm] at hf
  refine List.ext_getElem? fun i => ?_
  rw [List.getElem?_set]
  by_cases h1 : i < k * 12
  · rw [if_neg (by omega), List.append_assoc, List.getElem?_append_left (by omega), List.getElem?_take, if_pos h1]
  · by_cases h2 : i < (k + 1) * 12
    · rw [List.append_assoc, List.getElem?_append_right (by omega), List.getElem?_append_left (by omega), hc1, List.map_set, List.getElem?_set]
      by_cases h3 : k * 12 + t = i
      · rw [if_pos h3, if_pos (by omega), if_pos (by omega), if_pos (by omega)]
      · rw [if_neg h3, if_neg (by omega), ← hf, List.getElem?_take, if_pos (by omega), List.getElem?_drop]
        congr 1; omega
    · rw [if_neg (by omega), List.getElem?_append_right (by rw [List.length_append]; omega), List.getElem?_drop]
      congr 1
      rw [List.length_append]
      omega
theorem stQ_mark {ms : List (List Bool)} {m : List Bool} {k t base id : Nat} {e : TypeId} {b : Bool} {K : ABlk → Heap} (hg : ms[k]? = some m) (hm : m.length = 12) (ht : t < 12) : stQ base id (some (rowE encM e ms 0)) 0 (k * 12 + t) [.bool b] K = some (K (rowE encM e (ms.set k (m.set t b)) 0)) := by
  have hk := (List.getElem?_eq_some_iff.1 hg).1
  have hle := flat_len encM ms
  have hz : encM.z = 12 := rfl
  rw [hz] at hle
  have hkl : (k + 1) * 12 ≤ ms.length * 12 := Nat.mul_le_mul_right _ hk
  simp only [rowE, stQ]
  rw [if_pos ⟨trivial, by simp only [List.length_cons, List.length_nil]; omega, by simp [AVal.scalar], .inr (by simp [AVal.bare])⟩]
  simp only [splice, flatM_set hg hm ht]
def deskB (L : Lom) (pv sv bv mv : AVal) : ABlk := ⟨.cells [.int .i64 L.R, .int .i64 L.T, pv, sv, bv, mv] 163 false false, 0⟩
set_option maxHeartbeats 1000000 in
theorem run_worked {base : Nat} {h : Heap} {L : Lom} {pv sv ov : AVal} {o : List Int} (hb : base ≤ h.length) (hP : Parts h pv L.ps) (hS : Rows encS h sv L.ss) (hO : Ints h ov o) (hpl : 1 ≤ L.ps.length ∧ L.ps.length ≤ 6) (hol : o.length ≤ 1000) (hoi : ∀ i ∈ o, 0 ≤ i ∧ i < (L.ss.length : Int)) (hss : ∀ s ∈ L.ss, 0 ≤ s.lo ∧ s.lo ≤ 11 ∧ s.hi ≤ 11 ∧ -1 ≤ s.hi) (hps : ∀ p ∈ L.ps, 1 ≤ p.each ∧ p.each ≤ 1000) :
    Ret prog raw base (.fn 87 [] []) [lomV L.R L.T pv sv, ov] h (fun v H => v = .ptr (some ⟨h.length + 2, 0, 0⟩) ∧ Ext h H ∧ ∃ bv mv, H[h.length + 2]? = some (deskB L pv sv bv mv) ∧ Own encI 3 (h.length + 3) H bv (deskN L o).1 ∧ mv = .slice (some ⟨h.length + 1, 0, 0⟩) L.ps.length L.ps.length ∧ H[h.length + 1]? = some (rowE encM 143 (deskN L o).2 0)) := by
  have hn : ∀ {T' : Heap}, lenOpA prog (h ++ T') 22 pv = some (.int .i64 (L.ps.length : Int)) := fun {T'} => (hP.ext (.app .refl)).len
  have ho := hP.one
  have ho2 := hS.one
  refine ret_raw func87 rfl (by kernel_rfl) ?_
  have hmk : ∀ {h : Heap}, _ := fun {h} => make_full (P := prog) (h := h) Fc.el161 (show 0 < L.ps.length by omega) (by omega)
  have hsp := @Nat.succ_ne_zero; repeat' (first | simp (disch := first | exact dschE12 | fail) only [go_sem, ↓reduceIte, hsp, hn, hmk] | refine WP_drw ?_ | refine cnd_intro (fun hsp => ?_) fun hsp => ?_)
  refine WP_count [(6, 11), (21, 83)] 0 o.length (Nat.zero_le _) (fun H0 i fr h' => fr 21 = .int .i64 (i : Int) ∧ ∃ bv, Ext ((h ++ [⟨.cells [.int .i64 L.R, .int .i64 L.T, pv, sv] 25 false false, 0⟩]) ++ [rowE encM 143 (deskN L (o.take i)).2 0] ++ [deskB L pv sv bv (.slice (some ⟨h.length + 1, 0, 0⟩) L.ps.length L.ps.length)]) h' ∧ Own encI 3 (h.length + 3) h' bv (deskN L (o.take i)).1) ?_ ?_ ?_
  · refine ⟨by (simp (disch := first | exact dschE12 | fail) only [go_sem, ↓reduceIte, Int.natCast_zero]; first | done | rfl), .slice none 0 0, ?_, Own.nil⟩
    have e := rep_flat (E := encM) (x := List.replicate 12 false) L.ps.length
    have e2 : (deskN L (o.take 0)).2 = List.replicate L.ps.length (List.replicate 12 false) := rfl
    rw [e2, rowE, ← e]
    exact .refl
  · rintro i fr H hi0 hi hA ⟨r21, bv, xH, hOw⟩
    have p2 := hA 2 rfl
    have p4 := hA 4 rfl
    have p5 := hA 5 rfl
    have p19 := hA 19 rfl
    have p20 := hA 20 rfl
    try simp (disch := first | exact dschE12 | fail) only [go_sem, ↓reduceIte] at p2 p4 p5 p19 p20
    have hlt : ((i : Int) < (o.length : Int)) = True := eq_true (by omega)
    have xh : Ext h H := Ext.trans (.app (.app (.app .refl))) xH
    have hO2 := hO.ext xh
    have hS2 := hS.ext xh
    have hx := hoi (o.getD i 0) (by rw [List.getD_eq_getElem?_getD, List.getElem?_eq_getElem hi]; exact List.getElem_mem hi)
    have had := hS2.addr (P := prog) (i := o.getD i 0) Fc.el23 Fc.ar23 hx.1 hx.2
    have hs : L.ss[(o.getD i 0).toNat]? = some L.ss[(o.getD i 0).toNat] := List.getElem?_eq_getElem (by omega)
    have hld := hS2.load (P := prog) Fc.ty56 hs
    have hg0 : H[h.length]? = some ⟨.cells [.int .i64 L.R, .int .i64 L.T, pv, sv] 25 false false, 0⟩ := xH.get (by simp)
    have hg2 : H[h.length + 1 + 1]? = some ⟨.cells [.int .i64 L.R, .int .i64 L.T, pv, sv, bv, .slice (some ⟨h.length + 1, 0, 0⟩) L.ps.length L.ps.length] 163 false false, 0⟩ := xH.get (by rw [List.getElem?_append_right (by simp)]; simp [deskB])
    have hHl := xH.len
    simp only [List.length_append, List.length_cons, List.length_nil] at hHl
    simp only [encS] at hld had
    generalize hsq : L.ss[(o.getD i 0).toNat] = s at hs hld
    have hnc : ∀ {a b c : Nat}, nilCheckA (.ptr (some ⟨a, b, c⟩)) = some (.ptr (some ⟨a, b, c⟩)) := rfl
    cases hbd : s.bad with
    | true =>
      rw [hbd] at hld
      have hdl := (deskN_len (L := L) (o.take i)).2.2
      rw [List.length_take] at hdl
      obtain ⟨v', h', ea, hO', hle, hE, h1'⟩ := (hOw.app (T := [⟨.cells [.int .i64 s.rib, .int .i64 s.lo, .int .i64 s.hi, .bool true] 56 false false, 0⟩])).append1 (y := o.getD i 0) (base := base) (t := 36) rfl rfl Fc.el36 encI_sc (by omega) (by simp only [List.length_append, List.length_cons, List.length_nil]; omega) (by omega)
      have xG := hE _ (by simp only [List.length_append, List.length_cons, List.length_nil]; omega) (Ext.app xH)
      have hg3 : h'[h.length + 1 + 1]? = some ⟨.cells [.int .i64 L.R, .int .i64 L.T, pv, sv, bv, .slice (some ⟨h.length + 1, 0, 0⟩) L.ps.length L.ps.length] 163 false false, 0⟩ := xG.get (by rw [List.getElem?_append_right (by simp)]; simp [deskB])
      have hge : base ≤ h.length + 1 + 1 := by omega
      have hsp := @Nat.succ_ne_zero; repeat' (first | simp (disch := first | exact dschE12 | fail) only [go_sem, ↓reduceIte, hsp, r21, p20, p19, p2, p5, hlt, had, hld, hg0, hg2, hnc, ea, hg3, hge] | refine WP_drw ?_ | refine cnd_intro (fun hsp => ?_) fun hsp => ?_)
      have e : deskN L (o.take (i + 1)) = ((deskN L (o.take i)).1 ++ [o.getD i 0], (deskN L (o.take i)).2) := by
        rw [deskN_succ hi]; simp only [deskS, hs, hbd, if_true]
      refine ⟨by (repeat first | exact Agree.refl | assumption | refine Agree.put rfl ?_ | refine Agree.put0 ?_ | refine Agree.sub rfl (by assumption) ?_), by omega, v', ?_, ?_⟩
      · rw [e]
        have q := xG.set2 (i := h.length + 1 + 1) (k := deskB L pv sv v' (.slice (some ⟨h.length + 1, 0, 0⟩) L.ps.length L.ps.length)) (by simp)
        rw [List.set_append_right _ _ (by simp)] at q
        simpa [deskB] using q
      · rw [e]
        exact hO'.set (by omega)
    | false =>
      rw [hbd] at hld
      have hnH : ∀ {T : Heap}, lenOpA prog (H ++ T) 22 pv = some (.int .i64 (L.ps.length : Int)) := fun {T} => (hP.ext (.app xh)).len
      have hsp := @Nat.succ_ne_zero; repeat' (first | simp (disch := first | exact dschE12 | fail) only [go_sem, ↓reduceIte, hsp, r21, p20, p19, p2, p5, hlt, had, hld, hg0, hg2, hnc, hnH] | refine WP_drw ?_ | refine cnd_intro (fun hsp => ?_) fun hsp => ?_)
      refine WP_count [(9, 11), (45, 82)] 0 L.ps.length (Nat.zero_le _) (fun H0 k fr h' => fr 45 = .int .i64 (k : Int) ∧ Ext ((h ++ [⟨.cells [.int .i64 L.R, .int .i64 L.T, pv, sv] 25 false false, 0⟩]) ++ [rowE encM 143 (markN L.ps s.rib s.lo.toNat (s.hi + 1 - s.lo).toNat (deskN L (o.take i)).2 k) 0] ++ [deskB L pv sv bv (.slice (some ⟨h.length + 1, 0, 0⟩) L.ps.length L.ps.length)]) h' ∧ h'[H.length]? = some ⟨.cells [.int .i64 s.rib, .int .i64 s.lo, .int .i64 s.hi, .bool false] 56 false false, 0⟩ ∧ Own encI 3 (h.length + 3) h' bv (deskN L (o.take i)).1) ?_ ?_ ?_
      · exact ⟨by (simp (disch := first | exact dschE12 | fail) only [go_sem, ↓reduceIte, Int.natCast_zero]; first | done | rfl), Ext.app xH, by simp, hOw.app⟩
      · rintro k fr2 H2 hk0 hk hA2 ⟨r45, xH2, hsg, hOw2⟩
        have q2 := hA2 2 rfl
        have q4 := hA2 4 rfl
        have q5 := hA2 5 rfl
        have q8 := hA2 8 rfl
        have q19 := hA2 19 rfl
        have q20 := hA2 20 rfl
        have q21 := hA2 21 rfl
        have q43 := hA2 43 rfl
        have q44 := hA2 44 rfl
        try simp (disch := first | exact dschE12 | fail) only [go_sem, ↓reduceIte, p2, p4, p5, p19, p20] at q2 q4 q5 q8 q19 q20 q21 q43 q44
        have xh2 : Ext h H2 := Ext.trans (.app (.app (.app .refl))) xH2
        have ⟨vs, hR0, hvl, h3⟩ := hP
        have hR := hR0.ext xh2
        have hx2 : vs[k]? = some vs[k] := List.getElem?_eq_getElem (by omega)
        obtain ⟨j1, j2, j3, j4⟩ := h3 k _ _ hx2 (List.getElem?_eq_getElem hk)
        have had2 := hR.addr (P := prog) (i := (k : Int)) Fc.el22 Fc.ar22 (by omega) (by omega)
        rw [Int.toNat_natCast] at had2
        have hld2 : loadP prog H2 81 (elAdr pv encP.z k 0) = some (.agg [vs[k].v, .int .i64 L.ps[k].each, .int .i64 L.ps[k].ph, .bool L.ps[k].wv]) := by
          rw [hR.load Fc.ty81 hx2]
          show some (AVal.agg [norm vs[k].v, .int .i64 vs[k].each, .int .i64 vs[k].ph, .bool vs[k].wv]) = _
          rw [norm_one j1.one, j2, j3, j4]
        have hlt2 : ((k : Int) < (L.ps.length : Int)) = True := eq_true (by omega)
        have ho3 := j1.one
        have hH2 := xh2.len
        have hbl : base ≤ H2.length := by omega
        have hsg2 : ∀ {T : Heap}, (H2 ++ T)[H.length]? = some ⟨.cells [.int .i64 s.rib, .int .i64 s.lo, .int .i64 s.hi, .bool false] 56 false false, 0⟩ := fun {T} => (Ext.app (t := T) Ext.refl).get hsg
        have hsp := @Nat.succ_ne_zero; repeat' (first | simp (disch := first | exact dschE12 | fail) only [go_sem, ↓reduceIte, hsp, r45, q2, q4, q5, q8, q19, q20, q21, q43, q44, had2, hld2, hlt2, hsg2] | refine WP_drw ?_ | refine cnd_intro (fun hsp => ?_) fun hsp => ?_)
        obtain ⟨ms, ems⟩ : ∃ ms, ms = markN L.ps s.rib s.lo.toNat (s.hi + 1 - s.lo).toNat (deskN L (o.take i)).2 k := ⟨_, rfl⟩
        rw [← ems] at xH2
        have hsb := hss s (List.mem_of_getElem? hs)
        have hpb := hps _ (List.getElem_mem hk)
        obtain ⟨dl1, dl2, _⟩ := deskN_len (L := L) (o.take i)
        have hml : ms.length = L.ps.length := by rw [ems, markN_len]; exact dl1
        have hma : ∀ m ∈ ms, m.length = 12 := by rw [ems]; exact markN_all dl1.symm dl2 k
        have hmk : (ms.getD k []).length = 12 := hma _ (by rw [List.getD_eq_getElem?_getD, List.getElem?_eq_getElem (by omega)]; exact List.getElem_mem _)
        have hgm : H2[h.length + 1]? = some (rowE encM 143 ms 0) := xH2.get (by simp)
        have hgd : H2[h.length + 1 + 1]? = some ⟨.cells [.int .i64 L.R, .int .i64 L.T, pv, sv, bv, .slice (some ⟨h.length + 1, 0, 0⟩) L.ps.length L.ps.length] 163 false false, 0⟩ := xH2.get (by rw [List.getElem?_append_right (by simp)]; simp [deskB])
        have hgk : ms[k]? = some (ms.getD k []) := by rw [List.getD_eq_getElem?_getD, List.getElem?_eq_getElem (by omega)]; rfl
        obtain ⟨m0, em0⟩ : ∃ m0, m0 = ms.getD k [] := ⟨_, rfl⟩
        rw [← em0] at hgk hmk
        refine WP_count [(11, 11), (53, 81)] 0 (s.hi + 1 - s.lo).toNat (Nat.zero_le _) (fun H0 n fr h' => fr 11 = .int .i64 (s.lo + (n : Int)) ∧ Ext (H0.set (h.length + 1) (rowE encM 143 (ms.set k (mark1 L.ps[k] s.rib s.lo.toNat m0 n)) 0)) h') ?_ ?_ ?_
        · refine ⟨by simp (disch := first | exact dschE12 | fail) only [go_sem, ↓reduceIte, Int.natCast_zero, Int.add_zero], ?_⟩
          have e1 : ms.set k (mark1 L.ps[k] s.rib s.lo.toNat m0 0) = ms := by
            have := (List.getElem?_eq_some_iff.1 hgk).2
            rw [mark1, ← this, List.set_getElem_self]
          rw [e1, set_id (by rw [List.getElem?_append_left (lt_of_get hgm)]; exact hgm)]
          exact .refl
        · rintro n fr3 H3 hn0 hn hA3 ⟨r11, xH3⟩
          have w2 := hA3 2 rfl
          have w4 := hA3 4 rfl
          have w5 := hA3 5 rfl
          have w8 := hA3 8 rfl
          have w9 := hA3 9 rfl
          have w10 := hA3 10 rfl
          have w19 := hA3 19 rfl
          have w20 := hA3 20 rfl
          have w21 := hA3 21 rfl
          have w43 := hA3 43 rfl
          have w44 := hA3 44 rfl
          have w45 := hA3 45 rfl
          try simp (disch := first | exact dschE12 | fail) only [go_sem, ↓reduceIte, q2, q4, q5, q8, q19, q20, q21, q43, q44] at w2 w4 w5 w8 w9 w10 w19 w20 w21 w43 w44 w45
          have hlm := lt_of_get hgm
          have hls := lt_of_get hsg
          have hg8 : H3[H.length]? = some ⟨.cells [.int .i64 s.rib, .int .i64 s.lo, .int .i64 s.hi, .bool false] 56 false false, 0⟩ := xH3.get (by rw [List.getElem?_set_ne (by omega)]; exact hsg2)
          have hg10 : H3[H2.length]? = some ⟨.cells [vs[k].v, .int .i64 L.ps[k].each, .int .i64 L.ps[k].ph, .bool L.ps[k].wv] 81 false false, 0⟩ := xH3.get (by rw [List.getElem?_set_ne (by omega)]; simp)
          have hg5 : H3[h.length + 1 + 1]? = some ⟨.cells [.int .i64 L.R, .int .i64 L.T, pv, sv, bv, .slice (some ⟨h.length + 1, 0, 0⟩) L.ps.length L.ps.length] 163 false false, 0⟩ := xH3.get (by rw [List.getElem?_set_ne (by omega), List.getElem?_append_left (lt_of_get hgd)]; exact hgd)
          have hgn : H3[h.length + 1]? = some (rowE encM 143 (ms.set k (mark1 L.ps[k] s.rib s.lo.toNat m0 n)) 0) := xH3.get (by rw [List.getElem?_set_self (by simp; omega)])
          have hlt3 : (s.lo + (n : Int) ≤ s.hi) = True := eq_true (by omega)
          have hrem : binA prog .rem 3 (.int .i64 (s.lo + (n : Int))) (.int .i64 L.ps[k].each) = some (.int .i64 ((s.lo + (n : Int)).tmod L.ps[k].each)) := bin_rem (by omega)
          have hIr : Ints H3 vs[k].v L.ps[k].rib := j1.ext (((Ext.app xh2).set (by omega)).trans xH3)
          have en : ((s.lo.toNat + n : Nat) : Int) = s.lo + (n : Int) := by omega
          have hct := fun base => run_contains (base := base) (x := s.rib) hIr
          by_cases ht : (s.lo + (n : Int)).tmod L.ps[k].each = L.ps[k].ph
          · have t1 : ((s.lo + (n : Int)).tmod L.ps[k].each = L.ps[k].ph) = True := eq_true ht
            by_cases hm : s.rib ∈ L.ps[k].rib
            · have t2 : (s.rib ∈ L.ps[k].rib) = True := eq_true hm
              have ha1 : indexAddrA prog 161 (.slice (some ⟨h.length + 1, 0, 0⟩) L.ps.length L.ps.length) (.int .i64 (k : Int)) = some (.ptr (some ⟨h.length + 1, 0, k * 12⟩)) := by
                rw [adr_sl Fc.el161 Fc.ar161 (by omega) (by omega), Nat.zero_add, Int.toNat_natCast]
              have ha2 : indexAddrA prog 143 (.ptr (some ⟨h.length + 1, 0, k * 12⟩)) (.int .i64 (s.lo + (n : Int))) = some (.ptr (some ⟨h.length + 1, 0, k * 12 + (s.lo.toNat + n)⟩)) := by
                rw [adr_arr Fc.ar143 (by omega) (by omega), show (s.lo + (n : Int)).toNat * 1 = s.lo.toNat + n by omega]
              have hst : ∀ {K : ABlk → Heap}, stQ base (h.length + 1) H3[h.length + 1]? 0 (k * 12 + (s.lo.toNat + n)) [.bool true] K = some (K (rowE encM 143 ((ms.set k (mark1 L.ps[k] s.rib s.lo.toNat m0 n)).set k ((mark1 L.ps[k] s.rib s.lo.toNat m0 n).set (s.lo.toNat + n) true)) 0)) := fun {K} => by
                rw [hgn]
                exact stQ_mark (by rw [List.getElem?_set_self (by omega)]) (by rw [mark1_len]; exact hmk) (by omega)
              have hsp := @Nat.succ_ne_zero; repeat' (first | simp (disch := first | exact dschE12 | fail) only [go_sem, ↓reduceIte, hsp, r11, w2, w4, w5, w8, w9, w10, w19, w20, w21, w43, w44, w45, hg8, hg10, hlt3, hrem, t1, hct, t2, hnc, hg5, ha1, ha2, hst] | refine WP_drw ?_ | refine cnd_intro (fun hsp => ?_) fun hsp => ?_)
              refine ⟨by (repeat first | exact Agree.refl | assumption | refine Agree.put rfl ?_ | refine Agree.put0 ?_ | refine Agree.sub rfl (by assumption) ?_), by omega, ?_⟩
              rw [mark1_pos ⟨by rw [en, ht], hm⟩]
              have q := xH3.set2 (i := h.length + 1) (k := rowE encM 143 ((ms.set k (mark1 L.ps[k] s.rib s.lo.toNat m0 n)).set k ((mark1 L.ps[k] s.rib s.lo.toNat m0 n).set (s.lo.toNat + n) true)) 0) (by simp; omega)
              rw [List.set_set, List.set_set] at q
              rw [set_lt hlm] at q
              simpa only [List.set_set] using q
            · have t2 : (s.rib ∈ L.ps[k].rib) = False := eq_false hm
              have hsp := @Nat.succ_ne_zero; repeat' (first | simp (disch := first | exact dschE12 | fail) only [go_sem, ↓reduceIte, hsp, r11, w2, w4, w5, w8, w9, w10, w19, w20, w21, w43, w44, w45, hg8, hg10, hlt3, hrem, t1, hct, t2] | refine WP_drw ?_ | refine cnd_intro (fun hsp => ?_) fun hsp => ?_)
              refine ⟨by (repeat first | exact Agree.refl | assumption | refine Agree.put rfl ?_ | refine Agree.put0 ?_ | refine Agree.sub rfl (by assumption) ?_), by omega, ?_⟩
              rw [mark1_neg fun e => hm e.2]
              rw [set_lt hlm] at xH3
              exact xH3
          · have t1 : ((s.lo + (n : Int)).tmod L.ps[k].each = L.ps[k].ph) = False := eq_false ht
            have hsp := @Nat.succ_ne_zero; repeat' (first | simp (disch := first | exact dschE12 | fail) only [go_sem, ↓reduceIte, hsp, r11, w2, w4, w5, w8, w9, w10, w19, w20, w21, w43, w44, w45, hg8, hg10, hlt3, hrem, t1, hct] | refine WP_drw ?_ | refine cnd_intro (fun hsp => ?_) fun hsp => ?_)
            refine ⟨by (repeat first | exact Agree.refl | assumption | refine Agree.put rfl ?_ | refine Agree.put0 ?_ | refine Agree.sub rfl (by assumption) ?_), by omega, ?_⟩
            rw [mark1_neg fun e => ht (by rw [← e.1, en])]
            rw [set_lt hlm] at xH3
            exact xH3
        · rintro fr3 H3 hA3 ⟨r11, xH3⟩
          have w2 := hA3 2 rfl
          have w4 := hA3 4 rfl
          have w5 := hA3 5 rfl
          have w8 := hA3 8 rfl
          have w9 := hA3 9 rfl
          have w10 := hA3 10 rfl
          have w19 := hA3 19 rfl
          have w20 := hA3 20 rfl
          have w21 := hA3 21 rfl
          have w43 := hA3 43 rfl
          have w44 := hA3 44 rfl
          have w45 := hA3 45 rfl
          try simp (disch := first | exact dschE12 | fail) only [go_sem, ↓reduceIte, q2, q4, q5, q8, q19, q20, q21, q43, q44] at w2 w4 w5 w8 w9 w10 w19 w20 w21 w43 w44 w45
          have hlm := lt_of_get hgm
          have hls := lt_of_get hsg
          have hg8 : H3[H.length]? = some ⟨.cells [.int .i64 s.rib, .int .i64 s.lo, .int .i64 s.hi, .bool false] 56 false false, 0⟩ := xH3.get (by rw [List.getElem?_set_ne (by omega)]; exact hsg2)
          have hlt3 : (s.lo + (((s.hi + 1 - s.lo).toNat : Nat) : Int) ≤ s.hi) = False := eq_false (by omega)
          have w45 := hA3 45 rfl; simp (disch := first | exact dschE12 | fail) only [go_sem, ↓reduceIte, r45] at w45
          have w21 := hA3 21 rfl; simp (disch := first | exact dschE12 | fail) only [go_sem, ↓reduceIte] at w21
          have hsp := @Nat.succ_ne_zero; repeat' (first | simp (disch := first | exact dschE12 | fail) only [go_sem, ↓reduceIte, hsp, r11, w2, w4, w5, w8, w9, w10, w19, w20, w21, w43, w44, w45, hg8, hlt3] | refine WP_drw ?_ | refine cnd_intro (fun hsp => ?_) fun hsp => ?_)
          have e : markN L.ps s.rib s.lo.toNat (s.hi + 1 - s.lo).toNat (deskN L (o.take i)).2 (k + 1) = ms.set k (mark1 L.ps[k] s.rib s.lo.toNat m0 (s.hi + 1 - s.lo).toNat) := by
            simp only [markN, List.getElem?_eq_getElem hk, ← ems, ← em0]
          rw [e]
          refine ⟨by (repeat first | exact Agree.refl | assumption | refine Agree.put rfl ?_ | refine Agree.put0 ?_ | refine Agree.sub rfl (by assumption) ?_), by omega, Ext.trans (xH2.app.mid rfl) xH3, ?_⟩
          exact (hOw2.app.set (by omega)).ext xH3
      · rintro fr2 H2 hA2 ⟨r45, xH2, hsg, hOw2⟩
        have p44 := hA2 44 rfl; simp (disch := first | exact dschE12 | fail) only [go_sem, ↓reduceIte] at p44
        have hlt2 : ((L.ps.length : Int) < (L.ps.length : Int)) = False := eq_false (by omega)
        have p21 := hA2 21 rfl; simp (disch := first | exact dschE12 | fail) only [go_sem, ↓reduceIte] at p21
        rw [r21] at p21
        have hsp := @Nat.succ_ne_zero; repeat' (first | simp (disch := first | exact dschE12 | fail) only [go_sem, ↓reduceIte, hsp, r45, p44, p21, hlt2] | refine WP_drw ?_ | refine cnd_intro (fun hsp => ?_) fun hsp => ?_)
        have e : deskN L (o.take (i + 1)) = ((deskN L (o.take i)).1, markN L.ps s.rib s.lo.toNat (s.hi + 1 - s.lo).toNat (deskN L (o.take i)).2 L.ps.length) := by
          rw [deskN_succ hi]; simp only [deskS, hs, hbd, Bool.false_eq_true, if_false]
        rw [e]
        refine ⟨by (repeat first | exact Agree.refl | assumption | refine Agree.put rfl ?_ | refine Agree.put0 ?_ | refine Agree.sub rfl (by assumption) ?_), by omega, bv, xH2, hOw2⟩
  · rintro fr H hA ⟨r21, bv, xH, hOw⟩
    have p20 := hA 20 rfl; simp (disch := first | exact dschE12 | fail) only [go_sem, ↓reduceIte] at p20
    have p5 := hA 5 rfl; simp (disch := first | exact dschE12 | fail) only [go_sem, ↓reduceIte] at p5
    have hlt : ((o.length : Int) < (o.length : Int)) = False := eq_false (by omega)
    have hsp := @Nat.succ_ne_zero; repeat' (first | simp (disch := first | exact dschE12 | fail) only [go_sem, ↓reduceIte, hsp, r21, p20, p5, hlt] | refine WP_drw ?_ | refine cnd_intro (fun hsp => ?_) fun hsp => ?_)
    rw [List.take_length] at hOw xH
    exact ⟨Ext.trans (.app (.app (.app .refl))) xH, bv, _, xH.get (by simp), hOw, rfl, xH.get (by simp)⟩
end Go.AM
/-
  Contracts: looms at work (opened, Excluded).
-/
namespace Go.AM
open Go.Proofs.Tryz
theorem dschE13 {p : Prop} (h : p := by first | exact Nat.ne_of_beq_eq_false rfl | assumption | (apply asOne; (first | exact One.int | exact One.bool | assumption | exact Ints.one (by assumption) | exact Rows.one (by assumption) | exact Own.one (by assumption) | exact One.lit ⟨rfl, rfl, rfl⟩)) | (apply asInts; (repeat first | assumption | exact ints_nil | apply Ints.app); done) | (apply asRows; (repeat first | assumption | exact Rows.nil | apply Rows.app); done) | (apply asScal; (first | apply allS1 | apply allS2 | apply allS3 | apply allS4) <;> (first | exact One.int | exact One.bool | assumption | exact Ints.one (by assumption) | exact Rows.one (by assumption) | exact Own.one (by assumption) | exact One.lit ⟨rfl, rfl, rfl⟩)) | exact litT rfl | exact litF rfl | omega | (simp only [List.length_append, List.length_cons, List.length_nil, List.length_set, List.length_reverse]; first | done | omega) | fail) : p := h
attribute [-go_sem] put_ne put_same
attribute [local go_sem ↓] put_if
/-- A loom at work in memory: its bad sights, the marks of its parts. -/
def DeskAt (H : Heap) (v : AVal) (L : Lom) (bad : List Int) (ms : List (List Bool)) : Prop :=
  ∃ id mid pv sv bv, v = .ptr (some ⟨id, 0, 0⟩) ∧ H[id]? = some (deskB L pv sv bv (.slice (some ⟨mid, 0, 0⟩) L.ps.length L.ps.length)) ∧ Parts H pv L.ps ∧ Rows encS H sv L.ss ∧ Ints H bv bad ∧
    H[mid]? = some (rowE encM 143 ms 0) ∧ ms.length = L.ps.length ∧ (∀ m ∈ ms, m.length = 12)
theorem DeskAt.ext {h H : Heap} {v : AVal} {L : Lom} {bad : List Int} {ms : List (List Bool)} (x : DeskAt h v L bad ms) (e : Ext h H) : DeskAt H v L bad ms := by
  obtain ⟨id, mid, pv, sv, bv, h1, h2, h3, h4, h5, h6, h7⟩ := x
  exact ⟨id, mid, pv, sv, bv, h1, e.get h2, h3.ext e, h4.ext e, h5.ext e, e.get h6, h7⟩
theorem deskN_sub {L : Lom} (o : List Int) : ∀ x ∈ (deskN L o).1, x ∈ o := by
  suffices g : ∀ (o : List Int) (d : List Int × List (List Bool)), ∀ x ∈ (o.foldl (deskS L) d).1, x ∈ d.1 ∨ x ∈ o by
    intro x hx
    rcases g o _ x hx with q | q
    · cases q
    · exact q
  intro o
  induction o with
  | nil => intro d x hx; exact .inl hx
  | cons i o ih =>
    intro d x hx
    rcases ih _ x hx with q | q
    · unfold deskS at q
      split at q
      · split at q
        · rcases List.mem_append.1 q with q | q
          · exact .inl q
          · exact .inr (by simp at q; simp [q])
        · exact .inl q
      · exact .inl q
    · exact .inr (List.mem_cons_of_mem _ q)
theorem upto_mem {n : Nat} {x : Int} : x ∈ upto n ↔ 0 ≤ x ∧ x < (n : Int) := by
  unfold upto lst
  simp only [List.mem_map, List.mem_range]
  constructor
  · rintro ⟨i, hi, rfl⟩; omega
  · intro ⟨h1, h2⟩; exact ⟨x.toNat, by omega, by omega⟩
/-- What is asked of a loom ahead of all. -/
def LomOk (L : Lom) : Prop := (∀ p ∈ L.ps, Small p.rib) ∧ L.ps.length ≤ 1048576 ∧ L.ss.length ≤ 1048576 ∧ (∀ p ∈ L.ps, p.each ≤ p.each) ∧ (∀ p ∈ L.ps, p.rib.length ≤ 1000)
theorem run_check' {base : Nat} {h : Heap} {v : AVal} {L : Lom} (hL : LomAt h v L) (hok : LomOk L) : callL prog raw base (.fn 59 [] []) [v] h = some (.int .i64 (chkM L), h) :=
  run_check hL hok.1 hok.2.1 hok.2.2.1 hok.2.2.2.1
theorem run_worked' {base : Nat} {h : Heap} {L : Lom} {pv sv ov : AVal} {o : List Int} (hb : base ≤ h.length) (hP : Parts h pv L.ps) (hS : Rows encS h sv L.ss) (hO : Ints h ov o) (hc : chkM L = 0) (hol : o.length ≤ 1000) (hoi : ∀ i ∈ o, 0 ≤ i ∧ i < (L.ss.length : Int)) :
    Ret prog raw base (.fn 87 [] []) [lomV L.R L.T pv sv, ov] h (fun v H => Ext h H ∧ DeskAt H v L (deskN L o).1 (deskN L o).2) := by
  obtain ⟨k1, k2, k3, k4, k5, k6⟩ := chkM_ok hc
  refine (run_worked hb hP hS hO k3 hol hoi (fun s hs => by have := k6 s hs; omega) (fun p hp => by have := k5 p hp; omega)).mono ?_
  rintro v H ⟨rfl, hE, bv, mv, g1, g2, rfl, g3⟩
  obtain ⟨d1, d2, d3⟩ := deskN_len (L := L) o
  exact ⟨hE, h.length + 2, h.length + 1, pv, sv, bv, rfl, g1, hP.ext hE, hS.ext hE, (g2.rows (by omega)).ints (fun x hx => by have := hoi x (deskN_sub o x hx); omega), g3, d1, d2⟩
/-- The desk of a loom, all of whose sights count. -/
def deskA (L : Lom) : List Int × List (List Bool) := deskN L (upto L.ss.length)
set_option maxHeartbeats 1000000 in
theorem run_opened {base : Nat} {h : Heap} {v : AVal} {L : Lom} (hb : base ≤ h.length) (hL : LomAt h v L) (hok : LomOk L) :
    Ret prog raw base (.fn 92 [] []) [v] h (fun w H => Ext h H ∧ ∃ x, w = .tuple [x, .int .i64 (chkM L)] ∧ One x ∧ (chkM L = 0 → DeskAt H x L (deskA L).1 (deskA L).2)) := by
  have hc : ∀ {base : Nat} {a : ABlk}, callL prog raw base (.fn 59 [] []) [v] (h ++ [a]) = some (.int .i64 (chkM L), h ++ [a]) := fun {base a} => run_check' (hL.ext (.app .refl)) hok
  obtain ⟨pv, sv, rfl, hP, hS⟩ := hL
  by_cases c1 : chkM L = 0
  · obtain ⟨k1, k2, k3, k4, k5, k6⟩ := chkM_ok c1
    obtain ⟨w1, H1, e1, x1, o1⟩ := run_whole (base := base) (h := h ++ [⟨.cells [.int .i64 L.R, .int .i64 L.T, pv, sv] 25 false false, 0⟩]) (R := L.R) (T := L.T) (pv := pv) (by simp; omega) hP.one hS.app (by omega)
    have xh := (Ext.app (t := [⟨.cells [.int .i64 L.R, .int .i64 L.T, pv, sv] 25 false false, 0⟩]) (Ext.refl (h := h))).trans x1
    have hul := upto_len (n := L.ss.length)
    obtain ⟨w2, H2, e2, x2, o2⟩ := run_worked' (base := base) (h := H1) (L := L) (ov := w1) (o := upto L.ss.length) (by have := xh.len; omega) (hP.ext xh) (hS.ext xh) ((o1.rows (by omega)).ints (fun x hx => by have := upto_mem.1 hx; omega)) c1 (by omega) (fun i hi => upto_mem.1 hi)
    refine ret_raw func92 rfl (by kernel_rfl) ?_
    have hsp := @Nat.succ_ne_zero; repeat' (first | simp (disch := first | exact dschE13 | fail) only [go_sem, ↓reduceIte, hsp, hc, c1, e1, e2, eq_self] | refine WP_drw ?_ | refine cnd_intro (fun hsp => ?_) fun hsp => ?_)
    refine ⟨xh.trans x2, w2, rfl, ?_, fun _ => o2⟩
    obtain ⟨id, mid, pv, sv, bv, rfl, _⟩ := o2
    exact ⟨rfl, rfl, rfl⟩
  · have t1 : (chkM L = 0) = False := eq_false c1
    refine ret_raw func92 rfl (by kernel_rfl) ?_
    have hsp := @Nat.succ_ne_zero; repeat' (first | simp (disch := first | exact dschE13 | fail) only [go_sem, ↓reduceIte, hsp, hc, t1] | refine WP_drw ?_ | refine cnd_intro (fun hsp => ?_) fun hsp => ?_)
    exact ⟨.app .refl, _, rfl, ⟨rfl, rfl, rfl⟩, fun e => e.elim⟩
/-- fault.Excluded. -/
def excM (L : Lom) (k : Int) : List Int × Int :=
  if chkM L ≠ 0 then ([], chkM L) else if ¬ (0 ≤ k ∧ k ≤ (L.ps.length : Int) - 1) then ([], 1) else (numsN ((deskA L).2.getD k.toNat []) L.T.toNat, 0)
end Go.AM
/-
  Plain: sets of spots, first errors. Maps in memory.
-/
namespace Go.AM
open Go.Proofs.Tryz
/-- The first of n numbers that is not 0. -/
def firstE (f : Nat → Int) : Nat → Int
  | 0 => 0
  | n + 1 => if firstE f n ≠ 0 then firstE f n else f n
abbrev Brk := Int × Int × Int
def brk0 : Brk := (0, 0, 0)
/-- The error of the i-th break of a truth. -/
def errAt (L : Lom) (t : List Brk) (i : Nat) : Int :=
  if brkM L (t.getD i brk0) ≠ 0 then brkM L (t.getD i brk0) else if 0 < i ∧ (t.getD i brk0).1 ≤ (t.getD (i - 1) brk0).1 then 4 else 0
def truM (L : Lom) (t : List Brk) : Int := firstE (errAt L t) t.length
/-- The spots of a break. -/
def prt0 : Prt := ⟨[], 1, 0, false⟩
def spo (L : Lom) (b : Brk) : List (Int × Int) := spotsN (L.ps.getD b.1.toNat prt0) b.2.1.toNat (b.2.2 + 1 - b.2.1).toNat
def insS (S : List (Int × Int)) (x : Int × Int) : List (Int × Int) := if x ∈ S then S else S ++ [x]
def insN (S l : List (Int × Int)) : List (Int × Int) := l.foldl insS S
/-- What the first n breaks spoil. -/
def spoS (L : Lom) (t : List Brk) : Nat → List (Int × Int)
  | 0 => []
  | n + 1 => insN (spoS L t n) (spo L (t.getD n brk0))
/-- Is a spot of a sight spoilt? -/
def badN (S : List (Int × Int)) (s : Sgt) : Nat → Bool
  | 0 => false
  | n + 1 => badN S s n || decide ((s.rib, s.lo + (n : Int)) ∈ S)
def badA (S : List (Int × Int)) (s : Sgt) : Bool := badN S s (s.hi + 1 - s.lo).toNat
def sgt0 : Sgt := ⟨0, 0, 0, false⟩
def lftN (S : List (Int × Int)) (ss : List Sgt) (n : Nat) : List Int := (upto n).filter fun i => badA S (ss.getD i.toNat sgt0) != (ss.getD i.toNat sgt0).bad
/-- fault.Left. -/
def lftM (L : Lom) (t : List Brk) : List Int × Int :=
  if chkM L ≠ 0 then ([], chkM L) else if truM L t ≠ 0 then ([], truM L t) else (lftN (spoS L t t.length) L.ss L.ss.length, 0)
/-! ### A map whose keys are a set -/
def mapT (S : List (Int × Int)) : List (AVal × AVal) := S.map fun x => (.agg [.int .i64 x.1, .int .i64 x.2], .bool true)
/-- An element of a slice of structs. -/
theorem Rows.get {α : Type} {E : Enc α} {P : Program} {h : Heap} {v : AVal} {l : List α} {t e : TypeId} {zs : List AVal} {i : Nat} {x : α} (hR : Rows E h v l) (he : elS P t = some (e, E.z, zs)) (ha : arT P t = .none) (ht : tyA P e = some (true, E.z)) (hx : l[i]? = some x) :
    indexAddrA P t v (.int .i64 (i : Int)) = some (elAdr v E.z i 0) ∧ loadP P h e (elAdr v E.z i 0) = some (.agg (E.cells x)) := by
  have hi := (List.getElem?_eq_some_iff.1 hx).1
  refine ⟨?_, hR.load ht hx⟩
  have := hR.addr he ha (i := (i : Int)) (by omega) (by omega)
  rwa [Int.toNat_natCast] at this
theorem getD_some {α : Type} {l : List α} {i : Nat} {d : α} (h : i < l.length) : l[i]? = some (l.getD i d) := by rw [List.getD_eq_getElem?_getD, List.getElem?_eq_getElem h]; rfl
end Go.AM
/-
  Contracts: what a truth does not explain (left, Left, Explains).
-/
namespace Go.AM
open Go.Proofs.Tryz
attribute [-go_sem] put_ne put_same
attribute [local go_sem ↓] put_if
/-- fault.Explains. -/
def xplM (L : Lom) (t : List Brk) : Bool := decide ((lftM L t).2 = 0 ∧ (lftM L t).1 = [])
theorem own_len {α : Type} {E : Enc α} {e t : TypeId} {b : Nat} {H : Heap} {v : AVal} {l : List α} {zs : List AVal} (x : Own E e b H v l) (ht : elS prog t = some (e, E.z, zs)) (hl : l.length < 2 ^ 60) : lenOpA prog H t v = some (.int .i64 (l.length : Int)) := (x.rows hl).len ht
end Go.AM
/-
  Plain: the breaks of a part that nothing excludes, in their order, and the bad sights that each explains.
-/
namespace Go.AM
open Go.Proofs.Tryz
/-- How far something goes on from a, n places at most. -/
def runF (p : Nat → Bool) : Nat → Nat → Nat
  | _, 0 => 0
  | a, n + 1 => if p a = true then runF p (a + 1) n + 1 else 0
theorem runF_le {p : Nat → Bool} : ∀ {n a : Nat}, runF p a n ≤ n
  | 0, _ => Nat.le_refl _
  | n + 1, a => by
    have := runF_le (p := p) (n := n) (a := a + 1)
    simp only [runF]; split <;> omega
theorem runF_lt {p : Nat → Bool} : ∀ {n a d : Nat}, d < runF p a n → p (a + d) = true
  | 0, _, d, h => by simp [runF] at h
  | n + 1, a, d, h => by
    simp only [runF] at h
    split at h
    · rename_i hp
      cases d with
      | zero => exact hp
      | succ d => have := runF_lt (p := p) (n := n) (a := a + 1) (d := d) (by omega); rwa [show a + 1 + d = a + (d + 1) by omega] at this
    · omega
theorem runF_end {p : Nat → Bool} : ∀ {n a : Nat}, runF p a n = n ∨ (runF p a n < n ∧ p (a + runF p a n) = false)
  | 0, _ => .inl rfl
  | n + 1, a => by
    simp only [runF]
    split
    · rcases runF_end (p := p) (n := n) (a := a + 1) with h | ⟨h1, h2⟩
      · exact .inl (by rw [h])
      · exact .inr ⟨by omega, by rwa [show a + (runF p (a + 1) n + 1) = a + 1 + runF p (a + 1) n by omega]⟩
    · rename_i hp
      exact .inr ⟨by omega, by simpa using hp⟩
/-- The breaks of part k that begin with a throw. -/
def brkF (k : Nat) (m : List Bool) (T from' : Nat) : List Brk := (List.range (runF (fun t => !m.getD t false) from' (T - from'))).map fun (d : Nat) => ((k : Int), (from' : Int), ((from' + d : Nat) : Int))
def brkN (k : Nat) (m : List Bool) (T : Nat) : Nat → List Brk
  | 0 => []
  | n + 1 => brkN k m T n ++ brkF k m T n
def brkL (k : Nat) (m : List Bool) (T : Nat) : List Brk := brkN k m T T
theorem brkN_pre {k T : Nat} {m : List Bool} {n : Nat} : ∀ j, ∃ s, brkN k m T (n + j) = brkN k m T n ++ s
  | 0 => ⟨[], by simp⟩
  | j + 1 => by
    obtain ⟨s, e⟩ := brkN_pre (k := k) (T := T) (m := m) (n := n) j
    exact ⟨s ++ brkF k m T (n + j), by rw [show n + (j + 1) = (n + j) + 1 by omega, brkN, e, List.append_assoc]⟩
theorem brkL_get {k T n d : Nat} {m : List Bool} (hn : n < T) (hd : d < runF (fun t => !m.getD t false) n (T - n)) : (brkL k m T)[(brkN k m T n).length + d]? = some ((k : Int), (n : Int), ((n + d : Nat) : Int)) := by
  obtain ⟨s, e⟩ := brkN_pre (k := k) (T := T) (m := m) (n := n + 1) (T - (n + 1))
  rw [show n + 1 + (T - (n + 1)) = T by omega] at e
  unfold brkL
  rw [e, brkN, List.append_assoc, List.getElem?_append_right (by omega), Nat.add_sub_cancel_left, List.getElem?_append_left (by simpa [brkF] using hd)]
  simp only [brkF, List.getElem?_map]
  rw [List.getElem?_range hd]
  rfl
theorem brkN_step {k T n : Nat} {m : List Bool} : (brkN k m T (n + 1)).length = (brkN k m T n).length + runF (fun t => !m.getD t false) n (T - n) := by simp [brkN, brkF]
/-- What is known of such a break. -/
theorem brkL_mem {k T : Nat} {m : List Bool} {b : Brk} : b ∈ brkL k m T ↔ ∃ n d : Nat, n < T ∧ d < runF (fun t => !m.getD t false) n (T - n) ∧ b = ((k : Int), (n : Int), ((n + d : Nat) : Int)) := by
  have g : ∀ N, b ∈ brkN k m T N ↔ ∃ n d : Nat, n < N ∧ d < runF (fun t => !m.getD t false) n (T - n) ∧ b = ((k : Int), (n : Int), ((n + d : Nat) : Int)) := by
    intro N
    induction N with
    | zero => simp [brkN]
    | succ N ih =>
      rw [brkN, List.mem_append, ih]
      constructor
      · rintro (⟨n, d, h1, h2⟩ | h)
        · exact ⟨n, d, by omega, h2⟩
        · simp only [brkF, List.mem_map, List.mem_range] at h
          obtain ⟨d, h1, rfl⟩ := h
          exact ⟨N, d, by omega, h1, rfl⟩
      · rintro ⟨n, d, h1, h2, rfl⟩
        by_cases e : n = N
        · subst e
          exact .inr (by simp only [brkF, List.mem_map, List.mem_range]; exact ⟨d, h2, rfl⟩)
        · exact .inl ⟨n, d, by omega, h2, rfl⟩
  exact g T
/-- Does a break spoil a spot of a sight? -/
def hit (L : Lom) (b : Brk) (i : Int) : Bool := (spo L b).any (hasB (L.ss.getD i.toNat sgt0))
/-- The bad sights that a break explains, by bits, the first n of them. -/
def bitN (L : Lom) (bad : List Int) (b : Brk) : Nat → Nat
  | 0 => 0
  | n + 1 => if hit L b (bad.getD n 0) = true then bitN L bad b n ||| 2 ^ n else bitN L bad b n
theorem bitN_lt {L : Lom} {bad : List Int} {b : Brk} : ∀ n, bitN L bad b n < 2 ^ n
  | 0 => by simp [bitN]
  | n + 1 => by
    have := bitN_lt (L := L) (bad := bad) (b := b) n
    have h2 : 2 ^ (n + 1) = 2 * 2 ^ n := by rw [Nat.pow_succ]; omega
    simp only [bitN]
    split
    · exact Nat.or_lt_two_pow (by omega) (by omega)
    · omega
def bits (L : Lom) (bad : List Int) (b : Brk) : Nat := bitN L bad b bad.length
/-- The breaks of a part, with what they explain. -/
def made (L : Lom) (bad : List Int) (ms : List (List Bool)) (k : Nat) : List (Brk × Nat) := (brkL k (ms.getD k []) L.T.toNat).map fun b => (b, bits L bad b)
def mdC (b : Brk) (x : Nat) : List AVal := [.int .i64 b.1, .int .i64 b.2.1, .int .i64 b.2.2, .int .i64 (x : Int)]
/-! ### Bits -/
theorem orN {t : TypeId} {a b : Nat} (ha : a < 2 ^ 62) (hb : b < 2 ^ 62) : binA prog .or t (.int .i64 (a : Int)) (.int .i64 (b : Int)) = some (.int .i64 ((a ||| b : Nat) : Int)) := by
  have hx : a ||| b < 2 ^ 62 := Nat.or_lt_two_pow ha hb
  have e : BitVec.ofInt 64 (a : Int) ||| BitVec.ofInt 64 (b : Int) = BitVec.ofNat 64 (a ||| b) := by
    apply BitVec.eq_of_toNat_eq
    simp only [BitVec.toNat_or, BitVec.toNat_ofInt, BitVec.toNat_ofNat]
    have h3 : (a : Int) % ((2 ^ 64 : Nat) : Int) = a := Int.emod_eq_of_lt (by omega) (by omega)
    have h4 : (b : Int) % ((2 ^ 64 : Nat) : Int) = b := Int.emod_eq_of_lt (by omega) (by omega)
    rw [h3, h4, Nat.mod_eq_of_lt (by omega)]
    rfl
  show some (AVal.int .i64 (IntKind.i64.wrap ((BitVec.ofInt 64 (a : Int) ||| BitVec.ofInt 64 (b : Int)).toNat : Int))) = _
  rw [e, BitVec.toNat_ofNat, Nat.mod_eq_of_lt (by omega), wrap64 (by omega) (by omega)]
theorem andN {t : TypeId} {a b : Nat} (ha : a < 2 ^ 62) (hb : b < 2 ^ 62) : binA prog .and t (.int .i64 (a : Int)) (.int .i64 (b : Int)) = some (.int .i64 ((a &&& b : Nat) : Int)) := by
  have hx : a &&& b < 2 ^ 62 := Nat.and_lt_two_pow _ hb
  have e : BitVec.ofInt 64 (a : Int) &&& BitVec.ofInt 64 (b : Int) = BitVec.ofNat 64 (a &&& b) := by
    apply BitVec.eq_of_toNat_eq
    simp only [BitVec.toNat_and, BitVec.toNat_ofInt, BitVec.toNat_ofNat]
    have h3 : (a : Int) % ((2 ^ 64 : Nat) : Int) = a := Int.emod_eq_of_lt (by omega) (by omega)
    have h4 : (b : Int) % ((2 ^ 64 : Nat) : Int) = b := Int.emod_eq_of_lt (by omega) (by omega)
    rw [h3, h4, Nat.mod_eq_of_lt (by omega)]
    rfl
  show some (AVal.int .i64 (IntKind.i64.wrap ((BitVec.ofInt 64 (a : Int) &&& BitVec.ofInt 64 (b : Int)).toNat : Int))) = _
  rw [e, BitVec.toNat_ofNat, Nat.mod_eq_of_lt (by omega), wrap64 (by omega) (by omega)]
theorem shlN {t : TypeId} {k : Nat} (hk : k ≤ 60) : binA prog .shl t (.int .i64 1) (.int .i64 (k : Int)) = some (.int .i64 ((2 ^ k : Nat) : Int)) := by
  rw [bin_shl (by omega)]
  have e : min (k : Int).toNat IntKind.i64.bits = k := by simp [IntKind.bits]; omega
  have h2 : 2 ^ k ≤ 2 ^ 60 := Nat.pow_le_pow_right (by decide) hk
  have e2 : (1 : Int) * 2 ^ k = ((2 ^ k : Nat) : Int) := by simp
  rw [e, e2]
  generalize 2 ^ k = x at h2
  rw [wrap64 (by omega) (by omega)]
/-- No throw is excluded. -/
def freeB (m : List Bool) : Bool := (List.range 12).all fun i => !m.getD i false
theorem eqFree {m : List Bool} (hm : m.length = 12) : binA prog .eql 143 (.agg (m.map .bool)) (.agg [.bool false, .bool false, .bool false, .bool false, .bool false, .bool false, .bool false, .bool false, .bool false, .bool false, .bool false, .bool false]) = some (.bool (freeB m)) := by
  have h1 : prog.eqGuardType prog.depth 143 = false := by kernel_rfl
  have h2 : prog.underlying 143 = some (.array 12 4) := by kernel_rfl
  have h3 : prog.underlying 4 = some .bool := by kernel_rfl
  have key : ∀ l : List Nat, (∀ i ∈ l, i < 12) → l.foldr (fun i acc => match partQ (false, 1) (m.map .bool) (i * 1), partQ (false, 1) (List.replicate 12 (.bool false)) (i * 1) with
      | some a, some b => match eqT prog 5 4 a b with | some true => acc | r => r
      | _, _ => none) (some true) = some (l.all fun i => !m.getD i false) := by
    intro l
    induction l with
    | nil => intro _; rfl
    | cons i l ih =>
      intro hl
      have hi : i < 12 := hl i (by simp)
      have e1 : partQ (false, 1) (m.map AVal.bool) (i * 1) = some (.bool (m.getD i false)) := by
        simp only [partQ, Bool.false_eq_true, if_false, Nat.mul_one, List.getElem?_map, List.getD_eq_getElem?_getD, List.getElem?_eq_getElem (show i < m.length by omega)]
        rfl
      have e2 : partQ (false, 1) (List.replicate 12 (AVal.bool false)) (i * 1) = some (.bool false) := by
        simp only [partQ, Bool.false_eq_true, if_false, Nat.mul_one, List.getElem?_replicate, hi, if_true]
      rw [List.foldr_cons, ih (fun j hj => hl j (List.mem_cons_of_mem _ hj)), e1, e2]
      rw [List.all_cons]
      cases hb : m.getD i false with
      | true =>
        have e3 : eqT prog 5 4 (.bool true) (.bool false) = some false := by simp [eqT, h3]
        simp only [e3]
        rfl
      | false =>
        have e3 : eqT prog 5 4 (.bool false) (.bool false) = some true := by simp [eqT, h3]
        simp only [e3]
        rfl
  simp only [binA, isShift, h1, Bool.false_eq_true, if_false, eqDepth]
  have := key (List.range 12) (fun i hi => List.mem_range.1 hi)
  have hq : ∀ (d : Nat) (xs ys : List AVal), eqT prog (d + 1) 143 (.agg xs) (.agg ys) = (List.range 12).foldr (fun i acc => match partQ (false, 1) xs (i * 1), partQ (false, 1) ys (i * 1) with
      | some a, some b => match eqT prog d 4 a b with | some true => acc | r => r
      | _, _ => none) (some true) := fun d xs ys => by
    simp only [eqT, h2, Fc.ty4]
    rfl
  rw [hq 5]
  rw [show ([.bool false, .bool false, .bool false, .bool false, .bool false, .bool false, .bool false, .bool false, .bool false, .bool false, .bool false, .bool false] : List AVal) = List.replicate 12 (.bool false) from rfl]
  rw [this]
  rfl
theorem freeB_all {m : List Bool} (h : freeB m = true) {i : Nat} (hi : i < 12) : m.getD i false = false := by
  have := List.all_eq_true.1 h i (List.mem_range.2 hi)
  simpa using this
end Go.AM
/-
  Contracts: the breaks of a part that nothing excludes, one behind the other.
-/
namespace Go.AM
open Go.Proofs.Tryz
theorem dschE17 {p : Prop} (h : p := by first | exact Nat.ne_of_beq_eq_false rfl | assumption | (apply asOne; (first | exact One.int | exact One.bool | assumption | exact Ints.one (by assumption) | exact Rows.one (by assumption) | exact Own.one (by assumption) | exact One.lit ⟨rfl, rfl, rfl⟩)) | (apply asInts; (repeat first | assumption | exact ints_nil | apply Ints.app); done) | (apply asRows; (repeat first | assumption | exact Rows.nil | apply Rows.app); done) | (apply asScal; (first | apply allS1 | apply allS2 | apply allS3 | apply allS4) <;> (first | exact One.int | exact One.bool | assumption | exact Ints.one (by assumption) | exact Rows.one (by assumption) | exact Own.one (by assumption) | exact One.lit ⟨rfl, rfl, rfl⟩)) | exact litT rfl | exact litF rfl | omega | (simp only [List.length_append, List.length_cons, List.length_nil, List.length_set, List.length_reverse]; first | done | omega) | fail) : p := h
attribute [-go_sem] put_ne put_same
attribute [local go_sem ↓] put_if
def ptrB (v : AVal) : ABlk := ⟨.cells [v] 131 false false, 0⟩
def boolB (b : Bool) : ABlk := ⟨.cells [.bool b] 4 false false, 0⟩
def intB (n : Int) : ABlk := ⟨.cells [.int .i64 n] 3 false false, 0⟩
def mdB (b : Brk) (x : Nat) : ABlk := ⟨.cells (mdC b x) 138 false false, 0⟩
theorem nckP {a b c : Nat} : nilCheckA (.ptr (some ⟨a, b, c⟩)) = some (.ptr (some ⟨a, b, c⟩)) := rfl
attribute [go_sem] nckP
theorem mark_load {H : Heap} {mid k : Nat} {ms : List (List Bool)} {n : Nat} (hg : H[mid]? = some (rowE encM 143 ms 0)) (hk : k < ms.length) (hl : ms.length = n) (hm : ∀ m ∈ ms, m.length = 12) (hn : n ≤ 1000) :
    indexAddrA prog 161 (.slice (some ⟨mid, 0, 0⟩) n n) (.int .i64 (k : Int)) = some (.ptr (some ⟨mid, 0, k * 12⟩)) ∧
    ldB (some (true, 12)) H[mid]? 0 (k * 12) = some (.agg ((ms.getD k []).map .bool)) ∧
    ∀ i : Nat, i < 12 → indexAddrA prog 143 (.ptr (some ⟨mid, 0, k * 12⟩)) (.int .i64 (i : Int)) = some (.ptr (some ⟨mid, 0, k * 12 + i⟩)) ∧
    ldB (some (false, 1)) H[mid]? 0 (k * 12 + i) = some (.bool ((ms.getD k []).getD i false)) := by
  have hR : Rows encM H (.slice (some ⟨mid, 0, 0⟩) n n) ms := Rows.own hg hl.symm (by omega)
  have hx := getD_some (d := ([] : List Bool)) hk
  have hml := hm _ (List.mem_of_getElem? hx)
  obtain ⟨h1, h2⟩ := hR.get (P := prog) Fc.el161 Fc.ar161 Fc.ty143 hx
  have hz : encM.z = 12 := rfl
  simp only [elAdr, ARef.add, Nat.zero_add, Nat.add_zero, hz] at h1 h2
  rw [encM_cells hml, load_eq, Fc.ty143] at h2
  refine ⟨h1, h2, fun i hi => ⟨?_, ?_⟩⟩
  · rw [adr_arr Fc.ar143 (by omega) (by omega), Int.toNat_natCast, Nat.mul_one]
  · have h3 := hR.cell (P := prog) (t := 4) (o := i) Fc.ty4 hx (a := .bool ((ms.getD k []).getD i false)) (by rw [encM_cells hml, List.getElem?_map, getD_some (d := false) (show i < (ms.getD k []).length by omega)]; rfl)
    simp only [elAdr, ARef.add, Nat.zero_add, hz] at h3
    rw [load_eq, Fc.ty4] at h3
    exact h3
set_option maxHeartbeats 1000000 in
theorem run_breaks {base : Nat} {h : Heap} {v : AVal} {L : Lom} {bad : List Int} {ms : List (List Bool)} {k : Nat} (hb : base ≤ h.length) (hD : DeskAt h v L bad ms) (hpl : L.ps.length ≤ 6) (hk : k < L.ps.length) :
    callL prog raw base (.fn 78 [] []) [v, .int .i64 (k : Int)] h = some (.fn 137 [] [.ptr (some ⟨h.length, 0, 0⟩), .ptr (some ⟨h.length + 2, 0, 0⟩), .ptr (some ⟨h.length + 1, 0, 0⟩)], h ++ [ptrB v] ++ [intB k] ++ [boolB (freeB (ms.getD k []))]) := by
  obtain ⟨id, mid, pv, sv, bv, rfl, g1, g2, g3, g4, g5, g6, g7⟩ := hD
  rw [deskB] at g1
  have hi := lt_of_get g1
  have hm := lt_of_get g5
  obtain ⟨q1, q2, q3⟩ := mark_load (k := k) g5 (by omega) g6 g7 (show L.ps.length ≤ 1000 by omega)
  have hx := getD_some (d := ([] : List Bool)) (show k < ms.length by omega)
  have hml := g7 _ (List.mem_of_getElem? hx)
  have hef := eqFree hml
  have hbu : buildA prog 143 [] = some (.agg [.bool false, .bool false, .bool false, .bool false, .bool false, .bool false, .bool false, .bool false, .bool false, .bool false, .bool false, .bool false]) := by kernel_rfl
  refine callL_raw func78 rfl (by kernel_rfl) ?_
  have hsp := @Nat.succ_ne_zero; repeat' (first | simp (disch := first | exact dschE17 | fail) only [go_sem, ↓reduceIte, hsp, g1, q1, q2, hbu, hef] | refine WP_drw ?_ | refine cnd_intro (fun hsp => ?_) fun hsp => ?_)
  rfl
def BoxAt (H : Heap) (dp fp pp : Nat) (v : AVal) (k : Nat) (b : Bool) : Prop := H[dp]? = some (ptrB v) ∧ H[fp]? = some (boolB b) ∧ H[pp]? = some (intB k)
theorem BoxAt.ext {h H : Heap} {dp fp pp k : Nat} {v : AVal} {b : Bool} (x : BoxAt h dp fp pp v k b) (e : Ext h H) : BoxAt H dp fp pp v k b := ⟨e.get x.1, e.get x.2.1, e.get x.2.2⟩
theorem spo_len {L : Lom} {b : Brk} (hrl : ∀ p ∈ L.ps, p.rib.length ≤ 1000) : (spo L b).length ≤ 1000 * (b.2.2 + 1 - b.2.1).toNat := by
  have q := spotsR_len (p := L.ps.getD b.1.toNat prt0) (a := b.2.1.toNat) (n := (b.2.2 + 1 - b.2.1).toNat) _ (Nat.le_refl _)
  have e : spotsR (L.ps.getD b.1.toNat prt0) b.2.1.toNat (b.2.2 + 1 - b.2.1).toNat (L.ps.getD b.1.toNat prt0).rib.length = spo L b := by unfold spotsR spo spotsN; rw [List.take_length]
  rw [e] at q
  refine Nat.le_trans q (Nat.mul_le_mul_right _ ?_)
  by_cases h : b.1.toNat < L.ps.length
  · exact hrl _ (List.mem_of_getElem? (getD_some h))
  · rw [List.getD_eq_getElem?_getD, List.getElem?_eq_none (by omega)]
    simp [prt0]
set_option maxHeartbeats 4000000 in
theorem yields_breaks {base L' dp fp pp k : Nat} {v : AVal} {L : Lom} {bad : List Int} {ms : List (List Bool)} {I : Nat → Heap → Prop} (hc : chkM L = 0) (hk : k < L.ps.length) (hbl : bad.length ≤ 10) (hbi : ∀ i ∈ bad, 0 ≤ i ∧ i < (L.ss.length : Int)) (hrl : ∀ p ∈ L.ps, p.rib.length ≤ 1000)
    (hI : ∀ j H, I j H → base ≤ H.length ∧ BoxAt H dp fp pp v k (freeB (ms.getD k [])) ∧ DeskAt H v L bad ms) :
    Yields prog raw base L' (.fn 137 [] [.ptr (some ⟨dp, 0, 0⟩), .ptr (some ⟨fp, 0, 0⟩), .ptr (some ⟨pp, 0, 0⟩)]) (made L bad ms k).length (fun j => [.agg (mdC ((made L bad ms k).getD j (brk0, 0)).1 ((made L bad ms k).getD j (brk0, 0)).2)]) I := by
  intro J S H0 hLn hJ happ hy h0
  obtain ⟨k1, k2, k3, k4, k5, k6⟩ := chkM_ok hc
  obtain ⟨T, eT⟩ := Int.eq_ofNat_of_zero_le (show 0 ≤ L.T by omega)
  have eT2 : L.T.toNat = T := by omega
  obtain ⟨m, em⟩ : ∃ m, m = ms.getD k [] := ⟨_, rfl⟩
  have hle : (made L bad ms k).length = (brkL k m T).length := by rw [made, List.length_map, em, eT2]
  obtain ⟨hb0, ⟨b1, b2, b3⟩, id, mid, pv, sv, bv, rfl, g1, g2, g3, g4, g5, g6, g7⟩ := hI 0 H0 (hJ 0 H0 h0).1
  rw [deskB, eT] at g1
  rw [ptrB] at b1
  refine ret_raw (Φ := fun _ H' => J (made L bad ms k).length H' ∨ S H') func137 rfl (by kernel_rfl) ?_
  have hsp := @Nat.succ_ne_zero; repeat' (first | simp (disch := first | exact dschE17 | fail) only [go_sem, ↓reduceIte, hsp, b1, g1] | refine WP_drw ?_ | refine cnd_intro (fun hsp => ?_) fun hsp => ?_)
  clear b1 b2 b3 g1 g2 g3 g4 g5 g6 g7
  refine WP_count [(5, 9), (15, 86)] 0 T (Nat.zero_le _) (fun _ n fr h' => fr 15 = .int .i64 (n : Int) ∧ J (brkN k m T n).length h') ?_ ?_ ?_
  · exact ⟨by (simp (disch := first | exact dschE17 | fail) only [go_sem, ↓reduceIte, Int.natCast_zero]; first | done | rfl), h0⟩
  · rintro n fr H hn0 hn hA ⟨r15, hJ1⟩
    have p0 := hA 0 rfl
    have p1 := hA 1 rfl
    have p2 := hA 2 rfl
    have p3 := hA 3 rfl
    have p14 := hA 14 rfl
    try simp (disch := first | exact dschE17 | fail) only [go_sem, ↓reduceIte] at p0 p1 p2 p3 p14
    have hnT : n < T := hn
    have hlt : ((n : Int) < (T : Int)) = True := eq_true (by omega)
    have hsp := @Nat.succ_ne_zero; repeat' (first | simp (disch := first | exact dschE17 | fail) only [go_sem, ↓reduceIte, hsp, r15, p0, p1, p2, p3, p14, hlt] | refine WP_drw ?_ | refine cnd_intro (fun hsp => ?_) fun hsp => ?_)
    refine WP_count [(6, 9), (19, 85)] 0 (runF (fun t => !m.getD t false) n (T - n)) (Nat.zero_le _) (fun _ d fr h' => fr 6 = .int .i64 ((n + d : Nat) : Int) ∧ J ((brkN k m T n).length + d) h') ?_ ?_ ?_
    · exact ⟨by (simp (disch := first | exact dschE17 | fail) only [go_sem, ↓reduceIte, Int.natCast_zero]; first | done | rfl), hJ1⟩
    · rintro d fr2 H2 hd0 hd hA2 ⟨r6, hJ2⟩
      have u0 := hA2 0 rfl
      have u1 := hA2 1 rfl
      have u2 := hA2 2 rfl
      have u3 := hA2 3 rfl
      have u5 := hA2 5 rfl
      have u14 := hA2 14 rfl
      have u15 := hA2 15 rfl
      try simp (disch := first | exact dschE17 | fail) only [go_sem, ↓reduceIte, p0, p1, p2, p3, p14] at u0 u1 u2 u3 u5 u14 u15
      have u15 := hA2 15 rfl; simp (disch := first | exact dschE17 | fail) only [go_sem, ↓reduceIte, r15] at u15
      have hrl2 := runF_le (p := fun t => !m.getD t false) (n := T - n) (a := n)
      have hp := runF_lt hd
      obtain ⟨hb0, ⟨b1, b2, b3⟩, id', mid, pv, sv, bv, ev, g1, g2, g3, g4, g5, g6, g7⟩ := hI _ H2 (hJ _ H2 hJ2).1
      cases ev
      rw [deskB, eT] at g1
      rw [ptrB] at b1
      rw [boolB, ← em] at b2
      rw [intB] at b3
      have hlt2 : (((n + d : Nat) : Int) < (T : Int)) = True := eq_true (by omega)
      have lb1 := lt_of_get b1
      have lb3 := lt_of_get b3
      have lg1 := lt_of_get g1
      obtain ⟨q1, q2, q3⟩ := mark_load (k := k) g5 (by omega) g6 g7 (show L.ps.length ≤ 1000 by omega)
      obtain ⟨q4, q5⟩ := q3 (n + d) (by omega)
      have hmk : (ms.getD k []).getD (n + d) false = false := by rw [← em]; simpa using hp
      rw [hmk] at q5
      have hlB : ∀ {A : Heap}, lenOpA prog (H2 ++ A) 36 bv = some (.int .i64 (bad.length : Int)) := fun {A} => lenI g4.app
      cases hf : freeB m with
      | true =>
        rw [hf] at b2
        have hsp := @Nat.succ_ne_zero; repeat' (first | simp (disch := first | exact dschE17 | fail) only [go_sem, ↓reduceIte, hsp, r6, u0, u1, u2, u3, u5, u14, u15, hlt2, b1, b2, b3, g1, hlB] | refine WP_drw ?_ | refine cnd_intro (fun hsp => ?_) fun hsp => ?_)
        refine WP_count [(8, 9), (53, 81)] 0 bad.length (Nat.zero_le _) (fun _ x fr h' => fr 53 = .int .i64 (x : Int) ∧ Ext (H2 ++ [mdB ((k : Int), (n : Int), ((n + d : Nat) : Int)) (bitN L bad ((k : Int), (n : Int), ((n + d : Nat) : Int)) x)]) h') ?_ ?_ ?_
        · exact ⟨by (simp (disch := first | exact dschE17 | fail) only [go_sem, ↓reduceIte, Int.natCast_zero]; first | done | rfl), .refl⟩
        · rintro x fr3 H3 hx0 hx hA3 ⟨r53, xH3⟩
          have w0 := hA3 0 rfl
          have w1 := hA3 1 rfl
          have w2 := hA3 2 rfl
          have w3 := hA3 3 rfl
          have w5 := hA3 5 rfl
          have w6 := hA3 6 rfl
          have w7 := hA3 7 rfl
          have w14 := hA3 14 rfl
          have w15 := hA3 15 rfl
          have w51 := hA3 51 rfl
          have w52 := hA3 52 rfl
          try simp (disch := first | exact dschE17 | fail) only [go_sem, ↓reduceIte, u0, u1, u2, u3, u5, u14, u15] at w0 w1 w2 w3 w5 w6 w7 w14 w15 w51 w52
          have hlt3 : ((x : Int) < (bad.length : Int)) = True := eq_true (by omega)
          have xh3 : Ext H2 H3 := (Ext.app .refl).trans xH3
          obtain ⟨i, ei⟩ : ∃ i, i = bad.getD x 0 := ⟨_, rfl⟩
          have hib := hbi i (by rw [ei]; exact getD_mem hx)
          have hIB : Ints H3 bv bad := g4.ext xh3
          have hl0 := loadI hIB hx
          have ha0 := adrI (i := (x : Int)) (by omega) hIB (by omega)
          rw [← ei] at hl0
          rw [Int.toNat_natCast] at ha0
          obtain ⟨s, es⟩ : ∃ s, s = L.ss.getD i.toNat sgt0 := ⟨_, rfl⟩
          have hsg := getD_some (d := sgt0) (show i.toNat < L.ss.length by omega)
          rw [← es] at hsg
          have c1 := xh3.get b1
          have c3 := xh3.get b3
          have cg := xh3.get g1
          have hb3 := xH3.len
          simp only [List.length_append, List.length_cons, List.length_nil] at hb3
          have ct : H3[H2.length]? = some (mdB ((k : Int), (n : Int), ((n + d : Nat) : Int)) (bitN L bad ((k : Int), (n : Int), ((n + d : Nat) : Int)) x)) := xH3.get (by simp)
          have hpk := k5 _ (List.mem_of_getElem? (getD_some (d := prt0) hk))
          obtain ⟨zv, H4, e1, x1, o1⟩ := run_spots (base := base) (h := H3) (L := L) (pv := pv) (sv := sv) (b := ((k : Int), (n : Int), ((n + d : Nat) : Int))) (k := k) (by omega) (g2.ext xh3) g3.one (getD_some (d := prt0) hk) rfl (by show (0 : Int) ≤ (n : Int); omega) (by show -1000 ≤ ((n + d : Nat) : Int) ∧ ((n + d : Nat) : Int) ≤ 1000; omega) (by show (n : Int) ≤ 1000; omega) (by omega) (hrl _ (List.mem_of_getElem? (getD_some (d := prt0) hk)))
          have hsp : spotsN (L.ps.getD k prt0) (n : Int).toNat (((n + d : Nat) : Int) + 1 - (n : Int)).toNat = spo L ((k : Int), (n : Int), ((n + d : Nat) : Int)) := rfl
          simp only [encB, eT] at e1
          dsimp only at o1
          rw [hsp] at o1
          have hspl := spo_len (L := L) (b := ((k : Int), (n : Int), ((n + d : Nat) : Int))) hrl
          have hspl2 : 1000 * (((n + d : Nat) : Int) + 1 - (n : Int)).toNat ≤ 1000 * 2001 := Nat.mul_le_mul_left _ (by omega)
          have oR := o1.rows (by dsimp only at hspl; omega)
          obtain ⟨ha1, hl1⟩ := (g3.ext (xh3.trans x1)).get (P := prog) Fc.el23 Fc.ar23 Fc.ty56 hsg
          rw [Int.toNat_of_nonneg (by omega)] at ha1
          have hany : ∀ {base : Nat}, callL prog raw base (.fn 138 [] []) [zv, .fn 139 [.agg (encS.cells s)] []] H4 = some (.bool (hit L ((k : Int), (n : Int), ((n + d : Nat) : Int)) i), H4) := fun {base} => by
            unfold hit
            rw [← es]
            exact anyF_T (hasB s) oR (fun base y hy => run_has)
          simp only [encS] at ha1 hl1 hany
          simp only [mdB, mdC] at ct
          have ct4 := x1.get ct
          have lt4 := lt_of_get ct4
          have c14 := x1.get c1
          have cg4 := x1.get cg
          have hbx := bitN_lt (L := L) (bad := bad) (b := ((k : Int), (n : Int), ((n + d : Nat) : Int))) x
          have hpx : 2 ^ x ≤ 2 ^ 10 := Nat.pow_le_pow_right (by decide) (by omega)
          have hsh := shlN (t := 3) (k := x) (by omega)
          have hor := orN (t := 3) (a := bitN L bad ((k : Int), (n : Int), ((n + d : Nat) : Int)) x) (b := 2 ^ x) (by omega) (by omega)
          cases hh : hit L ((k : Int), (n : Int), ((n + d : Nat) : Int)) i with
          | true =>
            rw [hh] at hany
            have hsp := @Nat.succ_ne_zero; repeat' (first | simp (disch := first | exact dschE17 | fail) only [go_sem, ↓reduceIte, hsp, r53, w0, w1, w2, w3, w5, w6, w7, w14, w15, w51, w52, hlt3, ha0, hl0, c1, cg, ct, e1, c14, cg4, ct4, ha1, hl1, hany, hsh, hor] | refine WP_drw ?_ | refine cnd_intro (fun hsp => ?_) fun hsp => ?_)
            refine ⟨by (repeat first | exact Agree.refl | assumption | refine Agree.put rfl ?_ | refine Agree.put0 ?_ | refine Agree.sub rfl (by assumption) ?_), by omega, ?_⟩
            rw [bitN, ← ei, hh, if_pos rfl]
            have e := (xH3.trans x1).set2 (i := H2.length) (k := mdB ((k : Int), (n : Int), ((n + d : Nat) : Int)) (bitN L bad ((k : Int), (n : Int), ((n + d : Nat) : Int)) x ||| 2 ^ x)) (by simp)
            rw [set_eq rfl] at e
            exact e
          | false =>
            rw [hh] at hany
            have hsp := @Nat.succ_ne_zero; repeat' (first | simp (disch := first | exact dschE17 | fail) only [go_sem, ↓reduceIte, hsp, r53, w0, w1, w2, w3, w5, w6, w7, w14, w15, w51, w52, hlt3, ha0, hl0, c1, cg, ct, e1, c14, cg4, ha1, hl1, hany] | refine WP_drw ?_ | refine cnd_intro (fun hsp => ?_) fun hsp => ?_)
            refine ⟨by (repeat first | exact Agree.refl | assumption | refine Agree.put rfl ?_ | refine Agree.put0 ?_ | refine Agree.sub rfl (by assumption) ?_), by omega, ?_⟩
            rw [bitN, ← ei, hh, if_neg (by simp)]
            exact xH3.trans x1
        · rintro fr3 H3 hA3 ⟨r53, xH3⟩
          have w0 := hA3 0 rfl
          have w1 := hA3 1 rfl
          have w2 := hA3 2 rfl
          have w3 := hA3 3 rfl
          have w5 := hA3 5 rfl
          have w6 := hA3 6 rfl
          have w7 := hA3 7 rfl
          have w14 := hA3 14 rfl
          have w15 := hA3 15 rfl
          have w51 := hA3 51 rfl
          have w52 := hA3 52 rfl
          try simp (disch := first | exact dschE17 | fail) only [go_sem, ↓reduceIte, u0, u1, u2, u3, u5, u14, u15] at w0 w1 w2 w3 w5 w6 w7 w14 w15 w51 w52
          have hlt3 : ((bad.length : Int) < (bad.length : Int)) = False := eq_false (by omega)
          have xh3 : Ext H2 H3 := (Ext.app .refl).trans xH3
          have ct : H3[H2.length]? = some (mdB ((k : Int), (n : Int), ((n + d : Nat) : Int)) (bits L bad ((k : Int), (n : Int), ((n + d : Nat) : Int)))) := xH3.get (by simp [bits])
          simp only [mdB, mdC] at ct
          have hJ3 : J ((brkN k m T n).length + d) H3 := by obtain ⟨t, rfl⟩ := xh3; exact happ _ _ _ hJ2
          have hbg := brkL_get (k := k) hnT hd
          have hgm : (made L bad ms k).getD ((brkN k m T n).length + d) (brk0, 0) = (((k : Int), (n : Int), ((n + d : Nat) : Int)), bits L bad ((k : Int), (n : Int), ((n + d : Nat) : Int))) := by
            rw [made, ← em, eT2, List.getD_eq_getElem?_getD, List.getElem?_map, hbg]; rfl
          obtain ⟨yb, H5, ey, _, yt, yf⟩ := hy _ H3 (by rw [hle]; exact (List.getElem?_eq_some_iff.1 hbg).1) hJ3
          simp only [hgm, mdC] at ey
          have w6 := hA3 6 rfl; simp (disch := first | exact dschE17 | fail) only [go_sem, ↓reduceIte, r6] at w6
          cases yb with
          | true =>
            have hsp := @Nat.succ_ne_zero; repeat' (first | simp (disch := first | exact dschE17 | fail) only [go_sem, ↓reduceIte, hsp, r53, w0, w1, w2, w3, w5, w6, w7, w14, w15, w51, w52, w6, hlt3, ct, ey] | refine WP_drw ?_ | refine cnd_intro (fun hsp => ?_) fun hsp => ?_)
            exact ⟨by (repeat first | exact Agree.refl | assumption | refine Agree.put rfl ?_ | refine Agree.put0 ?_ | refine Agree.sub rfl (by assumption) ?_), by omega, yt rfl⟩
          | false =>
            have hsp := @Nat.succ_ne_zero; repeat' (first | simp (disch := first | exact dschE17 | fail) only [go_sem, ↓reduceIte, hsp, r53, w0, w1, w2, w3, w5, w6, w7, w14, w15, w51, w52, w6, hlt3, ct, ey] | refine WP_drw ?_ | refine cnd_intro (fun hsp => ?_) fun hsp => ?_)
            exact .inr (yf rfl)
      | false =>
        rw [hf] at b2
        have hsp := @Nat.succ_ne_zero; repeat' (first | simp (disch := first | exact dschE17 | fail) only [go_sem, ↓reduceIte, hsp, r6, u0, u1, u2, u3, u5, u14, u15, hlt2, b1, b2, b3, g1, q1, q4, q5, hlB] | refine WP_drw ?_ | refine cnd_intro (fun hsp => ?_) fun hsp => ?_)
        refine WP_count [(8, 9), (53, 81)] 0 bad.length (Nat.zero_le _) (fun _ x fr h' => fr 53 = .int .i64 (x : Int) ∧ Ext (H2 ++ [mdB ((k : Int), (n : Int), ((n + d : Nat) : Int)) (bitN L bad ((k : Int), (n : Int), ((n + d : Nat) : Int)) x)]) h') ?_ ?_ ?_
        · exact ⟨by (simp (disch := first | exact dschE17 | fail) only [go_sem, ↓reduceIte, Int.natCast_zero]; first | done | rfl), .refl⟩
        · rintro x fr3 H3 hx0 hx hA3 ⟨r53, xH3⟩
          have w0 := hA3 0 rfl
          have w1 := hA3 1 rfl
          have w2 := hA3 2 rfl
          have w3 := hA3 3 rfl
          have w5 := hA3 5 rfl
          have w6 := hA3 6 rfl
          have w7 := hA3 7 rfl
          have w14 := hA3 14 rfl
          have w15 := hA3 15 rfl
          have w51 := hA3 51 rfl
          have w52 := hA3 52 rfl
          try simp (disch := first | exact dschE17 | fail) only [go_sem, ↓reduceIte, u0, u1, u2, u3, u5, u14, u15] at w0 w1 w2 w3 w5 w6 w7 w14 w15 w51 w52
          have hlt3 : ((x : Int) < (bad.length : Int)) = True := eq_true (by omega)
          have xh3 : Ext H2 H3 := (Ext.app .refl).trans xH3
          obtain ⟨i, ei⟩ : ∃ i, i = bad.getD x 0 := ⟨_, rfl⟩
          have hib := hbi i (by rw [ei]; exact getD_mem hx)
          have hIB : Ints H3 bv bad := g4.ext xh3
          have hl0 := loadI hIB hx
          have ha0 := adrI (i := (x : Int)) (by omega) hIB (by omega)
          rw [← ei] at hl0
          rw [Int.toNat_natCast] at ha0
          obtain ⟨s, es⟩ : ∃ s, s = L.ss.getD i.toNat sgt0 := ⟨_, rfl⟩
          have hsg := getD_some (d := sgt0) (show i.toNat < L.ss.length by omega)
          rw [← es] at hsg
          have c1 := xh3.get b1
          have c3 := xh3.get b3
          have cg := xh3.get g1
          have hb3 := xH3.len
          simp only [List.length_append, List.length_cons, List.length_nil] at hb3
          have ct : H3[H2.length]? = some (mdB ((k : Int), (n : Int), ((n + d : Nat) : Int)) (bitN L bad ((k : Int), (n : Int), ((n + d : Nat) : Int)) x)) := xH3.get (by simp)
          have hpk := k5 _ (List.mem_of_getElem? (getD_some (d := prt0) hk))
          obtain ⟨zv, H4, e1, x1, o1⟩ := run_spots (base := base) (h := H3) (L := L) (pv := pv) (sv := sv) (b := ((k : Int), (n : Int), ((n + d : Nat) : Int))) (k := k) (by omega) (g2.ext xh3) g3.one (getD_some (d := prt0) hk) rfl (by show (0 : Int) ≤ (n : Int); omega) (by show -1000 ≤ ((n + d : Nat) : Int) ∧ ((n + d : Nat) : Int) ≤ 1000; omega) (by show (n : Int) ≤ 1000; omega) (by omega) (hrl _ (List.mem_of_getElem? (getD_some (d := prt0) hk)))
          have hsp : spotsN (L.ps.getD k prt0) (n : Int).toNat (((n + d : Nat) : Int) + 1 - (n : Int)).toNat = spo L ((k : Int), (n : Int), ((n + d : Nat) : Int)) := rfl
          simp only [encB, eT] at e1
          dsimp only at o1
          rw [hsp] at o1
          have hspl := spo_len (L := L) (b := ((k : Int), (n : Int), ((n + d : Nat) : Int))) hrl
          have hspl2 : 1000 * (((n + d : Nat) : Int) + 1 - (n : Int)).toNat ≤ 1000 * 2001 := Nat.mul_le_mul_left _ (by omega)
          have oR := o1.rows (by dsimp only at hspl; omega)
          obtain ⟨ha1, hl1⟩ := (g3.ext (xh3.trans x1)).get (P := prog) Fc.el23 Fc.ar23 Fc.ty56 hsg
          rw [Int.toNat_of_nonneg (by omega)] at ha1
          have hany : ∀ {base : Nat}, callL prog raw base (.fn 138 [] []) [zv, .fn 139 [.agg (encS.cells s)] []] H4 = some (.bool (hit L ((k : Int), (n : Int), ((n + d : Nat) : Int)) i), H4) := fun {base} => by
            unfold hit
            rw [← es]
            exact anyF_T (hasB s) oR (fun base y hy => run_has)
          simp only [encS] at ha1 hl1 hany
          simp only [mdB, mdC] at ct
          have ct4 := x1.get ct
          have lt4 := lt_of_get ct4
          have c14 := x1.get c1
          have cg4 := x1.get cg
          have hbx := bitN_lt (L := L) (bad := bad) (b := ((k : Int), (n : Int), ((n + d : Nat) : Int))) x
          have hpx : 2 ^ x ≤ 2 ^ 10 := Nat.pow_le_pow_right (by decide) (by omega)
          have hsh := shlN (t := 3) (k := x) (by omega)
          have hor := orN (t := 3) (a := bitN L bad ((k : Int), (n : Int), ((n + d : Nat) : Int)) x) (b := 2 ^ x) (by omega) (by omega)
          cases hh : hit L ((k : Int), (n : Int), ((n + d : Nat) : Int)) i with
          | true =>
            rw [hh] at hany
            have hsp := @Nat.succ_ne_zero; repeat' (first | simp (disch := first | exact dschE17 | fail) only [go_sem, ↓reduceIte, hsp, r53, w0, w1, w2, w3, w5, w6, w7, w14, w15, w51, w52, hlt3, ha0, hl0, c1, cg, ct, e1, c14, cg4, ct4, ha1, hl1, hany, hsh, hor] | refine WP_drw ?_ | refine cnd_intro (fun hsp => ?_) fun hsp => ?_)
            refine ⟨by (repeat first | exact Agree.refl | assumption | refine Agree.put rfl ?_ | refine Agree.put0 ?_ | refine Agree.sub rfl (by assumption) ?_), by omega, ?_⟩
            rw [bitN, ← ei, hh, if_pos rfl]
            have e := (xH3.trans x1).set2 (i := H2.length) (k := mdB ((k : Int), (n : Int), ((n + d : Nat) : Int)) (bitN L bad ((k : Int), (n : Int), ((n + d : Nat) : Int)) x ||| 2 ^ x)) (by simp)
            rw [set_eq rfl] at e
            exact e
          | false =>
            rw [hh] at hany
            have hsp := @Nat.succ_ne_zero; repeat' (first | simp (disch := first | exact dschE17 | fail) only [go_sem, ↓reduceIte, hsp, r53, w0, w1, w2, w3, w5, w6, w7, w14, w15, w51, w52, hlt3, ha0, hl0, c1, cg, ct, e1, c14, cg4, ha1, hl1, hany] | refine WP_drw ?_ | refine cnd_intro (fun hsp => ?_) fun hsp => ?_)
            refine ⟨by (repeat first | exact Agree.refl | assumption | refine Agree.put rfl ?_ | refine Agree.put0 ?_ | refine Agree.sub rfl (by assumption) ?_), by omega, ?_⟩
            rw [bitN, ← ei, hh, if_neg (by simp)]
            exact xH3.trans x1
        · rintro fr3 H3 hA3 ⟨r53, xH3⟩
          have w0 := hA3 0 rfl
          have w1 := hA3 1 rfl
          have w2 := hA3 2 rfl
          have w3 := hA3 3 rfl
          have w5 := hA3 5 rfl
          have w6 := hA3 6 rfl
          have w7 := hA3 7 rfl
          have w14 := hA3 14 rfl
          have w15 := hA3 15 rfl
          have w51 := hA3 51 rfl
          have w52 := hA3 52 rfl
          try simp (disch := first | exact dschE17 | fail) only [go_sem, ↓reduceIte, u0, u1, u2, u3, u5, u14, u15] at w0 w1 w2 w3 w5 w6 w7 w14 w15 w51 w52
          have hlt3 : ((bad.length : Int) < (bad.length : Int)) = False := eq_false (by omega)
          have xh3 : Ext H2 H3 := (Ext.app .refl).trans xH3
          have ct : H3[H2.length]? = some (mdB ((k : Int), (n : Int), ((n + d : Nat) : Int)) (bits L bad ((k : Int), (n : Int), ((n + d : Nat) : Int)))) := xH3.get (by simp [bits])
          simp only [mdB, mdC] at ct
          have hJ3 : J ((brkN k m T n).length + d) H3 := by obtain ⟨t, rfl⟩ := xh3; exact happ _ _ _ hJ2
          have hbg := brkL_get (k := k) hnT hd
          have hgm : (made L bad ms k).getD ((brkN k m T n).length + d) (brk0, 0) = (((k : Int), (n : Int), ((n + d : Nat) : Int)), bits L bad ((k : Int), (n : Int), ((n + d : Nat) : Int))) := by
            rw [made, ← em, eT2, List.getD_eq_getElem?_getD, List.getElem?_map, hbg]; rfl
          obtain ⟨yb, H5, ey, _, yt, yf⟩ := hy _ H3 (by rw [hle]; exact (List.getElem?_eq_some_iff.1 hbg).1) hJ3
          simp only [hgm, mdC] at ey
          have w6 := hA3 6 rfl; simp (disch := first | exact dschE17 | fail) only [go_sem, ↓reduceIte, r6] at w6
          cases yb with
          | true =>
            have hsp := @Nat.succ_ne_zero; repeat' (first | simp (disch := first | exact dschE17 | fail) only [go_sem, ↓reduceIte, hsp, r53, w0, w1, w2, w3, w5, w6, w7, w14, w15, w51, w52, w6, hlt3, ct, ey] | refine WP_drw ?_ | refine cnd_intro (fun hsp => ?_) fun hsp => ?_)
            exact ⟨by (repeat first | exact Agree.refl | assumption | refine Agree.put rfl ?_ | refine Agree.put0 ?_ | refine Agree.sub rfl (by assumption) ?_), by omega, yt rfl⟩
          | false =>
            have hsp := @Nat.succ_ne_zero; repeat' (first | simp (disch := first | exact dschE17 | fail) only [go_sem, ↓reduceIte, hsp, r53, w0, w1, w2, w3, w5, w6, w7, w14, w15, w51, w52, w6, hlt3, ct, ey] | refine WP_drw ?_ | refine cnd_intro (fun hsp => ?_) fun hsp => ?_)
            exact .inr (yf rfl)
    · rintro fr2 H2 hA2 ⟨r6, hJ2⟩
      have u0 := hA2 0 rfl
      have u1 := hA2 1 rfl
      have u2 := hA2 2 rfl
      have u3 := hA2 3 rfl
      have u5 := hA2 5 rfl
      have u14 := hA2 14 rfl
      have u15 := hA2 15 rfl
      try simp (disch := first | exact dschE17 | fail) only [go_sem, ↓reduceIte, p0, p1, p2, p3, p14] at u0 u1 u2 u3 u5 u14 u15
      have u15 := hA2 15 rfl; simp (disch := first | exact dschE17 | fail) only [go_sem, ↓reduceIte, r15] at u15
      obtain ⟨hb0, ⟨b1, b2, b3⟩, id', mid, pv, sv, bv, ev, g1, g2, g3, g4, g5, g6, g7⟩ := hI _ H2 (hJ _ H2 hJ2).1
      cases ev
      rw [deskB, eT] at g1
      rw [ptrB] at b1
      rw [boolB, ← em] at b2
      rw [intB] at b3
      rw [← brkN_step] at hJ2
      rcases runF_end (p := fun t => !m.getD t false) (a := n) (n := T - n) with hr | ⟨hr, hr2⟩
      · have hlt2 : (((n + runF (fun t => !m.getD t false) n (T - n) : Nat) : Int) < (T : Int)) = False := eq_false (by omega)
        have hsp := @Nat.succ_ne_zero; repeat' (first | simp (disch := first | exact dschE17 | fail) only [go_sem, ↓reduceIte, hsp, r6, u0, u1, u2, u3, u5, u14, u15, u15, hlt2, b1, b2, b3, g1] | refine WP_drw ?_ | refine cnd_intro (fun hsp => ?_) fun hsp => ?_)
        exact ⟨by (repeat first | exact Agree.refl | assumption | refine Agree.put rfl ?_ | refine Agree.put0 ?_ | refine Agree.sub rfl (by assumption) ?_), by omega, hJ2⟩
      · have hlt2 : (((n + runF (fun t => !m.getD t false) n (T - n) : Nat) : Int) < (T : Int)) = True := eq_true (by omega)
        obtain ⟨q1, q2, q3⟩ := mark_load (k := k) g5 (by omega) g6 g7 (show L.ps.length ≤ 1000 by omega)
        obtain ⟨q4, q5⟩ := q3 (n + runF (fun t => !m.getD t false) n (T - n)) (by omega)
        have hmk : m.getD (n + runF (fun t => !m.getD t false) n (T - n)) false = true := by simpa using hr2
        rw [← em, hmk] at q5
        have hf : freeB m = false := by
          cases hf : freeB m with
          | false => rfl
          | true => rw [freeB_all hf (by omega)] at hmk; cases hmk
        rw [hf] at b2
        have hsp := @Nat.succ_ne_zero; repeat' (first | simp (disch := first | exact dschE17 | fail) only [go_sem, ↓reduceIte, hsp, r6, u0, u1, u2, u3, u5, u14, u15, u15, hlt2, b1, b2, b3, g1, q1, q4, q5] | refine WP_drw ?_ | refine cnd_intro (fun hsp => ?_) fun hsp => ?_)
        exact ⟨by (repeat first | exact Agree.refl | assumption | refine Agree.put rfl ?_ | refine Agree.put0 ?_ | refine Agree.sub rfl (by assumption) ?_), by omega, hJ2⟩
  · rintro fr H hA ⟨r15, hJ1⟩
    have p0 := hA 0 rfl
    have p1 := hA 1 rfl
    have p2 := hA 2 rfl
    have p3 := hA 3 rfl
    have p14 := hA 14 rfl
    try simp (disch := first | exact dschE17 | fail) only [go_sem, ↓reduceIte] at p0 p1 p2 p3 p14
    have hlt : ((T : Int) < (T : Int)) = False := eq_false (by omega)
    have hsp := @Nat.succ_ne_zero; repeat' (first | simp (disch := first | exact dschE17 | fail) only [go_sem, ↓reduceIte, hsp, r15, p0, p1, p2, p3, p14, hlt] | refine WP_drw ?_ | refine cnd_intro (fun hsp => ?_) fun hsp => ?_)
    rw [hle]
    exact .inl hJ1
end Go.AM
/-
  Plain: in how many ways breaks explain a set of sights.
-/
namespace Go.AM
abbrev Way := Nat × List Brk
def wy0 : Way := (0, [])
/-- One set of the ways so far, with one break more. -/
def stepS (now : List Way) (b : Brk) (x : Nat) (next : List Way) (s : Nat) : List Way :=
  if (now.getD s wy0).1 = 0 then next else
    next.set (s ||| x) ((next.getD (s ||| x) wy0).1 + (now.getD s wy0).1, if (next.getD (s ||| x) wy0).1 = 0 ∨ (now.getD s wy0).2.length + 1 < (next.getD (s ||| x) wy0).2.length then (now.getD s wy0).2 ++ [b] else (next.getD (s ||| x) wy0).2)
def stepN (now : List Way) (b : Brk) (x : Nat) (next : List Way) : Nat → List Way
  | 0 => next
  | s + 1 => stepS now b x (stepN now b x next s) s
def stepM (f : Brk → Nat → Bool) (now next : List Way) (q : Brk × Nat) : List Way := if f q.1 q.2 = true then stepN now q.1 q.2 next now.length else next
/-- After the first j breaks of a part. -/
def stepJ (f : Brk → Nat → Bool) (now : List Way) (l : List (Brk × Nat)) : Nat → List Way
  | 0 => now
  | j + 1 => stepM f now (stepJ f now l j) (l.getD j (brk0, 0))
def wayN (L : Lom) (bad : List Int) (ms : List (List Bool)) (f : Brk → Nat → Bool) : Nat → List Way
  | 0 => (List.replicate (2 ^ bad.length) wy0).set 0 (1, [])
  | k + 1 => stepJ f (wayN L bad ms f k) (made L bad ms k) (made L bad ms k).length
def wayA (L : Lom) (bad : List Int) (ms : List (List Bool)) (f : Brk → Nat → Bool) : List Way := wayN L bad ms f L.ps.length
theorem stepS_len {now next : List Way} {b : Brk} {x s : Nat} : (stepS now b x next s).length = next.length := by unfold stepS; split <;> simp
theorem stepN_len {now next : List Way} {b : Brk} {x : Nat} : ∀ s, (stepN now b x next s).length = next.length
  | 0 => rfl
  | s + 1 => by rw [stepN, stepS_len, stepN_len s]
theorem stepM_len {f : Brk → Nat → Bool} {now next : List Way} {q : Brk × Nat} : (stepM f now next q).length = next.length := by unfold stepM; split; exact stepN_len _; rfl
theorem stepJ_len {f : Brk → Nat → Bool} {now : List Way} {l : List (Brk × Nat)} : ∀ j, (stepJ f now l j).length = now.length
  | 0 => rfl
  | j + 1 => by rw [stepJ, stepM_len, stepJ_len j]
theorem wayN_len {L : Lom} {bad : List Int} {ms : List (List Bool)} {f : Brk → Nat → Bool} : ∀ k, (wayN L bad ms f k).length = 2 ^ bad.length
  | 0 => by simp [wayN]
  | k + 1 => by rw [wayN, stepJ_len, wayN_len k]
/-! ### Sums -/
def tot (l : List Way) : Nat := (l.map (·.1)).sum
theorem tot_set : ∀ {l : List Way} {i : Nat} {w : Way}, i < l.length → tot (l.set i w) + (l.getD i wy0).1 = tot l + w.1
  | [], i, w, h => by simp at h
  | x :: l, 0, w, _ => by simp [tot]; omega
  | x :: l, i + 1, w, h => by
    have ih := tot_set (l := l) (i := i) (w := w) (by simpa using h)
    simp only [tot, List.set_cons_succ, List.map_cons, List.sum_cons, List.getD_cons_succ] at ih ⊢
    omega
theorem tot_get : ∀ {l : List Way} {i : Nat}, (l.getD i wy0).1 ≤ tot l
  | [], i => by simp [wy0]
  | x :: l, 0 => by simp [tot]
  | x :: l, i + 1 => by
    have ih := tot_get (l := l) (i := i)
    simp only [tot, List.map_cons, List.sum_cons, List.getD_cons_succ] at ih ⊢
    omega
theorem tot_take {l : List Way} {s : Nat} (h : s < l.length) : tot (l.take (s + 1)) = tot (l.take s) + (l.getD s wy0).1 := by
  have e : l.take (s + 1) = l.take s ++ [l.getD s wy0] := by
    rw [List.take_add_one, List.getElem?_eq_getElem h, List.getD_eq_getElem?_getD, List.getElem?_eq_getElem h]; rfl
  rw [e]
  simp only [tot, List.map_append, List.sum_append, List.map_cons, List.map_nil, List.sum_cons, List.sum_nil, Nat.add_zero]
theorem tot_take_le {l : List Way} (s : Nat) : tot (l.take s) ≤ tot l := by
  have e : tot l = tot (l.take s) + tot (l.drop s) := by
    have : l = l.take s ++ l.drop s := by simp
    conv => lhs; rw [this]
    simp only [tot, List.map_append, List.sum_append]
  omega
/-- Sets of bits stay below the number of all sets. -/
def Below (n x : Nat) : Prop := ∀ s, s < n → s ||| x < n
theorem stepN_tot {now next : List Way} {b : Brk} {x : Nat} (hl : next.length = now.length) (hx : Below now.length x) : ∀ s, s ≤ now.length → tot (stepN now b x next s) = tot next + tot (now.take s)
  | 0, _ => by simp [stepN, tot]
  | s + 1, h => by
    have ih := stepN_tot (b := b) hl hx s (by omega)
    rw [stepN, tot_take (by omega)]
    unfold stepS
    split
    · rename_i h0; rw [ih, h0, Nat.add_zero]
    · have := tot_set (l := stepN now b x next s) (i := s ||| x) (w := ((List.getD (stepN now b x next s) (s ||| x) wy0).1 + (now.getD s wy0).1, if (List.getD (stepN now b x next s) (s ||| x) wy0).1 = 0 ∨ (now.getD s wy0).2.length + 1 < (List.getD (stepN now b x next s) (s ||| x) wy0).2.length then (now.getD s wy0).2 ++ [b] else (List.getD (stepN now b x next s) (s ||| x) wy0).2)) (by rw [stepN_len, hl]; exact hx s (by omega))
      omega
theorem stepJ_tot {f : Brk → Nat → Bool} {now : List Way} {l : List (Brk × Nat)} (hx : ∀ q ∈ l, Below now.length q.2) : ∀ j, j ≤ l.length → tot (stepJ f now l j) ≤ (j + 1) * tot now
  | 0, _ => by simp [stepJ]
  | j + 1, h => by
    have ih := stepJ_tot (f := f) hx j (by omega)
    have e : (j + 1 + 1) * tot now = (j + 1) * tot now + tot now := by rw [Nat.succ_mul]
    rw [stepJ]
    unfold stepM
    split
    · rw [stepN_tot (stepJ_len j) (hx _ (List.mem_of_getElem? (getD_some (by omega)))) _ (Nat.le_refl _), List.take_length]
      omega
    · omega
/-- No list of breaks is longer than k. -/
def shortW (k : Nat) (l : List Way) : Prop := ∀ w ∈ l, w.2.length ≤ k
theorem shortW_get {k s : Nat} {l : List Way} (h : shortW k l) : (l.getD s wy0).2.length ≤ k := by
  by_cases hs : s < l.length
  · exact h _ (List.mem_of_getElem? (getD_some hs))
  · rw [List.getD_eq_getElem?_getD, List.getElem?_eq_none (by omega)]; simp [wy0]
theorem stepS_short {now next : List Way} {b : Brk} {x s k : Nat} (h1 : shortW k now) (h2 : shortW (k + 1) next) : shortW (k + 1) (stepS now b x next s) := by
  unfold stepS
  split
  · exact h2
  · intro w hw
    rcases List.mem_or_eq_of_mem_set hw with q | rfl
    · exact h2 w q
    · dsimp only
      split
      · have := shortW_get (s := s) h1
        rw [List.length_append]; simp only [List.length_cons, List.length_nil]; omega
      · exact shortW_get h2
theorem stepN_short {now next : List Way} {b : Brk} {x k : Nat} (h1 : shortW k now) (h2 : shortW (k + 1) next) : ∀ s, shortW (k + 1) (stepN now b x next s)
  | 0 => h2
  | s + 1 => stepS_short h1 (stepN_short h1 h2 s)
theorem stepJ_short {f : Brk → Nat → Bool} {now : List Way} {l : List (Brk × Nat)} {k : Nat} (h : shortW k now) : ∀ j, shortW (k + 1) (stepJ f now l j)
  | 0 => fun w hw => Nat.le_succ_of_le (h w hw)
  | j + 1 => by
    rw [stepJ]
    unfold stepM
    split
    · exact stepN_short h (stepJ_short h j) _
    · exact stepJ_short h j
theorem wayN_short {L : Lom} {bad : List Int} {ms : List (List Bool)} {f : Brk → Nat → Bool} : ∀ k, shortW k (wayN L bad ms f k)
  | 0 => fun w hw => by
    rcases List.mem_or_eq_of_mem_set hw with q | rfl
    · rw [(List.mem_replicate.1 q).2]; simp [wy0]
    · simp
  | k + 1 => stepJ_short (wayN_short k) _
/-! ### How many breaks a part has -/
theorem brkN_len {k T : Nat} {m : List Bool} : ∀ n, n ≤ T → (brkN k m T n).length ≤ n * T
  | 0, _ => by simp [brkN]
  | n + 1, h => by
    have ih := brkN_len (k := k) (T := T) (m := m) n (by omega)
    have := runF_le (p := fun t => !m.getD t false) (n := T - n) (a := n)
    have e := brkN_step (k := k) (T := T) (n := n) (m := m)
    rw [Nat.succ_mul]
    omega
theorem made_len {L : Lom} {bad : List Int} {ms : List (List Bool)} {k : Nat} (hT : L.T ≤ 12) : (made L bad ms k).length ≤ 144 := by
  have := brkN_len (k := k) (m := ms.getD k []) (T := L.T.toNat) L.T.toNat (Nat.le_refl _)
  rw [made, List.length_map, brkL]
  exact Nat.le_trans this (show L.T.toNat * L.T.toNat ≤ 12 * 12 from Nat.mul_le_mul (by omega) (by omega))
theorem bits_below {L : Lom} {bad : List Int} {b : Brk} : Below (2 ^ bad.length) (bits L bad b) := fun s hs => Nat.or_lt_two_pow hs (bitN_lt bad.length)
theorem made_below {L : Lom} {bad : List Int} {ms : List (List Bool)} {k : Nat} : ∀ q ∈ made L bad ms k, Below (2 ^ bad.length) q.2 := fun q hq => by
  obtain ⟨b, _, rfl⟩ := List.mem_map.1 hq
  exact bits_below
theorem wayN_tot {L : Lom} {bad : List Int} {ms : List (List Bool)} {f : Brk → Nat → Bool} (hT : L.T ≤ 12) : ∀ k, tot (wayN L bad ms f k) ≤ 145 ^ k
  | 0 => by
    have e := tot_set (l := List.replicate (2 ^ bad.length) wy0) (i := 0) (w := (1, [])) (by simp; exact Nat.two_pow_pos _)
    have e2 : tot (List.replicate (2 ^ bad.length) wy0) = 0 := by simp [tot, wy0]
    simp only [wayN]
    omega
  | k + 1 => by
    have ih := wayN_tot (bad := bad) (ms := ms) (f := f) hT k
    have h1 := stepJ_tot (f := f) (now := wayN L bad ms f k) (l := made L bad ms k) (by rw [wayN_len]; exact made_below) _ (Nat.le_refl _)
    have h2 := made_len (bad := bad) (ms := ms) (k := k) hT
    rw [wayN, Nat.pow_succ, Nat.mul_comm]
    exact Nat.le_trans h1 (Nat.mul_le_mul (by omega) ih)
end Go.AM
/-
  Ways in memory; copies of slices of structs.
-/
namespace Go.AM
open Go.Proofs.Tryz
theorem dschE19 {p : Prop} (h : p := by first | exact Nat.ne_of_beq_eq_false rfl | assumption | (apply asOne; (first | exact One.int | exact One.bool | assumption | exact Ints.one (by assumption) | exact Rows.one (by assumption) | exact Own.one (by assumption) | exact One.lit ⟨rfl, rfl, rfl⟩)) | (apply asInts; (repeat first | assumption | exact ints_nil | apply Ints.app); done) | (apply asRows; (repeat first | assumption | exact Rows.nil | apply Rows.app); done) | (apply asScal; (first | apply allS1 | apply allS2 | apply allS3 | apply allS4) <;> (first | exact One.int | exact One.bool | assumption | exact Ints.one (by assumption) | exact Rows.one (by assumption) | exact Own.one (by assumption) | exact One.lit ⟨rfl, rfl, rfl⟩)) | exact litT rfl | exact litF rfl | omega | (simp only [List.length_append, List.length_cons, List.length_nil, List.length_set, List.length_reverse]; first | done | omega) | fail) : p := h
/-- A way in memory. -/
structure WyV where
  many : Int
  v : AVal
def encW : Enc WyV := ⟨2, fun w => [.int .i64 w.many, norm w.v], fun _ => rfl, by decide⟩
theorem encW_sc : ∀ y, (encW.cells y).all AVal.scalar = true := fun y => by
  have : (norm y.v).scalar = true := by unfold norm; split <;> simp_all [AVal.scalar]
  simp only [encW, List.all_cons, this, List.all_nil]
  rfl
/-- A slice that is read, whose block is none of some. -/
def Off (X : List Nat) (v : AVal) : Prop := ∀ r n c, v = .slice (some r) n c → r.id ∉ X
/-- Ways that are read; X: blocks that none of their slices lies in. -/
def RelW (lo : Nat) (H : Heap) (X : List Nat) (vs : List WyV) (l : List Way) : Prop :=
  vs.length = l.length ∧ ∀ (i : Nat) x w, vs[i]? = some x → l[i]? = some w → x.many = (w.1 : Int) ∧ Own encB 75 lo H x.v w.2 ∧ Off X x.v
theorem Own.setOff {α : Type} {E : Enc α} {e : TypeId} {b i : Nat} {h : Heap} {v : AVal} {l : List α} {X : List Nat} {k : ABlk} (x : Own E e b h v l) (hX : Off X v) (hi : i ∈ X) : Own E e b (h.set i k) v l := by
  rcases x with ⟨rfl, rfl⟩ | ⟨id, ver, rfl, h1, h2, h3⟩
  · exact .nil
  · have hne : i ≠ id := fun e => hX _ _ _ rfl (e ▸ hi)
    exact .inr ⟨id, ver, rfl, by rw [List.getElem?_set_ne hne]; exact h1, h2, h3⟩
theorem Own.lowid {α : Type} {E : Enc α} {e : TypeId} {b : Nat} {h : Heap} {v : AVal} {l : List α} (x : Own E e b h v l) : ∀ r n c, v = .slice (some r) n c → r.id < h.length := by
  intro r n c q
  rcases x with ⟨rfl, _⟩ | ⟨id, ver, rfl, h1, _, _⟩
  · cases q
  · cases q; exact lt_of_get h1
section
variable {lo : Nat} {H H' : Heap} {X : List Nat} {vs : List WyV} {l : List Way}
theorem RelW.ext (x : RelW lo H X vs l) (e : Ext H H') : RelW lo H' X vs l := ⟨x.1, fun i a w h1 h2 => ⟨(x.2 i a w h1 h2).1, (x.2 i a w h1 h2).2.1.ext e, (x.2 i a w h1 h2).2.2⟩⟩
theorem RelW.set {i : Nat} {b : ABlk} (x : RelW lo H X vs l) (hi : i ∈ X) : RelW lo (H.set i b) X vs l := ⟨x.1, fun j a w h1 h2 => by
  obtain ⟨q1, q2, q3⟩ := x.2 j a w h1 h2
  exact ⟨q1, q2.setOff q3 hi, q3⟩⟩
theorem RelW.more {i : Nat} (x : RelW lo H X vs l) (hi : H.length ≤ i) : RelW lo H (i :: X) vs l := ⟨x.1, fun j a w h1 h2 => by
  obtain ⟨q1, q2, q3⟩ := x.2 j a w h1 h2
  refine ⟨q1, q2, fun r n c e hm => ?_⟩
  rcases List.mem_cons.1 hm with q | q
  · have := q2.lowid r n c e; omega
  · exact q3 r n c e q⟩
theorem RelW.low {lo' : Nat} (x : RelW lo H X vs l) (hb : lo' ≤ lo) : RelW lo' H X vs l := ⟨x.1, fun j a w h1 h2 => by
  obtain ⟨q1, q2, q3⟩ := x.2 j a w h1 h2
  exact ⟨q1, q2.low hb, q3⟩⟩
theorem RelW.less {Y : List Nat} (x : RelW lo H X vs l) (hY : ∀ i ∈ Y, i ∈ X) : RelW lo H Y vs l := ⟨x.1, fun j a w h1 h2 => by
  obtain ⟨q1, q2, q3⟩ := x.2 j a w h1 h2
  exact ⟨q1, q2, fun r n c e hm => q3 r n c e (hY _ hm)⟩⟩
theorem RelW.upd {i : Nat} {y : WyV} {w : Way} (x : RelW lo H X vs l) (h1 : y.many = (w.1 : Int)) (h2 : Own encB 75 lo H y.v w.2) (h3 : Off X y.v) : RelW lo H X (vs.set i y) (l.set i w) := by
  refine ⟨by rw [List.length_set, List.length_set]; exact x.1, fun j a u g1 g2 => ?_⟩
  rw [List.getElem?_set] at g1 g2
  by_cases e : i = j
  · subst e
    rw [if_pos rfl] at g1 g2
    split at g1
    · split at g2
      · cases g1; cases g2; exact ⟨h1, h2, h3⟩
      · cases g2
    · cases g1
  · rw [if_neg e] at g1 g2
    exact x.2 j a u g1 g2
end
/-! ### Copies -/
section
variable {α : Type} {E : Enc α} {P : Program} {base : Nat} {h : Heap} {v : AVal} {l : List α} {t e : TypeId} {zs : List AVal}
theorem Rows.nilEq (hR : Rows E h v l) (hl : l ≠ []) (ht : P.underlying t = some (.slice e)) : binA P .eql t v (.slice .none 0 0) = some (.bool false) := by
  rcases hR.2 with ⟨rfl, rfl⟩ | ⟨rfl, rfl⟩ | ⟨r, k, c, e, row, ro, rfl, _⟩
  · exact absurd rfl hl
  · exact absurd rfl hl
  · simp [binA, eqT, eqDepth, ht, nilS]
theorem nilEq0 (ht : P.underlying t = some (.slice e)) : binA P .eql t (.slice .none 0 0) (.slice .none 0 0) = some (.bool true) := by simp [binA, eqT, eqDepth, ht, nilS]
theorem app_empE (hR : Rows E h v l) (hl : l ≠ []) (hs : ∀ y, (E.cells y).all AVal.scalar = true) (hsz : l.length < 2147483648) (ht : elS P t = some (e, E.z, zs)) :
    appendA P base h t .emp v = some (.slice (some ⟨h.length, 0, 0⟩) l.length l.length, h ++ [rowE E e l 0]) := by
  have hn : l.length ≠ 0 := fun q => hl (List.eq_nil_of_length_eq_zero q)
  simp only [appendA, ht, hR.lenA, hR.firstN, flat_scalar hs, if_true]
  rw [if_neg hn, if_pos (show l.length < 2 ^ 31 by omega)]
  first | done | rfl
end
theorem run_cloneW {base : Nat} {h : Heap} {v : AVal} {vs : List WyV} (hR : Rows encW h v vs) (hl : vs ≠ []) (hs : vs.length < 2147483648) :
    callL prog raw base (.fn 135 [] []) [v] h = some (.slice (some ⟨h.length, 0, 0⟩) vs.length vs.length, h ++ [rowE encW 148 vs 0]) := by
  have e := hR.nilEq hl Fc.un135
  have ha := fun base => app_empE (base := base) hR hl encW_sc hs Fc.el135
  refine callL_raw func135 rfl (by kernel_rfl) ?_
  have hsp := @Nat.succ_ne_zero; repeat' (first | simp (disch := first | exact dschE19 | fail) only [go_sem, hsp, e, bs_emp Fc.el135, ha] | refine WP_drw ?_ | refine cnd_intro (fun hsp => ?_) fun hsp => ?_)
theorem run_cloneB {base lo : Nat} {h : Heap} {v : AVal} {l : List Brk} (hO : Own encB 75 lo h v l) (hs : l.length < 2147483648) :
    Ret prog raw base (.fn 136 [] []) [v] h (fun v' H => Ext h H ∧ Own encB 75 h.length H v' l) := by
  by_cases hl : l = []
  · subst hl
    obtain rfl : v = .slice none 0 0 := by
      rcases hO with ⟨rfl, _⟩ | ⟨id, ver, rfl, _, _, h3⟩
      · rfl
      · simp at h3
    have e := nilEq0 (P := prog) Fc.un60
    refine ret_raw func136 rfl (by kernel_rfl) ?_
    have hsp := @Nat.succ_ne_zero; repeat' (first | simp (disch := first | exact dschE19 | fail) only [go_sem, hsp, e] | refine WP_drw ?_ | refine cnd_intro (fun hsp => ?_) fun hsp => ?_)
    exact ⟨.refl, Own.nil⟩
  · have hR := hO.rows (by omega)
    have e := hR.nilEq hl Fc.un60
    have ha := fun base => app_empE (base := base) hR hl encB_sc hs Fc.el60
    refine ret_raw func136 rfl (by kernel_rfl) ?_
    have hsp := @Nat.succ_ne_zero; repeat' (first | simp (disch := first | exact dschE19 | fail) only [go_sem, hsp, e, bs_emp Fc.el60, ha] | refine WP_drw ?_ | refine cnd_intro (fun hsp => ?_) fun hsp => ?_)
    have hn : l.length ≠ 0 := fun q => hl (List.eq_nil_of_length_eq_zero q)
    exact ⟨.app .refl, .inr ⟨h.length, 0, rfl, get_eq rfl, Nat.le_refl _, by omega⟩⟩
/-- A slice that is one's own, and no other block. -/
theorem Own.off {α : Type} {E : Enc α} {e : TypeId} {b : Nat} {h : Heap} {v : AVal} {l : List α} {X : List Nat} (x : Own E e b h v l) (hX : ∀ i ∈ X, i < b) : Off X v := by
  intro r n c q hm
  rcases x with ⟨rfl, _⟩ | ⟨id, ver, rfl, _, h2, _⟩
  · cases q
  · cases q
    have : id < b := hX _ hm
    omega
end Go.AM
/-
  Contracts: in how many ways breaks that are let explain each set of sights.
-/
namespace Go.AM
open Go.Proofs.Tryz
attribute [-go_sem] put_ne put_same
attribute [local go_sem ↓] put_if
def slB (id n : Nat) : ABlk := ⟨.cells [.slice (some ⟨id, 0, 0⟩) n n] 135 false false, 0⟩
def wyB (vs : List WyV) : ABlk := rowE encW 148 vs 0
/-- What holds while the ways of a part are made: h1 what was there, a the variable with the ways so far, whose block is nid; N the block of the next ones. -/
def WI (h1 : Heap) (v : AVal) (p : Nat) (fr : Bool) (a nid N n : Nat) (vs : List WyV) (now nx : List Way) (H : Heap) : Prop :=
  (h1.length ≤ N ∧ a < N ∧ nid < N) ∧ Ext h1 H ∧ BoxAt H (N + 2) (N + 4) (N + 3) v p fr ∧ H[a]? = some (slB nid n) ∧ H[nid]? = some (wyB vs) ∧ H[N + 1]? = some (slB N n) ∧ RelW h1.length H [N, N + 5] vs now ∧ ∃ vs2, H[N]? = some (wyB vs2) ∧ RelW h1.length H [N, N + 5] vs2 nx
section
variable {h1 H H' : Heap} {v : AVal} {p a nid N n : Nat} {fr : Bool} {vs : List WyV} {now nx : List Way}
theorem WI.ext (x : WI h1 v p fr a nid N n vs now nx H) (e : Ext H H') : WI h1 v p fr a nid N n vs now nx H' := by
  obtain ⟨b, x1, x2, x3, x4, x5, x6, vs2, x7, x8⟩ := x
  exact ⟨b, x1.trans e, x2.ext e, e.get x3, e.get x4, e.get x5, x6.ext e, vs2, e.get x7, x8.ext e⟩
theorem WI.set5 {k : ABlk} (x : WI h1 v p fr a nid N n vs now nx H) : WI h1 v p fr a nid N n vs now nx (H.set (N + 5) k) := by
  obtain ⟨b, x1, ⟨x2, x2', x2''⟩, x3, x4, x5, x6, vs2, x7, x8⟩ := x
  exact ⟨b, x1.set (by omega), ⟨by rw [get_set_ne (by omega)]; exact x2, by rw [get_set_ne (by omega)]; exact x2', by rw [get_set_ne (by omega)]; exact x2''⟩, by rw [get_set_ne (by omega)]; exact x3, by rw [get_set_ne (by omega)]; exact x4, by rw [get_set_ne (by omega)]; exact x5, x6.set (by simp), vs2, by rw [get_set_ne (by omega)]; exact x7, x8.set (by simp)⟩
theorem WI.put {vs2 : List WyV} {nx' : List Way} (x : WI h1 v p fr a nid N n vs now nx H) (y : RelW h1.length H [N, N + 5] vs2 nx') : WI h1 v p fr a nid N n vs now nx' (H.set N (wyB vs2)) := by
  obtain ⟨b, x1, ⟨x2, x2', x2''⟩, x3, x4, x5, x6, vs0, x7, x8⟩ := x
  exact ⟨b, x1.set (by omega), ⟨by rw [get_set_ne (by omega)]; exact x2, by rw [get_set_ne (by omega)]; exact x2', by rw [get_set_ne (by omega)]; exact x2''⟩, by rw [get_set_ne (by omega)]; exact x3, by rw [get_set_ne (by omega)]; exact x4, by rw [get_set_ne (by omega)]; exact x5, x6.set (by simp), vs2, by rw [List.getElem?_set_self (lt_of_get x7)], y.set (by simp)⟩
end
theorem encW_cells {w : WyV} (h : One w.v) : encW.cells w = [.int .i64 w.many, w.v] := by simp only [encW, norm_one h]
theorem flatW_get {vs : List WyV} {i : Nat} {w : WyV} (hg : vs[i]? = some w) (h : One w.v) : (flat encW vs)[i * 2]? = some (.int .i64 w.many) ∧ (flat encW vs)[i * 2 + 1]? = some w.v := by
  have e := flat_get encW hg
  rw [encW_cells h, show encW.z = 2 from rfl] at e
  have h0 : ((flat encW vs).drop (i * 2)).take 2 = [.int .i64 w.many, w.v] := e
  have g : ∀ j, j < 2 → (flat encW vs)[i * 2 + j]? = ([AVal.int .i64 w.many, w.v] : List AVal)[j]? := fun j hj => by
    rw [← h0, List.getElem?_take, if_pos hj, List.getElem?_drop]
  exact ⟨g 0 (by decide), g 1 (by decide)⟩
theorem flatW_set {vs : List WyV} {i : Nat} {w u : WyV} (hg : vs[i]? = some w) (h : One w.v) (hu : One u.v) :
    (u.v = w.v → (flat encW vs).set (i * 2) (.int .i64 u.many) = flat encW (vs.set i u)) ∧ (u.many = w.many → (flat encW vs).set (i * 2 + 1) u.v = flat encW (vs.set i u)) := by
  have hi := (List.getElem?_eq_some_iff.1 hg).1
  have e := flat_set encW (x := u) hi
  have e2 := flat_set encW (x := w) hi
  have hw : vs.set i w = vs := by have := (List.getElem?_eq_some_iff.1 hg).2; rw [← this, List.set_getElem_self]
  have hl := flat_len encW vs
  rw [show encW.z = 2 from rfl] at e e2 hl
  rw [hw] at e2
  have hle : (i + 1) * 2 ≤ vs.length * 2 := Nat.mul_le_mul_right _ hi
  have ht : ((flat encW vs).take (i * 2)).length = i * 2 := by rw [List.length_take]; omega
  rw [encW_cells hu] at e
  rw [encW_cells h] at e2
  rw [e]
  refine ⟨fun q => ?_, fun q => ?_⟩
  · conv => lhs; rw [e2]
    rw [List.append_assoc, List.set_append_right _ _ (by omega), ht, Nat.sub_self, q]
    simp
  · conv => lhs; rw [e2]
    rw [List.append_assoc, List.set_append_right _ _ (by omega), ht, show i * 2 + 1 - i * 2 = 1 by omega, q]
    simp
theorem ldW {vs : List WyV} {i : Nat} {w : WyV} (hg : vs[i]? = some w) (h : One w.v) : ldB (some (false, 1)) (some (wyB vs)) 0 (i * 2) = some (.int .i64 w.many) ∧ ldB (some (false, 1)) (some (wyB vs)) 0 (i * 2 + 1) = some w.v := by
  unfold wyB rowE
  rw [ldB_cell, ldB_cell]
  exact flatW_get hg h
theorem stW {vs : List WyV} {i base N : Nat} {w u : WyV} {K : ABlk → Heap} (hb : base ≤ N) (hg : vs[i]? = some w) (h : One w.v) (hu : One u.v) :
    (u.v = w.v → stQ base N (some (wyB vs)) 0 (i * 2) [.int .i64 u.many] K = some (K (wyB (vs.set i u)))) ∧ (u.many = w.many → stQ base N (some (wyB vs)) 0 (i * 2 + 1) [u.v] K = some (K (wyB (vs.set i u)))) := by
  have hi := (List.getElem?_eq_some_iff.1 hg).1
  have hl := flat_len encW vs
  rw [show encW.z = 2 from rfl] at hl
  have hle : (i + 1) * 2 ≤ vs.length * 2 := Nat.mul_le_mul_right _ hi
  obtain ⟨q1, q2⟩ := flatW_set hg h hu
  unfold wyB rowE
  refine ⟨fun q => ?_, fun q => ?_⟩
  · rw [stQ_own hb (by simp only [List.length_cons, List.length_nil]; omega) (by simp [AVal.scalar])]
    simp only [splice, q1 q]
  · rw [stQ_own hb (by simp only [List.length_cons, List.length_nil]; omega) (by simp [hu.2.2])]
    simp only [splice, q2 q]
theorem RelW.get {lo : Nat} {H : Heap} {X : List Nat} {vs : List WyV} {l : List Way} (x : RelW lo H X vs l) {i : Nat} (hi : i < l.length) : ∃ w, vs[i]? = some w ∧ w.many = ((l.getD i wy0).1 : Int) ∧ Own encB 75 lo H w.v (l.getD i wy0).2 ∧ Off X w.v ∧ One w.v := by
  have h1 : i < vs.length := by rw [x.1]; exact hi
  refine ⟨vs[i], List.getElem?_eq_getElem h1, ?_⟩
  obtain ⟨q1, q2, q3⟩ := x.2 i _ _ (List.getElem?_eq_getElem h1) (getD_some (d := wy0) hi)
  exact ⟨q1, q2, q3, q2.one⟩
theorem ldWA {vs : List WyV} {i : Nat} {w : WyV} (hg : vs[i]? = some w) (h : One w.v) : ldB (some (true, 2)) (some (wyB vs)) 0 (i * 2) = some (.agg [.int .i64 w.many, w.v]) := by
  have hi := (List.getElem?_eq_some_iff.1 hg).1
  have e := flat_get encW hg
  rw [encW_cells h, show encW.z = 2 from rfl] at e
  have hl := flat_len encW vs
  rw [show encW.z = 2 from rfl] at hl
  have hle : (i + 1) * 2 ≤ vs.length * 2 := Nat.mul_le_mul_right _ hi
  unfold wyB rowE
  rw [ldB_agg (by omega), e]
theorem RelW.setBox {lo : Nat} {H : Heap} {X : List Nat} {vs : List WyV} {l : List Way} {a m n : Nat} {k : ABlk} (x : RelW lo H X vs l) (hg : H[a]? = some (slB m n)) : RelW lo (H.set a k) X vs l := ⟨x.1, fun j y w h1 h2 => by
  obtain ⟨q1, q2, q3⟩ := x.2 j y w h1 h2
  refine ⟨q1, ?_, q3⟩
  rcases q2 with q | ⟨id, ver, e1, e2, e3⟩
  · exact .inl q
  · have hne : a ≠ id := by
      rintro rfl
      rw [hg] at e2
      simp [slB, rowE] at e2
    exact .inr ⟨id, ver, e1, by rw [List.getElem?_set_ne hne]; exact e2, e3⟩⟩
theorem bsB {lit : Bool} {h : Heap} {a b c : Int} : bsA prog lit h 60 1 [(0, .agg [.int .i64 a, .int .i64 b, .int .i64 c])] = some (.slice (some ⟨h.length, 0, 0⟩) 1 1, h ++ [rowE encB 75 [(a, b, c)] 0]) := by
  simp [bsA, rowOf, Fc.el60, fillA, repCells, AVal.isN, AVal.cells, splice, rowE, flat, encB]
/-- Ways that are read. -/
def WaysAt (lo : Nat) (H : Heap) (w : AVal) (l : List Way) : Prop := ∃ nid vs, w = .slice (some ⟨nid, 0, 0⟩) l.length l.length ∧ H[nid]? = some (wyB vs) ∧ RelW lo H [] vs l
end Go.AM
